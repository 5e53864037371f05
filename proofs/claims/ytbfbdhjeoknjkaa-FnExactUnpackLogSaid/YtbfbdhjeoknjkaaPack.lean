/-
  A log's numbers, and PackLog on both sides, walked.
-/
import Derived.Test.YtbfbdhjeoknjkaaLogOk
import Derived.Test.YtbfbdhjeoknjkaaSeek
import Derived.Test.YtbfbdhjeoknjkaaNums
import Derived.Test.YtbfbdhjeoknjkaaMg3
import Derived.Test.YtbfbdhjeoknjkaaMg1
import Derived.Deep.DeepCutAuto
import Derived.IntWalk
namespace Go.Proofs.Ytbfbdhjeoknjkaa
open Go.RowKit

def pC (c : CellD) : List Int := [c.key, c.value]
def pS (s : SeatD) : List Int := [s.client, s.req, s.answer + 1]
def pE (e : EntryD) : List Int := [e.client, e.req, e.cmd.kind, e.cmd.key, e.cmd.value]
def pack1 (l : LogD) : List Int := [l.base, (l.image.cells.length : Int)]
def pack2 (l : LogD) : List Int := pack1 l ++ l.image.cells.flatMap pC ++ [(l.image.seats.length : Int)]
def pack3 (l : LogD) : List Int := pack2 l ++ l.image.seats.flatMap pS ++ [(l.entries.length : Int)]
/-- A log's numbers, in the wire's order. -/
def packNums (l : LogD) : List Int := pack3 l ++ l.entries.flatMap pE
def packL (l : LogD) : List UInt8 × Bool := if logOk l then (putNums (packNums l), true) else ([], false)
theorem packL_no {l : LogD} (h : logOk l = false) : packL l = ([], false) := by simp [packL, h]
theorem packL_ok {l : LogD} (h : logOk l = true) : packL l = (putNums (packNums l), true) := by simp [packL, h]
theorem flat_len {α β : Type} {f : α → List β} {z : Nat} (h : ∀ x, (f x).length = z) (l : List α) : (l.flatMap f).length = z * l.length := by
  induction l with
  | nil => simp
  | cons a l ih => rw [List.flatMap_cons, List.length_append, ih, h, List.length_cons, Nat.mul_add]; omega
theorem snoc_form {α : Type} {f : α → List Int} (P : List Int) (l : List α) {j : Nat} {y : α} (hy : l[j]? = some y) : (P ++ (l.take (j + 1)).flatMap f).flatMap eI = (P ++ (l.take j).flatMap f).flatMap eI ++ (f y).flatMap eI := by
  rw [take_snoc hy]
  simp [List.flatMap_append]
theorem pC_len (x : CellD) : (pC x).length = 2 := rfl
theorem pS_len (x : SeatD) : (pS x).length = 3 := rfl
theorem pE_len (x : EntryD) : (pE x).length = 5 := rfl
theorem packNums_len (l : LogD) : (packNums l).length = 2 + 2 * l.image.cells.length + 1 + 3 * l.image.seats.length + 1 + 5 * l.entries.length := by
  unfold packNums pack3 pack2 pack1
  simp only [List.length_append, flat_len pC_len, flat_len pS_len, flat_len pE_len, List.length_cons, List.length_nil]
theorem seat_small {l : LogD} (h : logOk l = true) {k : Nat} {y : SeatD} (hy : l.image.seats[k]? = some y) : -1 ≤ y.answer ∧ y.answer ≤ 1000000000 := by
  have hi := imageOk_iff.1 (logOk_iff.1 h).image
  exact (hi.seats.val y (List.mem_of_getElem? hy)).2
theorem packNums_small {l : LogD} (h : logOk l = true) : ∀ x ∈ packNums l, 0 ≤ x ∧ x ≤ 1000000001 := by
  have hg := logOk_iff.1 h
  have hi := imageOk_iff.1 hg.image
  have h1 := hg.base
  have h2 := hg.last
  have h3 := hg.many
  have h4 := hi.nc
  have h5 := hi.ns
  have hc : ∀ c ∈ l.image.cells, ∀ x ∈ pC c, 0 ≤ x ∧ x ≤ 1000000001 := by
    intro c hc x hx
    have a1 := hi.cells.val c hc
    have a2 := hi.cells.asc.2 c.key (List.mem_map.2 ⟨c, hc, rfl⟩)
    simp only [pC, List.mem_cons, List.not_mem_nil, or_false] at hx
    rcases hx with rfl | rfl <;> omega
  have hs : ∀ c ∈ l.image.seats, ∀ x ∈ pS c, 0 ≤ x ∧ x ≤ 1000000001 := by
    intro c hc x hx
    have a1 := hi.seats.val c hc
    have a2 := hi.seats.asc.2 c.client (List.mem_map.2 ⟨c, hc, rfl⟩)
    simp only [pS, List.mem_cons, List.not_mem_nil, or_false] at hx
    rcases hx with rfl | rfl | rfl <;> omega
  have he : ∀ c ∈ l.entries, ∀ x ∈ pE c, 0 ≤ x ∧ x ≤ 1000000001 := by
    intro c hc x hx
    have a := List.all_eq_true.1 hg.all c hc
    unfold entryOk cmdOk at a
    simp only [Bool.and_eq_true, wholeB_iff, inB_iff] at a
    obtain ⟨a1, a2, a3⟩ := a
    simp only [pE, List.mem_cons, List.not_mem_nil, or_false] at hx
    split at a3
    · rename_i hk
      simp only [Bool.and_eq_true, wholeB_iff, beq_iff_eq] at a3
      rcases hx with rfl | rfl | rfl | rfl | rfl <;> omega
    · split at a3
      · rename_i hk
        simp only [Bool.and_eq_true, wholeB_iff] at a3
        rcases hx with rfl | rfl | rfl | rfl | rfl <;> omega
      · cases a3
  intro x hx
  unfold packNums pack3 pack2 pack1 at hx
  simp only [List.mem_append, List.mem_flatMap, List.mem_cons, List.not_mem_nil, or_false] at hx
  rcases hx with (((((rfl | rfl) | ⟨c, h6, h7⟩) | rfl) | ⟨c, h6, h7⟩) | rfl) | ⟨c, h6, h7⟩
  all_goals first | omega | exact hc c h6 x h7 | exact hs c h6 x h7 | exact he c h6 x h7

theorem packL_nk (l : LogD) : NK_ByteS (packL l).1 ≤ 65536 := by
  cases h : logOk l with
  | false => rw [packL_no h]; simp [NK_ByteS]
  | true =>
    have hi := imageOk_iff.1 (logOk_iff.1 h).image
    have h1 := hi.nc
    have h2 := hi.ns
    have h3 := (logOk_iff.1 h).many
    have h4 := packNums_len l
    have h5 := putNums_len (packNums l) (fun x hx => by have := packNums_small h x hx; omega)
    rw [packL_ok h]
    unfold NK_ByteS
    dsimp only
    omega


set_option maxRecDepth 100000 in
set_option maxHeartbeats 8000000 in
theorem packLog_i (v : Value) (l : LogD) (w : World) (B : Nat) (hr : R_Log w B v l) (hB : B ≤ w.heap.size) :
    Calls Try.prog 17 #[v] w fun e w' => ∃ v', e = .returned (.tuple #[v', .bool (packL l).2]) ∧ OwnS w' w.heap.size w'.heap.size 5 1 eB v' (packL l).1 ∧ Ext w w' := by
  have hr0 := hr
  obtain ⟨u, s, t, rfl, hu, hs, ht⟩ := hr
  obtain ⟨A0, n0, c0, rfl, hl0, hnc0, hcm0, hrd0⟩ := hu
  obtain ⟨A1, n1, c1, rfl, hl1, hnc1, hcm1, hrd1⟩ := hs
  obtain ⟨A2, n2, c2, rfl, hl2, hnc2, hcm2, hrd2⟩ := ht
  obtain ⟨i0, hi0, hz0, hz1, hz2⟩ := info_parts info_Int
  have H0 := Lib.hid hl0
  have H1 := Lib.hid hl1
  have H2 := Lib.hid hl2
  clear hl0 hl1 hl2
  have hW0 : Ext w (w.alloc (.cells #[.int .i64 l.base, .slice A0 n0 c0, .slice A1 n1 c1, .slice A2 n2 c2] 42)) := by repeat' (first | with_reducible exact Ext.refl _ | with_reducible assumption | with_reducible refine Ext.set ?_ ?_ _ _ | with_reducible refine Ext.alloc ?_ _ | with_reducible refine Ext.drew ?_ | with_reducible refine Ext.drewN ?_ _ | with_reducible refine Ext.trans ?_ (by with_reducible assumption) | omega | (simp; done) | (simp; omega))
  have zW0 : w.heap.size + 1 ≤ (w.alloc (.cells #[.int .i64 l.base, .slice A0 n0 c0, .slice A1 n1 c1, .slice A2 n2 c2] 42)).heap.size := by simp
  have x : Blk (w.alloc (.cells #[.int .i64 l.base, .slice A0 n0 c0, .slice A1 n1 c1, .slice A2 n2 c2] 42)) w.heap.size 42 [.int .i64 l.base, .slice A0 n0 c0, .slice A1 n1 c1, .slice A2 n2 c2] := (Blk.new w #[.int .i64 l.base, .slice A0 n0 c0, .slice A1 n1 c1, .slice A2 n2 c2] 42 (by first | rfl | simp))
  obtain ⟨ok, hok⟩ : ∃ ok, logOk l = ok := ⟨_, rfl⟩
  have Hok := Lib.hid hok
  clear hok
  go_enter Try.func17, Try.ntmps17
  go_wp2_with fail
  generalize (w.alloc (.cells #[.int .i64 l.base, .slice A0 n0 c0, .slice A1 n1 c1, .slice A2 n2 c2] 42)) = W0 at *
  refine (logOk_i _ l _ B (by exact hr0.keep (keepE' hW0 hB)) (by omega)).mono ?_
  rw [Hok.out]
  rintro e w1 ⟨rfl, hE1⟩
  have hX := hW0.trans hE1
  replace x := x.ext hE1
  have hlx := x.lt
  clear hE1 hW0
  obtain ⟨x_p0, x_f0⟩ := x.at 0 _ rfl
  obtain ⟨x_p1, x_f1⟩ := x.at 1 _ rfl
  obtain ⟨x_p2, x_f2⟩ := x.at 2 _ rfl
  obtain ⟨x_p3, x_f3⟩ := x.at 3 _ rfl
  cases ok with
  | false =>
    have hf := Lib.hid (packL_no Hok.out)
    go_wp2
    rw [hf.out]
    exact bodyPost_ret (v := .tuple #[.slice none 0 0, .bool false]) (by simp [results, Try.results17, go_sem]) rfl ⟨_, rfl, OwnS.nil _, by repeat' (first | with_reducible exact Ext.refl _ | with_reducible assumption | with_reducible refine Ext.set ?_ ?_ _ _ | with_reducible refine Ext.alloc ?_ _ | with_reducible refine Ext.drew ?_ | with_reducible refine Ext.drewN ?_ _ | with_reducible refine Ext.trans ?_ (by with_reducible assumption) | omega | (simp; done) | (simp; omega))⟩
  | true =>
    have hf := Lib.hid (packL_ok Hok.out)
    have hn0 : n0 ≤ 40 ∧ n1 ≤ 10 ∧ n2 ≤ 60 := by
      have hg := logOk_iff.1 Hok.out
      have hi := imageOk_iff.1 hg.image
      have h1 := hi.nc
      have h2 := hi.ns
      have h3 := hg.many
      rw [H0.out] at h1
      rw [H1.out] at h2
      rw [H2.out] at h3
      exact ⟨h1, h2, h3⟩
    obtain ⟨hn0, hn1, hn2⟩ := hn0
    have Hn : Hid ((packNums l).length = 2 + 2 * n0 + 1 + 3 * n1 + 1 + 5 * n2) := by show _ = _; rw [packNums_len, H0.out, H1.out, H2.out]
    have Hps : Hid (∀ x ∈ packNums l, x ≤ 9223372036854775807) := fun x hx => by have := packNums_small Hok.out x hx; omega
    go_upto_region 4 with (fail)
    have hV := (Ext.refl w1).alloc (.cells #[.int .i64 l.base, .int .i64 (n0 : Int)] 3)
    have ow : Own (w1.alloc (.cells #[.int .i64 l.base, .int .i64 (n0 : Int)] 3)) (w.heap.size + 1) (w1.alloc (.cells #[.int .i64 l.base, .int .i64 (n0 : Int)] 3)).heap.size 3 1 (.slice (some ⟨w1.heap.size, 0, none⟩) 2 2) 2 ((pack1 l).flatMap eI) := by
      unfold pack1
      rw [H0.out]
      exact (own_made w1 #[.int .i64 l.base, .int .i64 (n0 : Int)] 2 3 1 (by unfold maxLen; omega) rfl).wide (by omega) (by simp)
    clear x_p0 x_f0 x_p1 x_f1 x_p2 x_f2 x_p3 x_f3
    replace x := x.ext hV
    replace hX := hX.trans hV
    clear hV
    generalize (w1.alloc (.cells #[.int .i64 l.base, .int .i64 (n0 : Int)] 3)) = w2 at *
    obtain ⟨x_p0, x_f0⟩ := x.at 0 _ rfl
    obtain ⟨x_p1, x_f1⟩ := x.at 1 _ rfl
    obtain ⟨x_p2, x_f2⟩ := x.at 2 _ rfl
    obtain ⟨x_p3, x_f3⟩ := x.at 3 _ rfl
    go_wp2
    clear x_p0 x_f0 x_p1 x_f1 x_p2 x_f2 x_p3 x_f3
    go_loopw [4, 25] (fun nv iv wr => ∃ (j : Nat) (A' : Option Addr) (c' : Nat), j ≤ n0 ∧ iv = .int .i64 j ∧ nv = .slice A' (2 + 2 * j) c' ∧ Blk wr w.heap.size 42 [.int .i64 l.base, .slice A0 n0 c0, .slice A1 n1 c1, .slice A2 n2 c2] ∧ Own wr (w.heap.size + 1) wr.heap.size 3 1 (.slice A' (2 + 2 * j) c') (2 + 2 * j) ((pack1 l ++ (l.image.cells.take j).flatMap pC).flatMap eI) ∧ Ext w wr) (fun _ iv _ => n0 - (intOf iv).toNat)
    case atStart => exact ⟨0, _, _, by omega, rfl, rfl, x, by rw [List.take_zero, List.flatMap_nil, List.append_nil]; exact ow, hX⟩
    case round =>
      obtain ⟨j, A', c', hj, rfl, rfl, x, ow, hX⟩ := hrel
      have hlx := x.lt
      by_cases hlt : j < n0
      · obtain ⟨b, off, y, rfl, hb, hy1, hc0, hc1⟩ := (hX.rd hrd0 hB).Cell H0.out hlt
        have hlt' : (j : Int) < (n0 : Int) := by omega
        have Hy := Lib.hid hy1
        clear hy1
        obtain ⟨x_p0, x_f0⟩ := x.at 0 _ rfl
        obtain ⟨x_p1, x_f1⟩ := x.at 1 _ rfl
        obtain ⟨x_p2, x_f2⟩ := x.at 2 _ rfl
        obtain ⟨x_p3, x_f3⟩ := x.at 3 _ rfl
        have hV1 : Ext wr (wr.alloc (.cells #[.int .i64 y.key, .int .i64 y.value] 86)) := by repeat' (first | with_reducible exact Ext.refl _ | with_reducible assumption | with_reducible refine Ext.set ?_ ?_ _ _ | with_reducible refine Ext.alloc ?_ _ | with_reducible refine Ext.drew ?_ | with_reducible refine Ext.drewN ?_ _ | with_reducible refine Ext.trans ?_ (by with_reducible assumption) | omega | (simp; done) | (simp; omega))
        have zV1 : wr.heap.size + 1 ≤ (wr.alloc (.cells #[.int .i64 y.key, .int .i64 y.value] 86)).heap.size := by simp
        have q : Blk (wr.alloc (.cells #[.int .i64 y.key, .int .i64 y.value] 86)) wr.heap.size 86 [.int .i64 y.key, .int .i64 y.value] := (Blk.new wr #[.int .i64 y.key, .int .i64 y.value] 86 (by first | rfl | simp))
        go_upto_region 7 with (fail)
        clear x_p0 x_f0 x_p1 x_f1 x_p2 x_f2 x_p3 x_f3
        replace x := x.ext hV1
        replace ow := hV1.own ow (Nat.le_refl _)
        replace hX := hX.trans hV1
        clear hV1 hc0 hc1
        generalize (wr.alloc (.cells #[.int .i64 y.key, .int .i64 y.value] 86)) = V1 at *
        obtain ⟨q_p0, q_f0⟩ := q.at 0 _ rfl
        obtain ⟨q_p1, q_f1⟩ := q.at 1 _ rfl
        have hV3 := (Ext.refl V1).alloc (.cells #[.int .i64 y.key, .int .i64 y.value] 3)
        have hon := own_made V1 #[.int .i64 y.key, .int .i64 y.value] 2 3 1 (by unfold maxLen; omega) rfl
        go_wp2_with (at_builtin; go_loud (refine wpList_app _ rfl _ _ 84 rfl 3 i0 _ 1 8 Try.underlying84 hi0 hz0 hz1 hz2 rfl (by omega) (w.heap.size + 1) wr.heap.size (.slice A' (2 + 2 * j) c') (2 + 2 * j) _ rfl (hV3.own ow (by omega)) (by first | omega | (simp; omega)) (by first | omega | (simp; done) | (simp; omega)) (V1.heap.size + 1) (some ⟨V1.heap.size, 0, none⟩) 2 2 [.int .i64 y.key, .int .i64 y.value] rfl hon.rd.2.2.2 (by simp [Value.oneCell']) (by unfold maxLen; omega) (by omega) ?_))
        intro A3 c3 w3 o3 hg3
        have hF3 : Fr _ _ _ w3 := Fr.of_grown hg3 (fun g h => ow.lt g h)
        have x3 := (x.ext hV3).fr hF3 (.inl (by omega))
        have hX3 : Ext w w3 := (hX.trans hV3).fr hF3 (by omega)
        clear q_p0 q_f0 q_p1 q_f1
        clear x q ow hF3 hg3 hV3 hon
        have eL : 2 + 2 * j + 2 = 2 + 2 * (j + 1) := by omega
        have o4 : Own w3 (w.heap.size + 1) w3.heap.size 3 1 (.slice A3 (2 + 2 * (j + 1)) c3) (2 + 2 * (j + 1)) ((pack1 l ++ (l.image.cells.take (j + 1)).flatMap pC).flatMap eI) := by rw [snoc_form (pack1 l) _ Hy.out, ← eL]; simpa [List.flatMap_append, List.append_assoc, pC, eI] using o3
        go_wp2
        go_roundw
        case rel => exact ⟨j + 1, A3, c3, by omega, by go_num, rfl, x3, o4, hX3⟩
        case measure => simp [intOf]; omega
      · obtain rfl : n0 = j := by omega
        have htk : l.image.cells.take n0 = l.image.cells := List.take_of_length_le (by rw [H0.out]; omega)
        rw [htk] at ow
        clear htk
        obtain ⟨x_p0, x_f0⟩ := x.at 0 _ rfl
        obtain ⟨x_p1, x_f1⟩ := x.at 1 _ rfl
        obtain ⟨x_p2, x_f2⟩ := x.at 2 _ rfl
        obtain ⟨x_p3, x_f3⟩ := x.at 3 _ rfl
        have hV4 := (Ext.refl wr).alloc (.cells #[.int .i64 (n1 : Int)] 3)
        have hon := own_made wr #[.int .i64 (n1 : Int)] 1 3 1 (by unfold maxLen; omega) rfl
        go_wp2_with (at_builtin; go_loud (refine wpList_app _ rfl _ _ 84 rfl 3 i0 _ 1 8 Try.underlying84 hi0 hz0 hz1 hz2 rfl (by omega) (w.heap.size + 1) wr.heap.size (.slice A' (2 + 2 * n0) c') (2 + 2 * n0) _ rfl (hV4.own ow (by omega)) (by first | omega | (simp; omega)) (by first | omega | (simp; done) | (simp; omega)) (wr.heap.size + 1) (some ⟨wr.heap.size, 0, none⟩) 1 1 [.int .i64 (n1 : Int)] rfl hon.rd.2.2.2 (by simp [Value.oneCell']) (by unfold maxLen; omega) (by omega) ?_))
        intro A4 c4 w4 o4 hg4
        have hF4 : Fr _ _ _ w4 := Fr.of_grown hg4 (fun g h => ow.lt g h)
        have x4 := (x.ext hV4).fr hF4 (.inl (by omega))
        have hX4 : Ext w w4 := (hX.trans hV4).fr hF4 (by omega)
        have o5 : Own w4 (w.heap.size + 1) w4.heap.size 3 1 (.slice A4 (2 + 2 * n0 + 1) c4) (2 + 2 * n0 + 1) ((pack2 l).flatMap eI) := by unfold pack2; rw [H1.out]; simpa [List.flatMap_append, List.append_assoc, eI] using o4
        clear x_p0 x_f0 x_p1 x_f1 x_p2 x_f2 x_p3 x_f3
        clear x ow hX o4 hF4 hg4 hV4 hon hlt
        have x := x4
        have ow := o5
        have hX := hX4
        clear x4 o5 hX4
        have hlx := x.lt
        obtain ⟨x_p0, x_f0⟩ := x.at 0 _ rfl
        obtain ⟨x_p1, x_f1⟩ := x.at 1 _ rfl
        obtain ⟨x_p2, x_f2⟩ := x.at 2 _ rfl
        obtain ⟨x_p3, x_f3⟩ := x.at 3 _ rfl
        go_wp2
        clear x_p0 x_f0 x_p1 x_f1 x_p2 x_f2 x_p3 x_f3
        go_loopw [4, 48] (fun nv iv wr => ∃ (j : Nat) (A' : Option Addr) (c' : Nat), j ≤ n1 ∧ iv = .int .i64 j ∧ nv = .slice A' (2 + 2 * n0 + 1 + 3 * j) c' ∧ Blk wr w.heap.size 42 [.int .i64 l.base, .slice A0 n0 c0, .slice A1 n1 c1, .slice A2 n2 c2] ∧ Own wr (w.heap.size + 1) wr.heap.size 3 1 (.slice A' (2 + 2 * n0 + 1 + 3 * j) c') (2 + 2 * n0 + 1 + 3 * j) ((pack2 l ++ (l.image.seats.take j).flatMap pS).flatMap eI) ∧ Ext w wr) (fun _ iv _ => n1 - (intOf iv).toNat)
        case atStart => exact ⟨0, _, _, by omega, rfl, rfl, x, by rw [List.take_zero, List.flatMap_nil, List.append_nil]; exact ow, hX⟩
        case round =>
          obtain ⟨j, A', c', hj, rfl, rfl, x, ow, hX⟩ := hrel
          have hlx := x.lt
          by_cases hlt : j < n1
          · obtain ⟨b, off, y, rfl, hb, hy1, hc0, hc1, hc2⟩ := (hX.rd hrd1 hB).Seat H1.out hlt
            have hlt' : (j : Int) < (n1 : Int) := by omega
            have hsm := seat_small Hok.out hy1
            have hwr : IntKind.i64.wrap (y.answer + 1) = y.answer + 1 := IntWalk.i64_in _ (by omega)
            clear hsm
            have Hy := Lib.hid hy1
            clear hy1
            obtain ⟨x_p0, x_f0⟩ := x.at 0 _ rfl
            obtain ⟨x_p1, x_f1⟩ := x.at 1 _ rfl
            obtain ⟨x_p2, x_f2⟩ := x.at 2 _ rfl
            obtain ⟨x_p3, x_f3⟩ := x.at 3 _ rfl
            have hV1 : Ext wr (wr.alloc (.cells #[.int .i64 y.client, .int .i64 y.req, .int .i64 y.answer] 88)) := by repeat' (first | with_reducible exact Ext.refl _ | with_reducible assumption | with_reducible refine Ext.set ?_ ?_ _ _ | with_reducible refine Ext.alloc ?_ _ | with_reducible refine Ext.drew ?_ | with_reducible refine Ext.drewN ?_ _ | with_reducible refine Ext.trans ?_ (by with_reducible assumption) | omega | (simp; done) | (simp; omega))
            have zV1 : wr.heap.size + 1 ≤ (wr.alloc (.cells #[.int .i64 y.client, .int .i64 y.req, .int .i64 y.answer] 88)).heap.size := by simp
            have q : Blk (wr.alloc (.cells #[.int .i64 y.client, .int .i64 y.req, .int .i64 y.answer] 88)) wr.heap.size 88 [.int .i64 y.client, .int .i64 y.req, .int .i64 y.answer] := (Blk.new wr #[.int .i64 y.client, .int .i64 y.req, .int .i64 y.answer] 88 (by first | rfl | simp))
            go_upto_region 13 with (fail)
            clear x_p0 x_f0 x_p1 x_f1 x_p2 x_f2 x_p3 x_f3
            replace x := x.ext hV1
            replace ow := hV1.own ow (Nat.le_refl _)
            replace hX := hX.trans hV1
            clear hV1 hc0 hc1 hc2
            generalize (wr.alloc (.cells #[.int .i64 y.client, .int .i64 y.req, .int .i64 y.answer] 88)) = V1 at *
            obtain ⟨q_p0, q_f0⟩ := q.at 0 _ rfl
            obtain ⟨q_p1, q_f1⟩ := q.at 1 _ rfl
            obtain ⟨q_p2, q_f2⟩ := q.at 2 _ rfl
            have hV3 := (Ext.refl V1).alloc (.cells #[.int .i64 y.client, .int .i64 y.req, .int .i64 (y.answer + 1)] 3)
            have hon := own_made V1 #[.int .i64 y.client, .int .i64 y.req, .int .i64 (y.answer + 1)] 3 3 1 (by unfold maxLen; omega) rfl
            go_wp2_with (at_builtin; go_loud (refine wpList_app _ rfl _ _ 84 rfl 3 i0 _ 1 8 Try.underlying84 hi0 hz0 hz1 hz2 rfl (by omega) (w.heap.size + 1) wr.heap.size (.slice A' (2 + 2 * n0 + 1 + 3 * j) c') (2 + 2 * n0 + 1 + 3 * j) _ rfl (hV3.own ow (by omega)) (by first | omega | (simp; omega)) (by first | omega | (simp; done) | (simp; omega)) (V1.heap.size + 1) (some ⟨V1.heap.size, 0, none⟩) 3 3 [.int .i64 y.client, .int .i64 y.req, .int .i64 (y.answer + 1)] rfl hon.rd.2.2.2 (by simp [Value.oneCell']) (by unfold maxLen; omega) (by omega) ?_))
            intro A3 c3 w3 o3 hg3
            have hF3 : Fr _ _ _ w3 := Fr.of_grown hg3 (fun g h => ow.lt g h)
            have x3 := (x.ext hV3).fr hF3 (.inl (by omega))
            have hX3 : Ext w w3 := (hX.trans hV3).fr hF3 (by omega)
            clear q_p0 q_f0 q_p1 q_f1 q_p2 q_f2
            clear x q ow hF3 hg3 hV3 hon
            have eL : 2 + 2 * n0 + 1 + 3 * j + 3 = 2 + 2 * n0 + 1 + 3 * (j + 1) := by omega
            have o4 : Own w3 (w.heap.size + 1) w3.heap.size 3 1 (.slice A3 (2 + 2 * n0 + 1 + 3 * (j + 1)) c3) (2 + 2 * n0 + 1 + 3 * (j + 1)) ((pack2 l ++ (l.image.seats.take (j + 1)).flatMap pS).flatMap eI) := by rw [snoc_form (pack2 l) _ Hy.out, ← eL]; simpa [List.flatMap_append, List.append_assoc, pS, eI] using o3
            go_wp2
            go_roundw
            case rel => exact ⟨j + 1, A3, c3, by omega, by go_num, rfl, x3, o4, hX3⟩
            case measure => simp [intOf]; omega
          · obtain rfl : n1 = j := by omega
            have htk : l.image.seats.take n1 = l.image.seats := List.take_of_length_le (by rw [H1.out]; omega)
            rw [htk] at ow
            clear htk
            obtain ⟨x_p0, x_f0⟩ := x.at 0 _ rfl
            obtain ⟨x_p1, x_f1⟩ := x.at 1 _ rfl
            obtain ⟨x_p2, x_f2⟩ := x.at 2 _ rfl
            obtain ⟨x_p3, x_f3⟩ := x.at 3 _ rfl
            have hV4 := (Ext.refl wr).alloc (.cells #[.int .i64 (n2 : Int)] 3)
            have hon := own_made wr #[.int .i64 (n2 : Int)] 1 3 1 (by unfold maxLen; omega) rfl
            go_wp2_with (at_builtin; go_loud (refine wpList_app _ rfl _ _ 84 rfl 3 i0 _ 1 8 Try.underlying84 hi0 hz0 hz1 hz2 rfl (by omega) (w.heap.size + 1) wr.heap.size (.slice A' (2 + 2 * n0 + 1 + 3 * n1) c') (2 + 2 * n0 + 1 + 3 * n1) _ rfl (hV4.own ow (by omega)) (by first | omega | (simp; omega)) (by first | omega | (simp; done) | (simp; omega)) (wr.heap.size + 1) (some ⟨wr.heap.size, 0, none⟩) 1 1 [.int .i64 (n2 : Int)] rfl hon.rd.2.2.2 (by simp [Value.oneCell']) (by unfold maxLen; omega) (by omega) ?_))
            intro A4 c4 w4 o4 hg4
            have hF4 : Fr _ _ _ w4 := Fr.of_grown hg4 (fun g h => ow.lt g h)
            have x4 := (x.ext hV4).fr hF4 (.inl (by omega))
            have hX4 : Ext w w4 := (hX.trans hV4).fr hF4 (by omega)
            have o5 : Own w4 (w.heap.size + 1) w4.heap.size 3 1 (.slice A4 (2 + 2 * n0 + 1 + 3 * n1 + 1) c4) (2 + 2 * n0 + 1 + 3 * n1 + 1) ((pack3 l).flatMap eI) := by unfold pack3; rw [H2.out]; simpa [List.flatMap_append, List.append_assoc, eI] using o4
            clear x_p0 x_f0 x_p1 x_f1 x_p2 x_f2 x_p3 x_f3
            clear x ow hX o4 hF4 hg4 hV4 hon hlt
            have x := x4
            have ow := o5
            have hX := hX4
            clear x4 o5 hX4
            have hlx := x.lt
            obtain ⟨x_p0, x_f0⟩ := x.at 0 _ rfl
            obtain ⟨x_p1, x_f1⟩ := x.at 1 _ rfl
            obtain ⟨x_p2, x_f2⟩ := x.at 2 _ rfl
            obtain ⟨x_p3, x_f3⟩ := x.at 3 _ rfl
            go_wp2
            clear x_p0 x_f0 x_p1 x_f1 x_p2 x_f2 x_p3 x_f3
            go_loopw [4, 72] (fun nv iv wr => ∃ (j : Nat) (A' : Option Addr) (c' : Nat), j ≤ n2 ∧ iv = .int .i64 j ∧ nv = .slice A' (2 + 2 * n0 + 1 + 3 * n1 + 1 + 5 * j) c' ∧ Blk wr w.heap.size 42 [.int .i64 l.base, .slice A0 n0 c0, .slice A1 n1 c1, .slice A2 n2 c2] ∧ Own wr (w.heap.size + 1) wr.heap.size 3 1 (.slice A' (2 + 2 * n0 + 1 + 3 * n1 + 1 + 5 * j) c') (2 + 2 * n0 + 1 + 3 * n1 + 1 + 5 * j) ((pack3 l ++ (l.entries.take j).flatMap pE).flatMap eI) ∧ Ext w wr) (fun _ iv _ => n2 - (intOf iv).toNat)
            case atStart => exact ⟨0, _, _, by omega, rfl, rfl, x, by rw [List.take_zero, List.flatMap_nil, List.append_nil]; exact ow, hX⟩
            case round =>
              obtain ⟨j, A', c', hj, rfl, rfl, x, ow, hX⟩ := hrel
              have hlx := x.lt
              by_cases hlt : j < n2
              · obtain ⟨b, off, y, rfl, hb, hy1, hc0, hc1, hc2, hc3, hc4⟩ := (hX.rd hrd2 hB).Entry H2.out hlt
                have hlt' : (j : Int) < (n2 : Int) := by omega
                have Hy := Lib.hid hy1
                clear hy1
                obtain ⟨x_p0, x_f0⟩ := x.at 0 _ rfl
                obtain ⟨x_p1, x_f1⟩ := x.at 1 _ rfl
                obtain ⟨x_p2, x_f2⟩ := x.at 2 _ rfl
                obtain ⟨x_p3, x_f3⟩ := x.at 3 _ rfl
                have hV1 : Ext wr (wr.alloc (.cells #[.int .i64 y.client, .int .i64 y.req, .int .i64 y.cmd.kind, .int .i64 y.cmd.key, .int .i64 y.cmd.value] 90)) := by repeat' (first | with_reducible exact Ext.refl _ | with_reducible assumption | with_reducible refine Ext.set ?_ ?_ _ _ | with_reducible refine Ext.alloc ?_ _ | with_reducible refine Ext.drew ?_ | with_reducible refine Ext.drewN ?_ _ | with_reducible refine Ext.trans ?_ (by with_reducible assumption) | omega | (simp; done) | (simp; omega))
                have zV1 : wr.heap.size + 1 ≤ (wr.alloc (.cells #[.int .i64 y.client, .int .i64 y.req, .int .i64 y.cmd.kind, .int .i64 y.cmd.key, .int .i64 y.cmd.value] 90)).heap.size := by simp
                have q : Blk (wr.alloc (.cells #[.int .i64 y.client, .int .i64 y.req, .int .i64 y.cmd.kind, .int .i64 y.cmd.key, .int .i64 y.cmd.value] 90)) wr.heap.size 90 [.int .i64 y.client, .int .i64 y.req, .int .i64 y.cmd.kind, .int .i64 y.cmd.key, .int .i64 y.cmd.value] := (Blk.new wr #[.int .i64 y.client, .int .i64 y.req, .int .i64 y.cmd.kind, .int .i64 y.cmd.key, .int .i64 y.cmd.value] 90 (by first | rfl | simp))
                go_upto_region 19 with (fail)
                clear x_p0 x_f0 x_p1 x_f1 x_p2 x_f2 x_p3 x_f3
                replace x := x.ext hV1
                replace ow := hV1.own ow (Nat.le_refl _)
                replace hX := hX.trans hV1
                clear hV1 hc0 hc1 hc2 hc3 hc4
                generalize (wr.alloc (.cells #[.int .i64 y.client, .int .i64 y.req, .int .i64 y.cmd.kind, .int .i64 y.cmd.key, .int .i64 y.cmd.value] 90)) = V1 at *
                obtain ⟨q_p0, q_f0⟩ := q.at 0 _ rfl
                obtain ⟨q_p1, q_f1⟩ := q.at 1 _ rfl
                obtain ⟨q_p2, q_f2⟩ := q.at 2 _ rfl
                obtain ⟨q_p3, q_f3⟩ := q.at 3 _ rfl
                obtain ⟨q_p4, q_f4⟩ := q.at 4 _ rfl
                have hV3 := (Ext.refl V1).alloc (.cells #[.int .i64 y.client, .int .i64 y.req, .int .i64 y.cmd.kind, .int .i64 y.cmd.key, .int .i64 y.cmd.value] 3)
                have hon := own_made V1 #[.int .i64 y.client, .int .i64 y.req, .int .i64 y.cmd.kind, .int .i64 y.cmd.key, .int .i64 y.cmd.value] 5 3 1 (by unfold maxLen; omega) rfl
                go_wp2_with (at_builtin; go_loud (refine wpList_app _ rfl _ _ 84 rfl 3 i0 _ 1 8 Try.underlying84 hi0 hz0 hz1 hz2 rfl (by omega) (w.heap.size + 1) wr.heap.size (.slice A' (2 + 2 * n0 + 1 + 3 * n1 + 1 + 5 * j) c') (2 + 2 * n0 + 1 + 3 * n1 + 1 + 5 * j) _ rfl (hV3.own ow (by omega)) (by first | omega | (simp; omega)) (by first | omega | (simp; done) | (simp; omega)) (V1.heap.size + 1) (some ⟨V1.heap.size, 0, none⟩) 5 5 [.int .i64 y.client, .int .i64 y.req, .int .i64 y.cmd.kind, .int .i64 y.cmd.key, .int .i64 y.cmd.value] rfl hon.rd.2.2.2 (by simp [Value.oneCell']) (by unfold maxLen; omega) (by omega) ?_))
                intro A3 c3 w3 o3 hg3
                have hF3 : Fr _ _ _ w3 := Fr.of_grown hg3 (fun g h => ow.lt g h)
                have x3 := (x.ext hV3).fr hF3 (.inl (by omega))
                have hX3 : Ext w w3 := (hX.trans hV3).fr hF3 (by omega)
                clear q_p0 q_f0 q_p1 q_f1 q_p2 q_f2 q_p3 q_f3 q_p4 q_f4
                clear x q ow hF3 hg3 hV3 hon
                have eL : 2 + 2 * n0 + 1 + 3 * n1 + 1 + 5 * j + 5 = 2 + 2 * n0 + 1 + 3 * n1 + 1 + 5 * (j + 1) := by omega
                have o4 : Own w3 (w.heap.size + 1) w3.heap.size 3 1 (.slice A3 (2 + 2 * n0 + 1 + 3 * n1 + 1 + 5 * (j + 1)) c3) (2 + 2 * n0 + 1 + 3 * n1 + 1 + 5 * (j + 1)) ((pack3 l ++ (l.entries.take (j + 1)).flatMap pE).flatMap eI) := by rw [snoc_form (pack3 l) _ Hy.out, ← eL]; simpa [List.flatMap_append, List.append_assoc, pE, eI] using o3
                go_wp2
                go_roundw
                case rel => exact ⟨j + 1, A3, c3, by omega, by go_num, rfl, x3, o4, hX3⟩
                case measure => simp [intOf]; omega
              · obtain rfl : n2 = j := by omega
                have htk : l.entries.take n2 = l.entries := List.take_of_length_le (by rw [H2.out]; omega)
                rw [htk] at ow
                clear htk
                obtain ⟨x_p0, x_f0⟩ := x.at 0 _ rfl
                obtain ⟨x_p1, x_f1⟩ := x.at 1 _ rfl
                obtain ⟨x_p2, x_f2⟩ := x.at 2 _ rfl
                obtain ⟨x_p3, x_f3⟩ := x.at 3 _ rfl
                go_wp2_with fail
                refine (putNums_i _ (packNums l) _ wr.heap.size ⟨_, _, _, rfl, Hn.out, ow.rd.2.1, ow.rd.2.2.1, by exact ow.rd.2.2.2⟩ (Nat.le_refl _) Hps.out (by rw [Hn.out]; omega)).mono ?_
                rintro e w9 ⟨v9, rfl, o9, hE9⟩
                have hX9 := hX.trans hE9
                have hz9 := hX.size
                go_wp2
                rw [hf.out]
                exact bodyPost_ret (v := .tuple #[v9, .bool true]) (by simp [results, Try.results17, go_sem]) rfl ⟨_, rfl, o9.wide hz9 (Nat.le_refl _), hX9⟩

set_option maxRecDepth 100000 in
set_option maxHeartbeats 8000000 in
theorem packLog_s (v : Value) (l : LogD) (w : World) (B : Nat) (hr : R_Log w B v l) (hB : B ≤ w.heap.size) :
    Calls Try.prog 15 #[v] w fun e w' => ∃ v', e = .returned (.tuple #[v', .bool (packL l).2]) ∧ OwnS w' w.heap.size w'.heap.size 5 1 eB v' (packL l).1 ∧ Ext w w' := by
  have hr0 := hr
  obtain ⟨u, s, t, rfl, hu, hs, ht⟩ := hr
  obtain ⟨A0, n0, c0, rfl, hl0, hnc0, hcm0, hrd0⟩ := hu
  obtain ⟨A1, n1, c1, rfl, hl1, hnc1, hcm1, hrd1⟩ := hs
  obtain ⟨A2, n2, c2, rfl, hl2, hnc2, hcm2, hrd2⟩ := ht
  obtain ⟨i0, hi0, hz0, hz1, hz2⟩ := info_parts info_Int
  have H0 := Lib.hid hl0
  have H1 := Lib.hid hl1
  have H2 := Lib.hid hl2
  clear hl0 hl1 hl2
  have hW0 : Ext w (w.alloc (.cells #[.int .i64 l.base, .slice A0 n0 c0, .slice A1 n1 c1, .slice A2 n2 c2] 42)) := by repeat' (first | with_reducible exact Ext.refl _ | with_reducible assumption | with_reducible refine Ext.set ?_ ?_ _ _ | with_reducible refine Ext.alloc ?_ _ | with_reducible refine Ext.drew ?_ | with_reducible refine Ext.drewN ?_ _ | with_reducible refine Ext.trans ?_ (by with_reducible assumption) | omega | (simp; done) | (simp; omega))
  have zW0 : w.heap.size + 1 ≤ (w.alloc (.cells #[.int .i64 l.base, .slice A0 n0 c0, .slice A1 n1 c1, .slice A2 n2 c2] 42)).heap.size := by simp
  have x : Blk (w.alloc (.cells #[.int .i64 l.base, .slice A0 n0 c0, .slice A1 n1 c1, .slice A2 n2 c2] 42)) w.heap.size 42 [.int .i64 l.base, .slice A0 n0 c0, .slice A1 n1 c1, .slice A2 n2 c2] := (Blk.new w #[.int .i64 l.base, .slice A0 n0 c0, .slice A1 n1 c1, .slice A2 n2 c2] 42 (by first | rfl | simp))
  obtain ⟨ok, hok⟩ : ∃ ok, logOk l = ok := ⟨_, rfl⟩
  have Hok := Lib.hid hok
  clear hok
  go_enter Try.func15, Try.ntmps15
  go_wp2_with fail
  generalize (w.alloc (.cells #[.int .i64 l.base, .slice A0 n0 c0, .slice A1 n1 c1, .slice A2 n2 c2] 42)) = W0 at *
  refine (logOk_s _ l _ B (by exact hr0.keep (keepE' hW0 hB)) (by omega)).mono ?_
  rw [Hok.out]
  rintro e w1 ⟨rfl, hE1⟩
  have hX := hW0.trans hE1
  replace x := x.ext hE1
  have hlx := x.lt
  clear hE1 hW0
  obtain ⟨x_p0, x_f0⟩ := x.at 0 _ rfl
  obtain ⟨x_p1, x_f1⟩ := x.at 1 _ rfl
  obtain ⟨x_p2, x_f2⟩ := x.at 2 _ rfl
  obtain ⟨x_p3, x_f3⟩ := x.at 3 _ rfl
  cases ok with
  | false =>
    have hf := Lib.hid (packL_no Hok.out)
    go_wp2
    rw [hf.out]
    exact bodyPost_ret (v := .tuple #[.slice (some ⟨w1.heap.size, 0, none⟩) 0 0, .bool false]) (by simp [results, Try.results15, go_sem]) rfl ⟨_, rfl, OwnS.nil _, by repeat' (first | with_reducible exact Ext.refl _ | with_reducible assumption | with_reducible refine Ext.set ?_ ?_ _ _ | with_reducible refine Ext.alloc ?_ _ | with_reducible refine Ext.drew ?_ | with_reducible refine Ext.drewN ?_ _ | with_reducible refine Ext.trans ?_ (by with_reducible assumption) | omega | (simp; done) | (simp; omega))⟩
  | true =>
    have hf := Lib.hid (packL_ok Hok.out)
    have hn0 : n0 ≤ 40 ∧ n1 ≤ 10 ∧ n2 ≤ 60 := by
      have hg := logOk_iff.1 Hok.out
      have hi := imageOk_iff.1 hg.image
      have h1 := hi.nc
      have h2 := hi.ns
      have h3 := hg.many
      rw [H0.out] at h1
      rw [H1.out] at h2
      rw [H2.out] at h3
      exact ⟨h1, h2, h3⟩
    obtain ⟨hn0, hn1, hn2⟩ := hn0
    have Hn : Hid ((packNums l).length = 2 + 2 * n0 + 1 + 3 * n1 + 1 + 5 * n2) := by show _ = _; rw [packNums_len, H0.out, H1.out, H2.out]
    have Hps : Hid (∀ x ∈ packNums l, x ≤ 9223372036854775807) := fun x hx => by have := packNums_small Hok.out x hx; omega
    go_upto_region 4 with (fail)
    have hV := (Ext.refl w1).alloc (.cells #[.int .i64 l.base, .int .i64 (n0 : Int)] 3)
    have ow : Own (w1.alloc (.cells #[.int .i64 l.base, .int .i64 (n0 : Int)] 3)) (w.heap.size + 1) (w1.alloc (.cells #[.int .i64 l.base, .int .i64 (n0 : Int)] 3)).heap.size 3 1 (.slice (some ⟨w1.heap.size, 0, none⟩) 2 2) 2 ((pack1 l).flatMap eI) := by
      unfold pack1
      rw [H0.out]
      exact (own_made w1 #[.int .i64 l.base, .int .i64 (n0 : Int)] 2 3 1 (by unfold maxLen; omega) rfl).wide (by omega) (by simp)
    clear x_p0 x_f0 x_p1 x_f1 x_p2 x_f2 x_p3 x_f3
    replace x := x.ext hV
    replace hX := hX.trans hV
    clear hV
    generalize (w1.alloc (.cells #[.int .i64 l.base, .int .i64 (n0 : Int)] 3)) = w2 at *
    obtain ⟨x_p0, x_f0⟩ := x.at 0 _ rfl
    obtain ⟨x_p1, x_f1⟩ := x.at 1 _ rfl
    obtain ⟨x_p2, x_f2⟩ := x.at 2 _ rfl
    obtain ⟨x_p3, x_f3⟩ := x.at 3 _ rfl
    go_wp2
    clear x_p0 x_f0 x_p1 x_f1 x_p2 x_f2 x_p3 x_f3
    go_loopw [4, 5] (fun nv iv wr => ∃ (j : Nat) (A' : Option Addr) (c' : Nat), j ≤ n0 ∧ iv = .int .i64 j ∧ nv = .slice A' (2 + 2 * j) c' ∧ Blk wr w.heap.size 42 [.int .i64 l.base, .slice A0 n0 c0, .slice A1 n1 c1, .slice A2 n2 c2] ∧ Own wr (w.heap.size + 1) wr.heap.size 3 1 (.slice A' (2 + 2 * j) c') (2 + 2 * j) ((pack1 l ++ (l.image.cells.take j).flatMap pC).flatMap eI) ∧ Ext w wr) (fun _ iv _ => n0 - (intOf iv).toNat)
    case atStart => exact ⟨0, _, _, by omega, rfl, rfl, x, by rw [List.take_zero, List.flatMap_nil, List.append_nil]; exact ow, hX⟩
    case round =>
      obtain ⟨j, A', c', hj, rfl, rfl, x, ow, hX⟩ := hrel
      have hlx := x.lt
      by_cases hlt : j < n0
      · obtain ⟨b, off, y, rfl, hb, hy1, hc0, hc1⟩ := (hX.rd hrd0 hB).Cell H0.out hlt
        have hlt' : (j : Int) < (n0 : Int) := by omega
        have Hy := Lib.hid hy1
        clear hy1
        obtain ⟨x_p0, x_f0⟩ := x.at 0 _ rfl
        obtain ⟨x_p1, x_f1⟩ := x.at 1 _ rfl
        obtain ⟨x_p2, x_f2⟩ := x.at 2 _ rfl
        obtain ⟨x_p3, x_f3⟩ := x.at 3 _ rfl
        clear x_p0 x_f0 x_f1 x_p2 x_f2 x_p3 x_f3
        have hm1 : (2 + 2 * j) + 2 ≤ maxLen := by unfold maxLen; omega
        have hm3 : ((2 + 2 * j) + 2) * 8 ≤ 140737488355328 := by omega
        have hpos : 0 < 1 := by omega
        go_upto_region 7 with (fail)
        refine wp_region_held_drew (S := (fun w' => w'.cell? ⟨w.heap.size, 1, none⟩ = some (.slice (some ⟨b, off, none⟩) n0 c0) ∧ w'.cell? ⟨b, off + j * 2, none⟩ = some (.int .i64 y.key) ∧ w'.cell? ⟨b, off + j * 2 + 1, none⟩ = some (.int .i64 y.value))) (by kernel_rfl) ⟨x_p1, hc0, hc1⟩ (fun hHeld => ?_)
        refine wpAnyH_take (i := 0) (v := ?_) rfl (by kernel_rfl) (by kernel_rfl) (by kernel_rfl) (fun _ _ _ h => h) (Or.inl ⟨by rfl, ?_⟩) (by assumption) ?_
        rotate_left
        · (intro w hSw; (try dsimp only at hSw); go_simp; (try with_reducible rfl))
        try simp only [Act.put, List.getElem_toArray, List.getElem_cons_zero, List.getElem_cons_succ, List.setIfInBounds_toArray, List.set_cons_zero, List.set_cons_succ]
        refine wpAnyH_take (i := 1) (v := ?_) rfl (by kernel_rfl) (by kernel_rfl) (by kernel_rfl) (fun _ _ _ h => h) (Or.inl ⟨by rfl, ?_⟩) (by assumption) ?_
        rotate_left
        · (intro w hSw; (try dsimp only at hSw); go_simp; (try with_reducible rfl))
        try simp only [Act.put, List.getElem_toArray, List.getElem_cons_zero, List.getElem_cons_succ, List.setIfInBounds_toArray, List.set_cons_zero, List.set_cons_succ]
        refine wpAnyH_take (i := 2) (v := ?_) rfl (by kernel_rfl) (by kernel_rfl) (by kernel_rfl) (fun _ _ _ h => h) (Or.inl ⟨by rfl, ?_⟩) (by assumption) ?_
        rotate_left
        · (intro w hSw; (try dsimp only at hSw); go_simp; (try with_reducible rfl))
        try simp only [Act.put, List.getElem_toArray, List.getElem_cons_zero, List.getElem_cons_succ, List.setIfInBounds_toArray, List.set_cons_zero, List.set_cons_succ]
        refine wpAnyH_take (i := 3) (v := ?_) rfl (by kernel_rfl) (by kernel_rfl) (by kernel_rfl) (fun _ _ _ h => h) (Or.inl ⟨by rfl, ?_⟩) (by assumption) ?_
        rotate_left
        · (intro w hSw; (try dsimp only at hSw); go_simp; (try with_reducible rfl))
        try simp only [Act.put, List.getElem_toArray, List.getElem_cons_zero, List.getElem_cons_succ, List.setIfInBounds_toArray, List.set_cons_zero, List.set_cons_succ]
        refine wpAnyH_take (i := 4) (v := ?_) rfl (by kernel_rfl) (by kernel_rfl) (by kernel_rfl) (fun _ _ _ h => h) (Or.inl ⟨by rfl, ?_⟩) (by assumption) ?_
        rotate_left
        · (intro w hSw; (try dsimp only at hSw); go_simp; (try with_reducible rfl))
        try simp only [Act.put, List.getElem_toArray, List.getElem_cons_zero, List.getElem_cons_succ, List.setIfInBounds_toArray, List.set_cons_zero, List.set_cons_succ]
        refine wpAnyH_take (i := 5) (v := ?_) rfl (by kernel_rfl) (by kernel_rfl) (by kernel_rfl) (fun _ _ _ h => h) (Or.inl ⟨by rfl, ?_⟩) (by assumption) ?_
        rotate_left
        · (intro w hSw; (try dsimp only at hSw); go_simp; (try with_reducible rfl))
        try simp only [Act.put, List.getElem_toArray, List.getElem_cons_zero, List.getElem_cons_succ, List.setIfInBounds_toArray, List.set_cons_zero, List.set_cons_succ]
        refine wpAnyH_take (i := 6) (v := ?_) rfl (by kernel_rfl) (by kernel_rfl) (by kernel_rfl) (fun _ _ _ h => h) (Or.inl ⟨by rfl, ?_⟩) (by assumption) ?_
        rotate_left
        · (intro w hSw; (try dsimp only at hSw); go_simp; (try with_reducible rfl))
        try simp only [Act.put, List.getElem_toArray, List.getElem_cons_zero, List.getElem_cons_succ, List.setIfInBounds_toArray, List.set_cons_zero, List.set_cons_succ]
        refine wpAnyH_take (i := 7) (v := ?_) rfl (by kernel_rfl) (by kernel_rfl) (by kernel_rfl) (fun _ _ _ h => h) (Or.inl ⟨by rfl, ?_⟩) (by assumption) ?_
        rotate_left
        · (intro w hSw; (try dsimp only at hSw); go_simp; (try with_reducible rfl))
        try simp only [Act.put, List.getElem_toArray, List.getElem_cons_zero, List.getElem_cons_succ, List.setIfInBounds_toArray, List.set_cons_zero, List.set_cons_succ]
        refine wpAnyH_take (i := 8) (v := ?_) rfl (by kernel_rfl) (by kernel_rfl) (by kernel_rfl) (fun _ _ _ h => h) (Or.inl ⟨by rfl, ?_⟩) (by assumption) ?_
        rotate_left
        · (intro w hSw; (try dsimp only at hSw); go_simp; (try with_reducible rfl))
        try simp only [Act.put, List.getElem_toArray, List.getElem_cons_zero, List.getElem_cons_succ, List.setIfInBounds_toArray, List.set_cons_zero, List.set_cons_succ]
        refine wpAnyH_take (i := 9) (v := ?_) rfl (by kernel_rfl) (by kernel_rfl) (by kernel_rfl) (fun _ _ _ h => h) (Or.inl ⟨by rfl, ?_⟩) (by assumption) ?_
        rotate_left
        · (intro w hSw; (try dsimp only at hSw); go_simp; (try with_reducible rfl))
        try simp only [Act.put, List.getElem_toArray, List.getElem_cons_zero, List.getElem_cons_succ, List.setIfInBounds_toArray, List.set_cons_zero, List.set_cons_succ]
        refine wpAnyH_take (i := 10) (v := ?_) rfl (by kernel_rfl) (by kernel_rfl) (by kernel_rfl) (fun _ _ _ h => h) (Or.inl ⟨by rfl, ?_⟩) (by assumption) ?_
        rotate_left
        · (intro w hSw; (try dsimp only at hSw); go_simp; (try with_reducible rfl))
        try simp only [Act.put, List.getElem_toArray, List.getElem_cons_zero, List.getElem_cons_succ, List.setIfInBounds_toArray, List.set_cons_zero, List.set_cons_succ]
        refine wpAnyH_take (i := 11) (v := ?_) rfl (by kernel_rfl) (by kernel_rfl) (by kernel_rfl) (fun _ _ _ h => h) (Or.inl ⟨by rfl, ?_⟩) (by assumption) ?_
        rotate_left
        · (intro w hSw; (try dsimp only at hSw); go_simp; (try with_reducible rfl))
        try simp only [Act.put, List.getElem_toArray, List.getElem_cons_zero, List.getElem_cons_succ, List.setIfInBounds_toArray, List.set_cons_zero, List.set_cons_succ]
        refine wpAnyH_take (i := 12) (v := ?_) rfl (by kernel_rfl) (by kernel_rfl) (by kernel_rfl) (fun _ _ _ h => h) (Or.inl ⟨by rfl, ?_⟩) (by assumption) ?_
        rotate_left
        · (intro w hSw; (try dsimp only at hSw); go_simp; (try with_reducible rfl))
        try simp only [Act.put, List.getElem_toArray, List.getElem_cons_zero, List.getElem_cons_succ, List.setIfInBounds_toArray, List.set_cons_zero, List.set_cons_succ]
        refine wpAnyH_take (i := 13) (v := ?_) rfl (by kernel_rfl) (by kernel_rfl) (by kernel_rfl) (fun _ _ _ h => h) (Or.inl ⟨by rfl, ?_⟩) (by assumption) ?_
        rotate_left
        · (intro w hSw; (try dsimp only at hSw); go_simp; (try with_reducible rfl))
        try simp only [Act.put, List.getElem_toArray, List.getElem_cons_zero, List.getElem_cons_succ, List.setIfInBounds_toArray, List.set_cons_zero, List.set_cons_succ]
        refine wpAnyH_take (i := 14) (v := ?_) rfl (by kernel_rfl) (by kernel_rfl) (by kernel_rfl) (fun _ _ _ h => h) (Or.inl ⟨by rfl, ?_⟩) (by assumption) ?_
        rotate_left
        · (intro w hSw; (try dsimp only at hSw); go_simp; (try with_reducible rfl))
        try simp only [Act.put, List.getElem_toArray, List.getElem_cons_zero, List.getElem_cons_succ, List.setIfInBounds_toArray, List.set_cons_zero, List.set_cons_succ]
        refine wpAnyH_ready (rs := [15]) (by kernel_rfl) (by simp) ?_
        refine AllReadyH.cons rfl (fun K hK => ?_) AllReadyH.nil
        go_simp
        (try dsimp only)
        refine hK.out _ _ ⟨Ext.cellAt ((Ext.refl _).alloc _) x_p1, Ext.cellAt ((Ext.refl _).alloc _) hc0, Ext.cellAt ((Ext.refl _).alloc _) hc1⟩ (fun hHeld => ?_)
        clear hK K
        try simp only [Act.put, List.getElem_toArray, List.getElem_cons_zero, List.getElem_cons_succ, List.setIfInBounds_toArray, List.set_cons_zero, List.set_cons_succ]
        have hV : Ext wr ((wr.alloc (.cells #[.int .i64 y.key, .int .i64 y.value] 3)).drew) := ((Ext.refl _).alloc _).drew
        have hrx : Rd ((wr.alloc (.cells #[.int .i64 y.key, .int .i64 y.value] 3)).drew) (wr.heap.size + 1) 1 (some ⟨wr.heap.size, 0, none⟩) 2 [.int .i64 y.key, .int .i64 y.value] := (own_made wr #[.int .i64 y.key, .int .i64 y.value] 2 3 1 (by unfold maxLen; omega) rfl).rd.2.2.2
        have owV := hV.own ow (Nat.le_refl _)
        have hzV : wr.heap.size + 1 = ((wr.alloc (.cells #[.int .i64 y.key, .int .i64 y.value] 3)).drew).heap.size := by simp
        refine wpAnyH_ready (rs := [16]) (by kernel_rfl) (by simp) ?_
        refine AllReadyH.cons rfl (fun K hK => ?_) AllReadyH.nil
        refine step_app1 (d := .tmp 29) (s := .tmp 44) ?_ ?_ 3 i0 (.int .i64 0) 1 8 Try.underlying84 hi0 hz0 hz1 hz2 rfl hpos (w.heap.size + 1) wr.heap.size (.slice A' (2 + 2 * j) c') (2 + 2 * j) _ ?_ owV (by omega) (by omega) (wr.heap.size + 1) (some ⟨wr.heap.size, 0, none⟩) 2 2 [.int .i64 y.key, .int .i64 y.value] ?_ (by exact hrx) (by simp [Value.oneCell']) hm1 hm3 ?_
        rfl
        rfl
        (focus (simp [Act.eval]; done))
        (focus (simp [Act.eval]; done))
        intro A3 c3 w3 o3 hg3
        have hF3 : Fr _ _ _ w3 := Fr.of_grown hg3 (fun g h => owV.lt g h)
        have hX3 : Ext w w3 := (hX.trans hV).fr hF3 (by omega)
        have x3 := (x.ext hV).fr hF3 (.inl (by omega))
        obtain ⟨b', off', y', hbo, -, hy2, hd0, hd1⟩ := (hX3.rd hrd0 hB).Cell H0.out hlt
        injection hbo with hbo
        injection hbo with e3 e4
        subst e3 e4
        obtain rfl : y' = y := (by rw [Hy.out] at hy2; exact (Option.some.inj hy2).symm)
        clear hy2 hc0 hc1 x_p1
        obtain ⟨x_p1, -⟩ := x3.at 1 _ rfl
        (try dsimp only)
        refine hK.out _ _ ⟨x_p1, hd0, hd1⟩ (fun hHeld => ?_)
        clear hK K
        try simp only [Act.put, List.getElem_toArray, List.getElem_cons_zero, List.getElem_cons_succ, List.setIfInBounds_toArray, List.set_cons_zero, List.set_cons_succ]
        refine wpAnyH_take (i := 17) (v := ?_) rfl (by kernel_rfl) (by kernel_rfl) (by kernel_rfl) (fun _ _ _ h => h) (Or.inl ⟨by rfl, ?_⟩) (by assumption) ?_
        rotate_left
        · (intro w hSw; (try dsimp only at hSw); go_simp; (try with_reducible rfl))
        try simp only [Act.put, List.getElem_toArray, List.getElem_cons_zero, List.getElem_cons_succ, List.setIfInBounds_toArray, List.set_cons_zero, List.set_cons_succ]
        refine wpAnyH_done (by kernel_rfl) ?_ _
        clear hHeld x_p1 hd0 hd1 x ow owV hF3 hg3 hV hrx hzV
        have eL : 2 + 2 * j + 2 = 2 + 2 * (j + 1) := by omega
        have o4 : Own w3 (w.heap.size + 1) w3.heap.size 3 1 (.slice A3 (2 + 2 * (j + 1)) c3) (2 + 2 * (j + 1)) ((pack1 l ++ (l.image.cells.take (j + 1)).flatMap pC).flatMap eI) := by rw [snoc_form (pack1 l) _ Hy.out, ← eL]; simpa [List.flatMap_append, List.append_assoc, pC, eI] using o3
        go_wp2
        go_roundw
        case rel => exact ⟨j + 1, A3, c3, by omega, by go_num, rfl, x3, o4, hX3⟩
        case measure => simp [intOf]; omega
      · obtain rfl : n0 = j := by omega
        have htk : l.image.cells.take n0 = l.image.cells := List.take_of_length_le (by rw [H0.out]; omega)
        rw [htk] at ow
        clear htk
        obtain ⟨x_p0, x_f0⟩ := x.at 0 _ rfl
        obtain ⟨x_p1, x_f1⟩ := x.at 1 _ rfl
        obtain ⟨x_p2, x_f2⟩ := x.at 2 _ rfl
        obtain ⟨x_p3, x_f3⟩ := x.at 3 _ rfl
        have hV4 := (Ext.refl wr).alloc (.cells #[.int .i64 (n1 : Int)] 3)
        have hon := own_made wr #[.int .i64 (n1 : Int)] 1 3 1 (by unfold maxLen; omega) rfl
        go_wp2_with (at_builtin; go_loud (refine wpList_app _ rfl _ _ 84 rfl 3 i0 _ 1 8 Try.underlying84 hi0 hz0 hz1 hz2 rfl (by omega) (w.heap.size + 1) wr.heap.size (.slice A' (2 + 2 * n0) c') (2 + 2 * n0) _ rfl (hV4.own ow (by omega)) (by first | omega | (simp; omega)) (by first | omega | (simp; done) | (simp; omega)) (wr.heap.size + 1) (some ⟨wr.heap.size, 0, none⟩) 1 1 [.int .i64 (n1 : Int)] rfl hon.rd.2.2.2 (by simp [Value.oneCell']) (by unfold maxLen; omega) (by omega) ?_))
        intro A4 c4 w4 o4 hg4
        have hF4 : Fr _ _ _ w4 := Fr.of_grown hg4 (fun g h => ow.lt g h)
        have x4 := (x.ext hV4).fr hF4 (.inl (by omega))
        have hX4 : Ext w w4 := (hX.trans hV4).fr hF4 (by omega)
        have o5 : Own w4 (w.heap.size + 1) w4.heap.size 3 1 (.slice A4 (2 + 2 * n0 + 1) c4) (2 + 2 * n0 + 1) ((pack2 l).flatMap eI) := by unfold pack2; rw [H1.out]; simpa [List.flatMap_append, List.append_assoc, eI] using o4
        clear x_p0 x_f0 x_p1 x_f1 x_p2 x_f2 x_p3 x_f3
        clear x ow hX o4 hF4 hg4 hV4 hon hlt
        have x := x4
        have ow := o5
        have hX := hX4
        clear x4 o5 hX4
        have hlx := x.lt
        obtain ⟨x_p0, x_f0⟩ := x.at 0 _ rfl
        obtain ⟨x_p1, x_f1⟩ := x.at 1 _ rfl
        obtain ⟨x_p2, x_f2⟩ := x.at 2 _ rfl
        obtain ⟨x_p3, x_f3⟩ := x.at 3 _ rfl
        go_wp2
        clear x_p0 x_f0 x_p1 x_f1 x_p2 x_f2 x_p3 x_f3
        go_loopw [4, 6] (fun nv iv wr => ∃ (j : Nat) (A' : Option Addr) (c' : Nat), j ≤ n1 ∧ iv = .int .i64 j ∧ nv = .slice A' (2 + 2 * n0 + 1 + 3 * j) c' ∧ Blk wr w.heap.size 42 [.int .i64 l.base, .slice A0 n0 c0, .slice A1 n1 c1, .slice A2 n2 c2] ∧ Own wr (w.heap.size + 1) wr.heap.size 3 1 (.slice A' (2 + 2 * n0 + 1 + 3 * j) c') (2 + 2 * n0 + 1 + 3 * j) ((pack2 l ++ (l.image.seats.take j).flatMap pS).flatMap eI) ∧ Ext w wr) (fun _ iv _ => n1 - (intOf iv).toNat)
        case atStart => exact ⟨0, _, _, by omega, rfl, rfl, x, by rw [List.take_zero, List.flatMap_nil, List.append_nil]; exact ow, hX⟩
        case round =>
          obtain ⟨j, A', c', hj, rfl, rfl, x, ow, hX⟩ := hrel
          have hlx := x.lt
          by_cases hlt : j < n1
          · obtain ⟨b, off, y, rfl, hb, hy1, hc0, hc1, hc2⟩ := (hX.rd hrd1 hB).Seat H1.out hlt
            have hlt' : (j : Int) < (n1 : Int) := by omega
            have hsm := seat_small Hok.out hy1
            have hwr : IntKind.i64.wrap (y.answer + 1) = y.answer + 1 := IntWalk.i64_in _ (by omega)
            clear hsm
            have Hy := Lib.hid hy1
            clear hy1
            obtain ⟨x_p0, x_f0⟩ := x.at 0 _ rfl
            obtain ⟨x_p1, x_f1⟩ := x.at 1 _ rfl
            obtain ⟨x_p2, x_f2⟩ := x.at 2 _ rfl
            obtain ⟨x_p3, x_f3⟩ := x.at 3 _ rfl
            have hV1 : Ext wr (wr.alloc (.cells #[.int .i64 y.client, .int .i64 y.req, .int .i64 y.answer] 88)) := by repeat' (first | with_reducible exact Ext.refl _ | with_reducible assumption | with_reducible refine Ext.set ?_ ?_ _ _ | with_reducible refine Ext.alloc ?_ _ | with_reducible refine Ext.drew ?_ | with_reducible refine Ext.drewN ?_ _ | with_reducible refine Ext.trans ?_ (by with_reducible assumption) | omega | (simp; done) | (simp; omega))
            have zV1 : wr.heap.size + 1 ≤ (wr.alloc (.cells #[.int .i64 y.client, .int .i64 y.req, .int .i64 y.answer] 88)).heap.size := by simp
            have q : Blk (wr.alloc (.cells #[.int .i64 y.client, .int .i64 y.req, .int .i64 y.answer] 88)) wr.heap.size 88 [.int .i64 y.client, .int .i64 y.req, .int .i64 y.answer] := (Blk.new wr #[.int .i64 y.client, .int .i64 y.req, .int .i64 y.answer] 88 (by first | rfl | simp))
            go_upto_region 13 with (fail)
            clear x_p0 x_f0 x_p1 x_f1 x_p2 x_f2 x_p3 x_f3
            replace x := x.ext hV1
            replace ow := hV1.own ow (Nat.le_refl _)
            replace hX := hX.trans hV1
            clear hV1 hc0 hc1 hc2
            generalize (wr.alloc (.cells #[.int .i64 y.client, .int .i64 y.req, .int .i64 y.answer] 88)) = V1 at *
            obtain ⟨q_p0, q_f0⟩ := q.at 0 _ rfl
            obtain ⟨q_p1, q_f1⟩ := q.at 1 _ rfl
            obtain ⟨q_p2, q_f2⟩ := q.at 2 _ rfl
            have hV3 := (Ext.refl V1).alloc (.cells #[.int .i64 y.client, .int .i64 y.req, .int .i64 (y.answer + 1)] 3)
            have hon := own_made V1 #[.int .i64 y.client, .int .i64 y.req, .int .i64 (y.answer + 1)] 3 3 1 (by unfold maxLen; omega) rfl
            go_wp2_with (at_builtin; go_loud (refine wpList_app _ rfl _ _ 84 rfl 3 i0 _ 1 8 Try.underlying84 hi0 hz0 hz1 hz2 rfl (by omega) (w.heap.size + 1) wr.heap.size (.slice A' (2 + 2 * n0 + 1 + 3 * j) c') (2 + 2 * n0 + 1 + 3 * j) _ rfl (hV3.own ow (by omega)) (by first | omega | (simp; omega)) (by first | omega | (simp; done) | (simp; omega)) (V1.heap.size + 1) (some ⟨V1.heap.size, 0, none⟩) 3 3 [.int .i64 y.client, .int .i64 y.req, .int .i64 (y.answer + 1)] rfl hon.rd.2.2.2 (by simp [Value.oneCell']) (by unfold maxLen; omega) (by omega) ?_))
            intro A3 c3 w3 o3 hg3
            have hF3 : Fr _ _ _ w3 := Fr.of_grown hg3 (fun g h => ow.lt g h)
            have x3 := (x.ext hV3).fr hF3 (.inl (by omega))
            have hX3 : Ext w w3 := (hX.trans hV3).fr hF3 (by omega)
            clear q_p0 q_f0 q_p1 q_f1 q_p2 q_f2
            clear x q ow hF3 hg3 hV3 hon
            have eL : 2 + 2 * n0 + 1 + 3 * j + 3 = 2 + 2 * n0 + 1 + 3 * (j + 1) := by omega
            have o4 : Own w3 (w.heap.size + 1) w3.heap.size 3 1 (.slice A3 (2 + 2 * n0 + 1 + 3 * (j + 1)) c3) (2 + 2 * n0 + 1 + 3 * (j + 1)) ((pack2 l ++ (l.image.seats.take (j + 1)).flatMap pS).flatMap eI) := by rw [snoc_form (pack2 l) _ Hy.out, ← eL]; simpa [List.flatMap_append, List.append_assoc, pS, eI] using o3
            go_wp2
            go_roundw
            case rel => exact ⟨j + 1, A3, c3, by omega, by go_num, rfl, x3, o4, hX3⟩
            case measure => simp [intOf]; omega
          · obtain rfl : n1 = j := by omega
            have htk : l.image.seats.take n1 = l.image.seats := List.take_of_length_le (by rw [H1.out]; omega)
            rw [htk] at ow
            clear htk
            obtain ⟨x_p0, x_f0⟩ := x.at 0 _ rfl
            obtain ⟨x_p1, x_f1⟩ := x.at 1 _ rfl
            obtain ⟨x_p2, x_f2⟩ := x.at 2 _ rfl
            obtain ⟨x_p3, x_f3⟩ := x.at 3 _ rfl
            have hV4 := (Ext.refl wr).alloc (.cells #[.int .i64 (n2 : Int)] 3)
            have hon := own_made wr #[.int .i64 (n2 : Int)] 1 3 1 (by unfold maxLen; omega) rfl
            go_wp2_with (at_builtin; go_loud (refine wpList_app _ rfl _ _ 84 rfl 3 i0 _ 1 8 Try.underlying84 hi0 hz0 hz1 hz2 rfl (by omega) (w.heap.size + 1) wr.heap.size (.slice A' (2 + 2 * n0 + 1 + 3 * n1) c') (2 + 2 * n0 + 1 + 3 * n1) _ rfl (hV4.own ow (by omega)) (by first | omega | (simp; omega)) (by first | omega | (simp; done) | (simp; omega)) (wr.heap.size + 1) (some ⟨wr.heap.size, 0, none⟩) 1 1 [.int .i64 (n2 : Int)] rfl hon.rd.2.2.2 (by simp [Value.oneCell']) (by unfold maxLen; omega) (by omega) ?_))
            intro A4 c4 w4 o4 hg4
            have hF4 : Fr _ _ _ w4 := Fr.of_grown hg4 (fun g h => ow.lt g h)
            have x4 := (x.ext hV4).fr hF4 (.inl (by omega))
            have hX4 : Ext w w4 := (hX.trans hV4).fr hF4 (by omega)
            have o5 : Own w4 (w.heap.size + 1) w4.heap.size 3 1 (.slice A4 (2 + 2 * n0 + 1 + 3 * n1 + 1) c4) (2 + 2 * n0 + 1 + 3 * n1 + 1) ((pack3 l).flatMap eI) := by unfold pack3; rw [H2.out]; simpa [List.flatMap_append, List.append_assoc, eI] using o4
            clear x_p0 x_f0 x_p1 x_f1 x_p2 x_f2 x_p3 x_f3
            clear x ow hX o4 hF4 hg4 hV4 hon hlt
            have x := x4
            have ow := o5
            have hX := hX4
            clear x4 o5 hX4
            have hlx := x.lt
            obtain ⟨x_p0, x_f0⟩ := x.at 0 _ rfl
            obtain ⟨x_p1, x_f1⟩ := x.at 1 _ rfl
            obtain ⟨x_p2, x_f2⟩ := x.at 2 _ rfl
            obtain ⟨x_p3, x_f3⟩ := x.at 3 _ rfl
            go_wp2
            clear x_p0 x_f0 x_p1 x_f1 x_p2 x_f2 x_p3 x_f3
            go_loopw [4, 8] (fun nv iv wr => ∃ (j : Nat) (A' : Option Addr) (c' : Nat), j ≤ n2 ∧ iv = .int .i64 j ∧ nv = .slice A' (2 + 2 * n0 + 1 + 3 * n1 + 1 + 5 * j) c' ∧ Blk wr w.heap.size 42 [.int .i64 l.base, .slice A0 n0 c0, .slice A1 n1 c1, .slice A2 n2 c2] ∧ Own wr (w.heap.size + 1) wr.heap.size 3 1 (.slice A' (2 + 2 * n0 + 1 + 3 * n1 + 1 + 5 * j) c') (2 + 2 * n0 + 1 + 3 * n1 + 1 + 5 * j) ((pack3 l ++ (l.entries.take j).flatMap pE).flatMap eI) ∧ Ext w wr) (fun _ iv _ => n2 - (intOf iv).toNat)
            case atStart => exact ⟨0, _, _, by omega, rfl, rfl, x, by rw [List.take_zero, List.flatMap_nil, List.append_nil]; exact ow, hX⟩
            case round =>
              obtain ⟨j, A', c', hj, rfl, rfl, x, ow, hX⟩ := hrel
              have hlx := x.lt
              by_cases hlt : j < n2
              · obtain ⟨b, off, y, rfl, hb, hy1, hc0, hc1, hc2, hc3, hc4⟩ := (hX.rd hrd2 hB).Entry H2.out hlt
                have hlt' : (j : Int) < (n2 : Int) := by omega
                have Hy := Lib.hid hy1
                clear hy1
                obtain ⟨x_p0, x_f0⟩ := x.at 0 _ rfl
                obtain ⟨x_p1, x_f1⟩ := x.at 1 _ rfl
                obtain ⟨x_p2, x_f2⟩ := x.at 2 _ rfl
                obtain ⟨x_p3, x_f3⟩ := x.at 3 _ rfl
                have hV1 : Ext wr (wr.alloc (.cells #[.int .i64 y.client, .int .i64 y.req, .int .i64 y.cmd.kind, .int .i64 y.cmd.key, .int .i64 y.cmd.value] 90)) := by repeat' (first | with_reducible exact Ext.refl _ | with_reducible assumption | with_reducible refine Ext.set ?_ ?_ _ _ | with_reducible refine Ext.alloc ?_ _ | with_reducible refine Ext.drew ?_ | with_reducible refine Ext.drewN ?_ _ | with_reducible refine Ext.trans ?_ (by with_reducible assumption) | omega | (simp; done) | (simp; omega))
                have zV1 : wr.heap.size + 1 ≤ (wr.alloc (.cells #[.int .i64 y.client, .int .i64 y.req, .int .i64 y.cmd.kind, .int .i64 y.cmd.key, .int .i64 y.cmd.value] 90)).heap.size := by simp
                have q : Blk (wr.alloc (.cells #[.int .i64 y.client, .int .i64 y.req, .int .i64 y.cmd.kind, .int .i64 y.cmd.key, .int .i64 y.cmd.value] 90)) wr.heap.size 90 [.int .i64 y.client, .int .i64 y.req, .int .i64 y.cmd.kind, .int .i64 y.cmd.key, .int .i64 y.cmd.value] := (Blk.new wr #[.int .i64 y.client, .int .i64 y.req, .int .i64 y.cmd.kind, .int .i64 y.cmd.key, .int .i64 y.cmd.value] 90 (by first | rfl | simp))
                go_upto_region 19 with (fail)
                clear x_p0 x_f0 x_p1 x_f1 x_p2 x_f2 x_p3 x_f3
                replace x := x.ext hV1
                replace ow := hV1.own ow (Nat.le_refl _)
                replace hX := hX.trans hV1
                clear hV1 hc0 hc1 hc2 hc3 hc4
                generalize (wr.alloc (.cells #[.int .i64 y.client, .int .i64 y.req, .int .i64 y.cmd.kind, .int .i64 y.cmd.key, .int .i64 y.cmd.value] 90)) = V1 at *
                obtain ⟨q_p0, q_f0⟩ := q.at 0 _ rfl
                obtain ⟨q_p1, q_f1⟩ := q.at 1 _ rfl
                obtain ⟨q_p2, q_f2⟩ := q.at 2 _ rfl
                obtain ⟨q_p3, q_f3⟩ := q.at 3 _ rfl
                obtain ⟨q_p4, q_f4⟩ := q.at 4 _ rfl
                have hV3 := (Ext.refl V1).alloc (.cells #[.int .i64 y.client, .int .i64 y.req, .int .i64 y.cmd.kind, .int .i64 y.cmd.key, .int .i64 y.cmd.value] 3)
                have hon := own_made V1 #[.int .i64 y.client, .int .i64 y.req, .int .i64 y.cmd.kind, .int .i64 y.cmd.key, .int .i64 y.cmd.value] 5 3 1 (by unfold maxLen; omega) rfl
                go_wp2_with (at_builtin; go_loud (refine wpList_app _ rfl _ _ 84 rfl 3 i0 _ 1 8 Try.underlying84 hi0 hz0 hz1 hz2 rfl (by omega) (w.heap.size + 1) wr.heap.size (.slice A' (2 + 2 * n0 + 1 + 3 * n1 + 1 + 5 * j) c') (2 + 2 * n0 + 1 + 3 * n1 + 1 + 5 * j) _ rfl (hV3.own ow (by omega)) (by first | omega | (simp; omega)) (by first | omega | (simp; done) | (simp; omega)) (V1.heap.size + 1) (some ⟨V1.heap.size, 0, none⟩) 5 5 [.int .i64 y.client, .int .i64 y.req, .int .i64 y.cmd.kind, .int .i64 y.cmd.key, .int .i64 y.cmd.value] rfl hon.rd.2.2.2 (by simp [Value.oneCell']) (by unfold maxLen; omega) (by omega) ?_))
                intro A3 c3 w3 o3 hg3
                have hF3 : Fr _ _ _ w3 := Fr.of_grown hg3 (fun g h => ow.lt g h)
                have x3 := (x.ext hV3).fr hF3 (.inl (by omega))
                have hX3 : Ext w w3 := (hX.trans hV3).fr hF3 (by omega)
                clear q_p0 q_f0 q_p1 q_f1 q_p2 q_f2 q_p3 q_f3 q_p4 q_f4
                clear x q ow hF3 hg3 hV3 hon
                have eL : 2 + 2 * n0 + 1 + 3 * n1 + 1 + 5 * j + 5 = 2 + 2 * n0 + 1 + 3 * n1 + 1 + 5 * (j + 1) := by omega
                have o4 : Own w3 (w.heap.size + 1) w3.heap.size 3 1 (.slice A3 (2 + 2 * n0 + 1 + 3 * n1 + 1 + 5 * (j + 1)) c3) (2 + 2 * n0 + 1 + 3 * n1 + 1 + 5 * (j + 1)) ((pack3 l ++ (l.entries.take (j + 1)).flatMap pE).flatMap eI) := by rw [snoc_form (pack3 l) _ Hy.out, ← eL]; simpa [List.flatMap_append, List.append_assoc, pE, eI] using o3
                go_wp2
                go_roundw
                case rel => exact ⟨j + 1, A3, c3, by omega, by go_num, rfl, x3, o4, hX3⟩
                case measure => simp [intOf]; omega
              · obtain rfl : n2 = j := by omega
                have htk : l.entries.take n2 = l.entries := List.take_of_length_le (by rw [H2.out]; omega)
                rw [htk] at ow
                clear htk
                obtain ⟨x_p0, x_f0⟩ := x.at 0 _ rfl
                obtain ⟨x_p1, x_f1⟩ := x.at 1 _ rfl
                obtain ⟨x_p2, x_f2⟩ := x.at 2 _ rfl
                obtain ⟨x_p3, x_f3⟩ := x.at 3 _ rfl
                go_wp2_with fail
                refine (putNums_s _ (packNums l) _ wr.heap.size ⟨_, _, _, rfl, Hn.out, ow.rd.2.1, ow.rd.2.2.1, by exact ow.rd.2.2.2⟩ (Nat.le_refl _) Hps.out (by rw [Hn.out]; omega)).mono ?_
                rintro e w9 ⟨v9, rfl, o9, hE9⟩
                have hX9 := hX.trans hE9
                have hz9 := hX.size
                go_wp2
                rw [hf.out]
                exact bodyPost_ret (v := .tuple #[v9, .bool true]) (by simp [results, Try.results15, go_sem]) rfl ⟨_, rfl, o9.wide hz9 (Nat.le_refl _), hX9⟩

end Go.Proofs.Ytbfbdhjeoknjkaa
