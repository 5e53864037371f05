/-
  Commands and entries as the reference draws them.
-/
import Derived.Test.YtbfbdhjeoknjkaaDraw
import Derived.Test.YtbfbdhjeoknjkaaMg1
import Derived.Test.YtbfbdhjeoknjkaaMg3
import Derived.Test.YtbfbdhjeoknjkaaEntries
import Derived.Deep.DeepCutAuto
namespace Go.Proofs.Ytbfbdhjeoknjkaa
open Go.RowKit

theorem Fr.thenExt {g : Nat} {a b c : World} (h : Fr g (g + 1) a b) (k : Ext b c) : Fr g (g + 1) a c := h.trans (Fr.ext k)
theorem Fr.thenFr {g lo hi : Nat} {a b c : World} (h : Fr g (g + 1) a b) (k : Fr lo hi b c) (hlo : a.heap.size ≤ lo) : Fr g (g + 1) a c :=
  ⟨k.os.trans h.os, k.tape.trans h.tape, k.output.trans h.output, Nat.le_trans h.size k.size, fun i hi hn => (k.block i (Nat.lt_of_lt_of_le hi h.size) (.inl (by omega))).trans (h.block i hi hn)⟩
theorem Cur.fr {a b : World} {g lo hi : Nat} (h : Cur a g) (hF : Fr lo hi a b) (hlo : g < lo) : Cur b g := by
  have hg := h.lt
  obtain ⟨A, n, c, l, i, hh, x0, x1, x2, hl, hn, hr, hi'⟩ := h
  exact ⟨A, n, c, l, i, hh, x0.fr hF (.inl hlo), x1.fr hF (.inl hlo), x2.fr hF (.inl hlo), hl, hn, hr.fr hF (Nat.le_of_lt hlo) (Nat.le_of_lt hg), hi'⟩
theorem Cur.set {a : World} {g k : Nat} (h : Cur a g) (hk : g < k) (j : Nat) (u : Value) : Cur (a.setCell ⟨k, j, none⟩ u) g := h.fr (Fr.cell1 u) hk
theorem Cur.alloc {a : World} {g : Nat} (h : Cur a g) (o : Obj) : Cur (a.alloc o) g := h.ext ((Ext.refl _).alloc o)
theorem Cur.drew {a : World} {g : Nat} (h : Cur a g) : Cur a.drew g := h.ext (Ext.refl _).drew
theorem Bx.cur {a b : World} {g k j : Nat} {v : Value} (h : Bx a k j v) (hF : Fr g (g + 1) a b) (hk : g < k) : Bx b k j v := h.fr hF (.inr hk)
theorem Fr.thenSet {g k j : Nat} {a b : World} {u : Value} (h : Fr g (g + 1) a b) (hk : a.heap.size ≤ k) : Fr g (g + 1) a (b.setCell ⟨k, j, none⟩ u) := h.thenFr (Fr.cell1 u) hk
theorem Fr.thenAlloc {g : Nat} {a b : World} (h : Fr g (g + 1) a b) (o : Obj) : Fr g (g + 1) a (b.alloc o) := h.thenExt ((Ext.refl _).alloc o)
theorem Fr.thenDrew {g : Nat} {a b : World} (h : Fr g (g + 1) a b) : Fr g (g + 1) a b.drew := h.thenExt (Ext.refl _).drew
/-- A drawn number is not far out. -/
def Near (x : Int) : Prop := -2 ≤ x ∧ x ≤ 1000000001
/-- The cells of a row of numbers that has just been laid. -/
theorem pick_cells (w : World) (l : List Int) (e : TypeId) : ∀ j x, l[j]? = some x → (w.alloc (.cells (l.map (Value.int .i64)).toArray e)).cell? ⟨w.heap.size, j, none⟩ = some (.int .i64 x) := by
  intro j x hx
  rw [cell_of_row _ _ _ (l.map (Value.int .i64)).toArray e (0, 0) (heap_alloc_new w _)]
  simp [hx]

set_option maxRecDepth 100000 in
set_option maxHeartbeats 4000000 in
theorem l2DrawCmd_s (g : Nat) (w : World) (hc : Cur w g) : Calls Try.prog 137 #[.pointer (some ⟨g, 0, none⟩)] w fun e w' => ∃ k x y : Int, Near x ∧ e = .returned (.agg #[.int .i64 k, .int .i64 x, .int .i64 y]) ∧ Cur w' g ∧ Fr g (g + 1) w w' := by
  have hg := hc.lt
  have hW0 : Ext w (w.alloc (.cells #[.int .i64 0, .int .i64 0, .int .i64 0] 35)) := by repeat' (first | with_reducible exact Ext.refl _ | with_reducible assumption | with_reducible refine Ext.set ?_ ?_ _ _ | with_reducible refine Ext.alloc ?_ _ | with_reducible refine Ext.drew ?_ | with_reducible refine Ext.drewN ?_ _ | with_reducible refine Ext.trans ?_ (by with_reducible assumption) | omega | (simp; done) | (simp; omega))
  have zW0 : w.heap.size + 1 ≤ (w.alloc (.cells #[.int .i64 0, .int .i64 0, .int .i64 0] 35)).heap.size := by simp
  have r : Blk (w.alloc (.cells #[.int .i64 0, .int .i64 0, .int .i64 0] 35)) w.heap.size 35 [.int .i64 0, .int .i64 0, .int .i64 0] := (Blk.new w #[.int .i64 0, .int .i64 0, .int .i64 0] 35 (by first | rfl | simp))
  go_enter Try.func137, Try.ntmps137
  go_wp2_with fail
  generalize (w.alloc (.cells #[.int .i64 0, .int .i64 0, .int .i64 0] 35)) = W0 at *
  refine (l1Below_s g _ _ (hc.ext hW0) (by omega)).mono ?_
  rintro e w1 ⟨a, rfl, ha, -, hc1, hF1⟩
  have ha' := ha (by omega)
  have hlr := r.lt
  have hz1 := hF1.size
  replace r := r.fr hF1 (.inr (by omega))
  have hFr := (Fr.ext (lo := g) (hi := g + 1) hW0).trans hF1
  clear hF1 hW0 hc ha
  go_wp2_with fail
  refine (l1Below_s g _ _ hc1 (by omega)).mono ?_
  rintro e w2 ⟨b, rfl, hb, -, hc2, hF2⟩
  have hb' := hb (by omega)
  have hnb : Near (b : Int) := ⟨by omega, by omega⟩
  clear hb hb'
  have hz2 := hF2.size
  replace r := r.fr hF2 (.inr (by omega))
  replace hFr := hFr.trans hF2
  clear hF2 hc1
  obtain ⟨kd, hkd⟩ : ∃ kd : Int, 1 + (a : Int) = kd := ⟨_, rfl⟩
  have hW2 : Ext w2 (w2.alloc (.cells #[.int .i64 kd, .int .i64 (b : Int), .int .i64 0] 35)) := by repeat' (first | with_reducible exact Ext.refl _ | with_reducible assumption | with_reducible refine Ext.set ?_ ?_ _ _ | with_reducible refine Ext.alloc ?_ _ | with_reducible refine Ext.drew ?_ | with_reducible refine Ext.drewN ?_ _ | with_reducible refine Ext.trans ?_ (by with_reducible assumption) | omega | (simp; done) | (simp; omega))
  have zW2 : w2.heap.size + 1 ≤ (w2.alloc (.cells #[.int .i64 kd, .int .i64 (b : Int), .int .i64 0] 35)).heap.size := by simp
  have k : Blk (w2.alloc (.cells #[.int .i64 kd, .int .i64 (b : Int), .int .i64 0] 35)) w2.heap.size 35 [.int .i64 kd, .int .i64 (b : Int), .int .i64 0] := (Blk.new w2 #[.int .i64 kd, .int .i64 (b : Int), .int .i64 0] 35 (by first | rfl | simp))
  go_upto_region 2 with (fail)
  clear hkd ha'
  replace r := r.ext hW2
  replace hc2 := hc2.ext hW2
  replace hFr := hFr.thenExt hW2
  clear hW2
  generalize (w2.alloc (.cells #[.int .i64 kd, .int .i64 (b : Int), .int .i64 0] 35)) = W2 at *
  have hlk := k.lt
  obtain ⟨k_p0, k_f0⟩ := k.at 0 _ rfl
  obtain ⟨k_p1, k_f1⟩ := k.at 1 _ rfl
  obtain ⟨k_p2, k_f2⟩ := k.at 2 _ rfl
  by_cases hq : kd = 2 ∨ kd = 3
  · have hq2 : ((kd == 2) = true) ∨ ((kd == 2) = false ∧ (kd == 3) = true) := by
      rcases hq with h | h
      · left; simp [h]
      · right; simp [h]
    clear hq
    rcases hq2 with t2 | ⟨t2, t3⟩
    all_goals
      go_wp2_with fail
      refine (l1Below_s g _ _ hc2 (by omega)).mono ?_
      rintro e w3 ⟨y, rfl, -, -, hc3, hF3⟩
      have hz3 := hF3.size
      replace r := r.fr hF3 (.inr (by omega))
      clear k_p0 k_f0 k_p1 k_f1 k_p2 k_f2
      replace k := k.fr hF3 (.inr (by omega))
      obtain ⟨k_p0, k_f0⟩ := k.at 0 _ rfl
      obtain ⟨k_p1, k_f1⟩ := k.at 1 _ rfl
      obtain ⟨k_p2, k_f2⟩ := k.at 2 _ rfl
      replace hFr := hFr.trans hF3
      clear hF3 hc2
      go_wp2_with fail
      clear k_p0 k_f0 k_p1 k_f1 k_p2 k_f2
      have k' := k.set 2 (.int .i64 (y : Int))
      replace k := (show Blk _ _ _ [_, _, .int .i64 (y : Int)] from k')
      clear k'
      replace r := r.far (h := w2.heap.size) (by omega) 2 (.int .i64 (y : Int))
      replace hc3 := hc3.set (k := w2.heap.size) (by omega) 2 (.int .i64 (y : Int))
      replace hFr := hFr.thenSet (k := w2.heap.size) (j := 2) (u := .int .i64 (y : Int)) (by omega)
      generalize w3.setCell ⟨w2.heap.size, 2, none⟩ (.int .i64 (y : Int)) = w4 at *
      refine (l1Once_s g _ _ hc3 (by omega)).mono ?_
      rintro e w5 ⟨bb, rfl, hc5, hF5⟩
      have hlk4 := k.lt
      have hlr4 := r.lt
      have hz5 := hF5.size
      replace r := r.fr hF5 (.inr (by omega))
      replace k := k.fr hF5 (.inr (by omega))
      replace hFr := hFr.trans hF5
      clear hF5 hc3
      obtain ⟨k_p0, k_f0⟩ := k.at 0 _ rfl
      obtain ⟨k_p1, k_f1⟩ := k.at 1 _ rfl
      obtain ⟨k_p2, k_f2⟩ := k.at 2 _ rfl
      cases bb with
      | false =>
        obtain ⟨r_p0, r_f0⟩ := r.at 0 _ rfl
        obtain ⟨r_p1, r_f1⟩ := r.at 1 _ rfl
        obtain ⟨r_p2, r_f2⟩ := r.at 2 _ rfl
        go_wp2
        exact bodyPost_ret (v := .agg #[.int .i64 kd, .int .i64 (b : Int), .int .i64 (y : Int)]) (by simp [results, Try.results137, go_sem, r_p0, r_p1, r_p2]) rfl ⟨_, _, _, hnb, rfl, by repeat' (first | with_reducible assumption | with_reducible refine Cur.set ?_ ?_ _ _ | with_reducible refine Cur.alloc ?_ _ | with_reducible refine Cur.drew ?_ | omega | (simp; done) | (simp; omega)), by repeat' (first | with_reducible assumption | with_reducible refine Fr.thenSet ?_ ?_ | with_reducible refine Fr.thenAlloc ?_ _ | with_reducible refine Fr.thenDrew ?_ | omega | (simp; done) | (simp; omega))⟩
      | true =>
        go_wp2_with fail
        refine (l1Below_s g _ _ hc5 (by omega)).mono ?_
        rintro e w6 ⟨z, rfl, hz, -, hc6, hF6⟩
        have hz' := hz (by omega)
        have hz6 := hF6.size
        replace r := r.fr hF6 (.inr (by omega))
        clear k_p0 k_f0 k_p1 k_f1 k_p2 k_f2
        replace k := k.fr hF6 (.inr (by omega))
        obtain ⟨k_p0, k_f0⟩ := k.at 0 _ rfl
        obtain ⟨k_p1, k_f1⟩ := k.at 1 _ rfl
        obtain ⟨k_p2, k_f2⟩ := k.at 2 _ rfl
        replace hFr := hFr.trans hF6
        clear hF6 hc5 hz
        obtain ⟨r_p0, r_f0⟩ := r.at 0 _ rfl
        obtain ⟨r_p1, r_f1⟩ := r.at 1 _ rfl
        obtain ⟨r_p2, r_f2⟩ := r.at 2 _ rfl
        go_wp2
        exact bodyPost_ret (v := .agg #[.int .i64 kd, .int .i64 (b : Int), .int .i64 (1000000000 - (z : Int))]) (by simp [results, Try.results137, go_sem, r_p0, r_p1, r_p2]) rfl ⟨_, _, _, hnb, rfl, by repeat' (first | with_reducible assumption | with_reducible refine Cur.set ?_ ?_ _ _ | with_reducible refine Cur.alloc ?_ _ | with_reducible refine Cur.drew ?_ | omega | (simp; done) | (simp; omega)), by repeat' (first | with_reducible assumption | with_reducible refine Fr.thenSet ?_ ?_ | with_reducible refine Fr.thenAlloc ?_ _ | with_reducible refine Fr.thenDrew ?_ | omega | (simp; done) | (simp; omega))⟩
  · have t2 : (kd == 2) = false := by simp; omega
    have t3 : (kd == 3) = false := by simp; omega
    obtain ⟨r_p0, r_f0⟩ := r.at 0 _ rfl
    obtain ⟨r_p1, r_f1⟩ := r.at 1 _ rfl
    obtain ⟨r_p2, r_f2⟩ := r.at 2 _ rfl
    go_wp2
    exact bodyPost_ret (v := .agg #[.int .i64 kd, .int .i64 (b : Int), .int .i64 0]) (by simp [results, Try.results137, go_sem, r_p0, r_p1, r_p2]) rfl ⟨_, _, _, hnb, rfl, by repeat' (first | with_reducible assumption | with_reducible refine Cur.set ?_ ?_ _ _ | with_reducible refine Cur.alloc ?_ _ | with_reducible refine Cur.drew ?_ | omega | (simp; done) | (simp; omega)), by repeat' (first | with_reducible assumption | with_reducible refine Fr.thenSet ?_ ?_ | with_reducible refine Fr.thenAlloc ?_ _ | with_reducible refine Fr.thenDrew ?_ | omega | (simp; done) | (simp; omega))⟩


set_option maxRecDepth 100000 in
set_option maxHeartbeats 4000000 in
theorem l2DrawEntry_s (g : Nat) (w : World) (hc : Cur w g) : Calls Try.prog 134 #[.pointer (some ⟨g, 0, none⟩)] w fun e w' => ∃ (p : Nat) (q k x y : Int), p ≤ 3 ∧ q ≤ 100 ∧ Near x ∧ e = .returned (.agg #[.int .i64 (p : Int), .int .i64 q, .int .i64 k, .int .i64 x, .int .i64 y]) ∧ Cur w' g ∧ Fr g (g + 1) w w' := by
  have hg := hc.lt
  have hW0 : Ext w (w.alloc (.cells #[.int .i64 0, .int .i64 0, .int .i64 0, .int .i64 0, .int .i64 0] 90)) := by repeat' (first | with_reducible exact Ext.refl _ | with_reducible assumption | with_reducible refine Ext.set ?_ ?_ _ _ | with_reducible refine Ext.alloc ?_ _ | with_reducible refine Ext.drew ?_ | with_reducible refine Ext.drewN ?_ _ | with_reducible refine Ext.trans ?_ (by with_reducible assumption) | omega | (simp; done) | (simp; omega))
  have zW0 : w.heap.size + 1 ≤ (w.alloc (.cells #[.int .i64 0, .int .i64 0, .int .i64 0, .int .i64 0, .int .i64 0] 90)).heap.size := by simp
  have r : Blk (w.alloc (.cells #[.int .i64 0, .int .i64 0, .int .i64 0, .int .i64 0, .int .i64 0] 90)) w.heap.size 90 [.int .i64 0, .int .i64 0, .int .i64 0, .int .i64 0, .int .i64 0] := (Blk.new w #[.int .i64 0, .int .i64 0, .int .i64 0, .int .i64 0, .int .i64 0] 90 (by first | rfl | simp))
  go_enter Try.func134, Try.ntmps134
  go_wp2_with fail
  generalize (w.alloc (.cells #[.int .i64 0, .int .i64 0, .int .i64 0, .int .i64 0, .int .i64 0] 90)) = W0 at *
  refine (l1Below_s g _ _ (hc.ext hW0) (by omega)).mono ?_
  rintro e w1 ⟨p, rfl, hp, -, hc1, hF1⟩
  have hp' := hp (by omega)
  have hlr := r.lt
  have hz1 := hF1.size
  replace r := r.fr hF1 (.inr (by omega))
  have hFr := (Fr.ext (lo := g) (hi := g + 1) hW0).trans hF1
  clear hF1 hW0 hc hp
  go_wp2_with fail
  refine (l1Below_s g _ _ hc1 (by omega)).mono ?_
  rintro e w2 ⟨q, rfl, hq, -, hc2, hF2⟩
  have hq' := hq (by omega)
  have hz2 := hF2.size
  replace r := r.fr hF2 (.inr (by omega))
  replace hFr := hFr.trans hF2
  clear hF2 hc1 hq
  go_wp2_with fail
  refine (l2DrawCmd_s g _ hc2).mono ?_
  rintro e w3 ⟨k, x, y, hnx, rfl, hc3, hF3⟩
  have hz3 := hF3.size
  replace r := r.fr hF3 (.inr (by omega))
  replace hFr := hFr.trans hF3
  clear hF3 hc2
  obtain ⟨r_p0, r_f0⟩ := r.at 0 _ rfl
  obtain ⟨r_p1, r_f1⟩ := r.at 1 _ rfl
  obtain ⟨r_p2, r_f2⟩ := r.at 2 _ rfl
  obtain ⟨r_p3, r_f3⟩ := r.at 3 _ rfl
  obtain ⟨r_p4, r_f4⟩ := r.at 4 _ rfl
  go_wp2
  exact bodyPost_ret (v := .agg #[.int .i64 (p : Int), .int .i64 (1 + (q : Int)), .int .i64 k, .int .i64 x, .int .i64 y]) (by simp [results, Try.results134, go_sem, r_p0, r_p1, r_p2, r_p3, r_p4]) rfl ⟨p, _, _, _, _, by omega, by omega, hnx, rfl, by repeat' (first | with_reducible assumption | with_reducible refine Cur.set ?_ ?_ _ _ | with_reducible refine Cur.alloc ?_ _ | with_reducible refine Cur.drew ?_ | omega | (simp; done) | (simp; omega)), by repeat' (first | with_reducible assumption | with_reducible refine Fr.thenSet ?_ ?_ | with_reducible refine Fr.thenAlloc ?_ _ | with_reducible refine Fr.thenDrew ?_ | omega | (simp; done) | (simp; omega))⟩

set_option maxRecDepth 100000 in
set_option maxHeartbeats 4000000 in
theorem l2DrawEntries_s (g : Nat) (most : Int) (w : World) (hc : Cur w g) (h0 : 0 ≤ most) (h1 : most ≤ 60) : Calls Try.prog 129 #[.pointer (some ⟨g, 0, none⟩), .int .i64 most] w fun e w' => ∃ v L, e = .returned v ∧ O_EntryS w' w.heap.size w'.heap.size v L ∧ L.length ≤ 60 ∧ (∀ e ∈ L, e.req ≤ 100) ∧ Cur w' g ∧ Fr g (g + 1) w w' := by
  have hg := hc.lt
  obtain ⟨i0, hi0, hz0, hz1, hz2⟩ := info_parts info_Entry
  have hwm : IntKind.i64.wrap (most + 1) = most + 1 := IntWalk.i64_in _ (by omega)
  have hA := (Ext.refl w).alloc (.cells #[] 90)
  go_enter Try.func129, Try.ntmps129
  go_wp2_with fail
  refine (l1Below_s g _ _ (hc.ext hA) (by omega)).mono ?_
  rintro e w1 ⟨n, rfl, hn, -, hc1, hF1⟩
  have hn' := hn (by omega)
  have hFr := (Fr.ext (lo := g) (hi := g + 1) hA).trans hF1
  clear hF1 hA hc hn
  go_wp2_with fail
  refine (l1Once_s g _ _ hc1 (by omega)).mono ?_
  rintro e w2 ⟨bb, rfl, hc2, hF2⟩
  replace hFr := hFr.trans hF2
  clear hF2 hc1
  have hwl := hFr.size
  go_upto_if 14 with (fail)
  go_cut [6] (fun mv wx => ∃ many : Nat, mv = .int .i64 (many : Int) ∧ many ≤ 60 ∧ wx = w2)
  case first =>
    cases bb with
    | false =>
      go_wp2_with fail
      go_meet
      exact ⟨n, rfl, by omega, rfl⟩
    | true =>
      go_wp2_with fail
      go_meet
      exact ⟨60, rfl, by omega, rfl⟩
  obtain ⟨many, rfl, hm60, rfl⟩ := hcut
  clear hn'
  go_wp2
  go_loopw [5, 7] (fun ov iv wr => ∃ (k : Nat) (L : List EntryD) (A' : Option Addr) (c' : Nat), k ≤ many ∧ iv = .int .i64 k ∧ ov = .slice A' k c' ∧ Hid (L.length = k) ∧ Hid (∀ e ∈ L, e.req ≤ 100) ∧ Own wr w.heap.size wr.heap.size 90 5 (.slice A' k c') k (L.flatMap eEntry) ∧ Cur wr g ∧ Fr g (g + 1) w wr) (fun _ iv _ => many - (intOf iv).toNat)
  case atStart => exact ⟨0, [], _, _, by omega, rfl, rfl, rfl, (fun _ h => nomatch h), Own.nil _ _ _ _ _ _, hc2, hFr⟩
  case round =>
    clear hc2 hFr
    obtain ⟨k, L, A', c', hk, rfl, rfl, hL, hQ, ow, hcr, hFr⟩ := hrel
    have hzr := hFr.size
    by_cases hlt : k < many
    · have hlt' : (k : Int) < (many : Int) := by omega
      go_wp2_with fail
      refine (l2DrawEntry_s g _ hcr).mono ?_
      rintro e w4 ⟨p, q, kd, x, y, -, hq, -, rfl, hc4, hF4⟩
      have hQ2 : Hid (∀ e ∈ L ++ [(⟨p, q, ⟨kd, x, y⟩⟩ : EntryD)], e.req ≤ 100) := by
        intro e he
        rcases List.mem_append.1 he with he | he
        · exact hQ.out e he
        · rw [List.mem_singleton.1 he]; exact hq
      clear hq
      have hz4 := hF4.size
      have ow4 := (ow.fr hF4 (.inr (by omega))).wide (Nat.le_refl _) hz4
      replace hFr := hFr.trans hF4
      clear hF4 hcr ow
      go_wp2_with (at_builtin; refine wpList_app _ rfl _ _ 40 rfl 90 i0 _ 5 40 Try.underlying40 hi0 hz0 hz1 hz2 rfl (by omega) w.heap.size w4.heap.size (.slice A' k c') k _ rfl (((Ext.refl w4).alloc _).own ow4 (by omega)) (by simp; omega) (by first | omega | (simp; done) | (simp; omega)) (w4.heap.size + 1) (some ⟨w4.heap.size, 0, none⟩) 1 1 (eEntry ⟨p, q, ⟨kd, x, y⟩⟩) rfl (own_made w4 #[.int .i64 (p : Int), .int .i64 q, .int .i64 kd, .int .i64 x, .int .i64 y] 1 90 5 (by unfold maxLen; omega) rfl).rd.2.2.2 (fun u hu => oneCell_Entry [⟨p, q, ⟨kd, x, y⟩⟩] u (by simpa using hu)) (by unfold maxLen; omega) (by omega) ?_)
      intro A6 c6 w6 o6 hg6
      have ow4A := ((Ext.refl w4).alloc (.cells #[.int .i64 (p : Int), .int .i64 q, .int .i64 kd, .int .i64 x, .int .i64 y] 90)).own ow4 (Nat.le_refl _)
      have hF6 : Fr _ _ _ w6 := Fr.of_grown hg6 (fun g h => ow4A.lt g h)
      have hz6 := hF6.size
      simp only [World.size_alloc] at hz6
      have hc6 := (hc4.alloc _).fr hF6 hg
      replace hFr := (hFr.thenAlloc _).thenFr hF6 (Nat.le_refl _)
      have hL2 : Hid ((L ++ [(⟨p, q, ⟨kd, x, y⟩⟩ : EntryD)]).length = k + 1) := by show _ = _; rw [List.length_append, hL.out]; rfl
      have o7 : Own w6 w.heap.size w6.heap.size 90 5 (.slice A6 (k + 1) c6) (k + 1) ((L ++ [(⟨p, q, ⟨kd, x, y⟩⟩ : EntryD)]).flatMap eEntry) := by
        rw [List.flatMap_append, List.flatMap_cons, List.flatMap_nil, List.append_nil]
        exact o6
      clear o6 hg6 ow4A ow4 hF6 hc4
      go_wp2
      go_roundw
      case rel => exact ⟨k + 1, _, A6, c6, by omega, by go_num, rfl, hL2, hQ2, o7, hc6, hFr⟩
      case measure => simp [intOf]; omega
    · obtain rfl : many = k := by omega
      go_wp2
      go_ret
      exact ⟨_, L, rfl, OwnS.of ow hL.out, by rw [hL.out]; exact hm60, hQ.out, hcr, hFr⟩

end Go.Proofs.Ytbfbdhjeoknjkaa
