/-
  'NetFor', the program's and the reference's, walked.
-/
import Derived.Test.YtllljddojncemaaNetOkS
import Derived.Test.YtllljddojncemaaBox
namespace Go.Proofs.Ytllljddojncemaa
open Go.RowKit

/-- The places of the flights to one replica, among the first k. -/
def forTo (l : List FlightD) (to : Int) (k : Nat) : List Int := (((List.range k).filter fun j : Nat => (l[j]?.map fun x => decide (x.to = to)) == some true) : List Nat).map fun j : Nat => (j : Int)
def netFor (n : NetD) (to : Int) : List Int := if netOk n then forTo n.list to n.list.length else []
theorem forTo_yes {l : List FlightD} {to : Int} {k : Nat} {x : FlightD} (hx : l[k]? = some x) (h : x.to = to) : forTo l to (k + 1) = forTo l to k ++ [(k : Int)] := by
  unfold forTo
  rw [List.range_succ, List.filter_append, List.map_append]
  simp [hx, h]
theorem forTo_no {l : List FlightD} {to : Int} {k : Nat} {x : FlightD} (hx : l[k]? = some x) (h : ¬ x.to = to) : forTo l to (k + 1) = forTo l to k := by
  unfold forTo
  rw [List.range_succ, List.filter_append, List.map_append]
  simp [hx, h]
theorem forTo_len (l : List FlightD) (to : Int) (k : Nat) : (forTo l to k).length ≤ k := by
  unfold forTo
  rw [List.length_map]
  exact Nat.le_trans (List.length_filter_le _ _) (by simp)
theorem netFor_len (n : NetD) (to : Int) : (netFor n to).length ≤ n.list.length := by
  unfold netFor
  split
  · exact forTo_len _ _ _
  · simp

set_option maxRecDepth 100000 in
set_option maxHeartbeats 4000000 in
theorem netFor_i (v : Value) (n : NetD) (to : Int) (w : World) (B : Nat) (hr : R_Net w B v n) (hB : B ≤ w.heap.size) (hsz : n.list.length ≤ 2097152) :
    Calls Try.prog 17 #[v, .int .i64 to] w fun e w' => ∃ v', e = .returned v' ∧ O_IntS w' w.heap.size w'.heap.size v' (netFor n to) ∧ Ext w w' := by
  have hr0 := hr
  obtain ⟨u, rfl, A, m, c, rfl, hl, hmc, hcm, hrd⟩ := hr
  obtain ⟨i0, hi0, hz0, hz1, hz2⟩ := info_parts info_Int
  have Hl := Lib.hid hl
  have hm : m ≤ 2097152 := by omega
  obtain ⟨res, hres⟩ : ∃ res, netFor n to = res := ⟨_, rfl⟩
  rw [hres]
  have Hsz := Lib.hid hsz
  have hX0 := (Ext.refl w).alloc (.cells #[.int .i64 n.next, .slice A m c] 29)
  have x0 := Bx.new w #[.int .i64 n.next, .slice A m c] 29 0 (.int .i64 n.next) rfl rfl
  have x1 := Bx.new w #[.int .i64 n.next, .slice A m c] 29 1 (.slice A m c) rfl rfl
  clear hl hsz
  go_enter Try.func17, Try.ntmps17
  go_wp2_with fail
  refine (netOk_i _ n _ B (by exact hr0.keep (keepE' (by repeat' (first | with_reducible exact Ext.refl _ | with_reducible assumption | with_reducible refine Ext.set ?_ ?_ _ _ | with_reducible refine Ext.alloc ?_ _ | with_reducible refine Ext.drew ?_ | with_reducible refine Ext.drewN ?_ _ | with_reducible refine Ext.trans ?_ (by with_reducible assumption) | omega | (simp; done) | (simp; omega))) hB)) (by first | omega | (simp; omega)) Hsz.out).mono ?_
  rintro e w1 ⟨rfl, hE1⟩
  replace hE1 : Ext (w.alloc (.cells #[.int .i64 n.next, .slice A m c] 29)) w1 := (((Ext.refl _).alloc _).trans hE1)
  replace x0 := x0.ext hE1
  replace x1 := x1.ext hE1
  have hX1 := hX0.trans hE1
  obtain ⟨p0, f0⟩ := id x0
  obtain ⟨p1, f1⟩ := id x1
  cases hok : netOk n with
  | false =>
    have hf : Hid (res = []) := by show _ = _; rw [← hres]; unfold netFor; rw [hok]; rfl
    clear hok hres
    go_wp2
    go_ret
    exact ⟨_, rfl, by rw [hf.out]; exact OwnS.nil _, hX1⟩
  | true =>
    have Hf : Hid (res = forTo n.list to m) := by show _ = _; rw [← hres]; unfold netFor; rw [hok, Hl.out]; rfl
    clear hok hres
    have hlt1 : w.heap.size < w1.heap.size := x0.lt
    go_wp2
    go_loopw [5, 16] (fun ov iv wr => ∃ (k t : Nat) (A' : Option Addr) (c' : Nat), k ≤ m ∧ t ≤ k ∧ iv = .int .i64 k ∧ ov = .slice A' t c' ∧ Hid ((forTo n.list to k).length = t) ∧ Own wr (w.heap.size + 1) wr.heap.size 3 1 (.slice A' t c') t ((forTo n.list to k).flatMap eI) ∧ Bx wr w.heap.size 0 (.int .i64 n.next) ∧ Bx wr w.heap.size 1 (.slice A m c) ∧ Ext w wr) (fun _ iv _ => m - (intOf iv).toNat)
    case atStart => exact ⟨0, 0, _, 0, by omega, by omega, rfl, rfl, rfl, Own.nil _ _ _ _ _ _, x0, x1, hX1⟩
    case round =>
      obtain ⟨k, t, A', c', hk, htk, rfl, rfl, hL, hown, x0, x1, hext⟩ := hrel
      have hz := hext.size
      have hzlt : w.heap.size < wr.heap.size := x0.lt
      clear p0 f0 p1 f1
      obtain ⟨p0, f0⟩ := id x0
      obtain ⟨p1, f1⟩ := id x1
      by_cases hlt : k < m
      · obtain ⟨b, off, x, rfl, hb, hx1, hc0, hc1, hc2⟩ := (hext.rd hrd hB).Flight Hl.out hlt
        have Hx := Lib.hid hx1
        have hlt' : (k : Int) < (m : Int) := by omega
        have hAl := (Ext.refl wr).alloc (.cells #[.int .i64 x.id, .int .i64 x.to, .string x.bytes] 43)
        clear hx1
        by_cases he : x.to = to
        · have hs := Lib.hid (forTo_yes Hx.out he)
          subst he
          have hown1 := (hAl.own hown (Nat.le_refl _))
          have hE1' := hext.alloc (.cells #[.int .i64 x.id, .int .i64 x.to, .string x.bytes] 43)
          have hzn : (wr.alloc (.cells #[.int .i64 x.id, .int .i64 x.to, .string x.bytes] 43)).heap.size = wr.heap.size + 1 := by simp
          have hon := own_made (wr.alloc (.cells #[.int .i64 x.id, .int .i64 x.to, .string x.bytes] 43)) #[.int .i64 (k : Int)] 1 3 1 (by unfold maxLen; omega) rfl
          rw [hzn] at hon
          have hA2 := hAl.alloc (.cells #[.int .i64 (k : Int)] 3)
          go_wp2_with (at_builtin; go_loud (refine wpList_app _ rfl _ _ 33 rfl 3 i0 _ 1 8 Try.underlying33 hi0 hz0 hz1 hz2 rfl (by omega) (w.heap.size + 1) wr.heap.size (.slice A' t c') t _ rfl (hA2.own hown (Nat.le_refl _)) (by simp; omega) (by simp; omega) (wr.heap.size + 2) (some ⟨wr.heap.size + 1, 0, none⟩) 1 1 (eI (k : Int)) rfl hon.rd.2.2.2 (by simp [eI, Value.oneCell']) (by unfold maxLen; omega) (by omega) ?_))
          intro A3 c3 w3 o3 hg3
          have hF3 : Fr _ _ _ w3 := Fr.of_grown hg3 (fun g h => hown.lt g h)
          have x0' := (x0.ext hA2).fr hF3 (.inl (by omega))
          have x1' := (x1.ext hA2).fr hF3 (.inl (by omega))
          have hX3 : Ext w w3 := (hext.trans hA2).fr hF3 (by omega)
          have hL3 : Hid ((forTo n.list x.to (k + 1)).length = t + 1) := by show _ = _; rw [hs.out, List.length_append, hL.out]; rfl
          replace o3 : Own w3 (w.heap.size + 1) w3.heap.size 3 1 (.slice A3 (t + 1) c3) (t + 1) ((forTo n.list x.to (k + 1)).flatMap eI) := by rw [hs.out, List.flatMap_append, List.flatMap_cons, List.flatMap_nil, List.append_nil]; exact o3
          clear hg3 hF3 hown hown1 x0 x1 p0 f0 p1 f1 hon hA2 hAl
          go_wp2
          go_roundw
          case rel => exact ⟨k + 1, t + 1, A3, c3, by omega, by omega, by go_num, rfl, hL3, o3, x0', x1', hX3⟩
          case measure => simp [intOf]; omega
        · have hs := Lib.hid (forTo_no Hx.out he)
          have hown1 := (hAl.own hown (Nat.le_refl _)).wide (Nat.le_refl _) hAl.size
          have x0' := x0.ext hAl
          have x1' := x1.ext hAl
          have hX3 := hext.trans hAl
          rw [← hs.out] at hown1 hL
          clear hown x0 x1 hAl
          go_wp2
          go_roundw
          case rel => exact ⟨k + 1, t, A', c', by omega, by omega, by go_num, rfl, hL, hown1, x0', x1', hX3⟩
          case measure => simp [intOf]; omega
      · obtain rfl : m = k := by omega
        go_wp2
        go_ret
        exact ⟨_, rfl, by rw [Hf.out]; exact (OwnS.of hown hL.out).wide (by omega) (Nat.le_refl _), hext⟩

set_option maxRecDepth 100000 in
set_option maxHeartbeats 4000000 in
theorem netFor_s (v : Value) (n : NetD) (to : Int) (w : World) (B : Nat) (hr : R_Net w B v n) (hB : B ≤ w.heap.size) (hsz : n.list.length ≤ 2097152) :
    Calls Try.prog 16 #[v, .int .i64 to] w fun e w' => ∃ v', e = .returned v' ∧ O_IntS w' w.heap.size w'.heap.size v' (netFor n to) ∧ Ext w w' := by
  have hr0 := hr
  obtain ⟨u, rfl, A, m, c, rfl, hl, hmc, hcm, hrd⟩ := hr
  obtain ⟨i0, hi0, hz0, hz1, hz2⟩ := info_parts info_Int
  have Hl := Lib.hid hl
  have hm : m ≤ 2097152 := by omega
  obtain ⟨res, hres⟩ : ∃ res, netFor n to = res := ⟨_, rfl⟩
  rw [hres]
  have Hsz := Lib.hid hsz
  have Hres : Hid (res = if netOk n then forTo n.list to m else []) := by show _ = _; rw [← hres]; unfold netFor; rw [hl]
  have hX0 := ((Ext.refl w).alloc (.cells #[.int .i64 n.next, .slice A m c] 29)).alloc (.cells #[] 3)
  have y0 := (Bx.new w #[.int .i64 n.next, .slice A m c] 29 0 (.int .i64 n.next) rfl rfl).alloc (.cells #[] 3)
  have y1 := (Bx.new w #[.int .i64 n.next, .slice A m c] 29 1 (.slice A m c) rfl rfl).alloc (.cells #[] 3)
  clear hl hsz hres
  go_enter Try.func16, Try.ntmps16
  go_wp2
  go_loopw [5, 6] (fun ov iv wr => ∃ (k t : Nat) (A' : Option Addr) (c' : Nat), k ≤ m ∧ t ≤ k ∧ iv = .int .i64 k ∧ ov = .slice A' t c' ∧ Hid (k = 0 ∨ netOk n = true) ∧ Hid ((forTo n.list to k).length = t) ∧ Own wr (w.heap.size + 1) wr.heap.size 3 1 (.slice A' t c') t ((forTo n.list to k).flatMap eI) ∧ Bx wr w.heap.size 0 (.int .i64 n.next) ∧ Bx wr w.heap.size 1 (.slice A m c) ∧ Ext w wr) (fun _ iv _ => m - (intOf iv).toNat)
  case atStart => exact ⟨0, 0, _, 0, by omega, by omega, rfl, rfl, .inl rfl, rfl, Own.nil _ _ _ _ _ _, y0, y1, hX0⟩
  case round =>
    obtain ⟨k, t, A', c', hk, htk, rfl, rfl, hk0, hL, hown, x0, x1, hext⟩ := hrel
    clear y0 y1 hX0
    have hz := hext.size
    have hzlt : w.heap.size < wr.heap.size := x0.lt
    obtain ⟨p0, f0⟩ := id x0
    obtain ⟨p1, f1⟩ := id x1
    by_cases hlt : k < m
    · obtain ⟨b, off, x, rfl, hb, hx1, -, -, -⟩ := (hext.rd hrd hB).Flight Hl.out hlt
      have Hx := Lib.hid hx1
      have hlt' : (k : Int) < (m : Int) := by omega
      clear hx1
      go_wp2_with fail
      refine (netOk_s _ n _ B (by exact hr0.keep (keepE' (by repeat' (first | with_reducible exact Ext.refl _ | with_reducible assumption | with_reducible refine Ext.set ?_ ?_ _ _ | with_reducible refine Ext.alloc ?_ _ | with_reducible refine Ext.drew ?_ | with_reducible refine Ext.drewN ?_ _ | with_reducible refine Ext.trans ?_ (by with_reducible assumption) | omega | (simp; done) | (simp; omega))) hB)) (by first | omega | (simp; omega)) Hsz.out).mono ?_
      rintro e w1 ⟨rfl, hE1⟩
      have z1 := hE1.size
      replace x0 := x0.ext hE1
      replace x1 := x1.ext hE1
      have hX1 := hext.trans hE1
      have hown1 := (hE1.own hown (Nat.le_refl _)).wide (Nat.le_refl _) z1
      clear p0 f0 p1 f1 hown hE1
      obtain ⟨p0, f0⟩ := id x0
      obtain ⟨p1, f1⟩ := id x1
      cases hok : netOk n with
      | false =>
        obtain rfl : 0 = k := by
          rcases hk0.out with h | h
          · exact h.symm
          · rw [hok] at h; cases h
        have hf : Hid (res = []) := by show _ = _; rw [Hres.out, hok]; rfl
        obtain rfl : 0 = t := by omega
        clear hok
        go_wp2
        go_ret
        exact ⟨_, rfl, by rw [hf.out]; exact (OwnS.of (l := []) (enc := eI) hown1 rfl).wide (by omega) (Nat.le_refl _), hX1⟩
      | true =>
        have Hok := Lib.hid hok
        have hk1 : Hid (k + 1 = 0 ∨ netOk n = true) := .inr hok
        obtain ⟨b', off', x', hbo, _, hx2, hc0, hc1, hc2⟩ := (hX1.rd hrd hB).Flight Hl.out hlt
        injection hbo with hbo
        injection hbo with e1 e2
        subst e1 e2
        obtain rfl : x = x' := by rw [Hx.out] at hx2; injection hx2
        clear hx2 hok
        by_cases he : x.to = to
        · have hs := Lib.hid (forTo_yes Hx.out he)
          subst he
          have hon := own_made w1 #[.int .i64 (k : Int)] 1 3 1 (by unfold maxLen; omega) rfl
          have hA2 := (Ext.refl w1).alloc (.cells #[.int .i64 (k : Int)] 3)
          go_wp2_with (at_builtin; go_loud (refine wpList_app _ rfl _ _ 33 rfl 3 i0 _ 1 8 Try.underlying33 hi0 hz0 hz1 hz2 rfl (by omega) (w.heap.size + 1) w1.heap.size (.slice A' t c') t _ rfl (hA2.own hown1 (Nat.le_refl _)) (by simp; omega) (by simp) (w1.heap.size + 1) (some ⟨w1.heap.size, 0, none⟩) 1 1 (eI (k : Int)) rfl hon.rd.2.2.2 (by simp [eI, Value.oneCell']) (by unfold maxLen; omega) (by omega) ?_))
          intro A3 c3 w3 o3 hg3
          have hF3 : Fr _ _ _ w3 := Fr.of_grown hg3 (fun g h => hown1.lt g h)
          have x0' := (x0.ext hA2).fr hF3 (.inl (by omega))
          have x1' := (x1.ext hA2).fr hF3 (.inl (by omega))
          have hX3 : Ext w w3 := (hX1.trans hA2).fr hF3 (by omega)
          have hL3 : Hid ((forTo n.list x.to (k + 1)).length = t + 1) := by show _ = _; rw [hs.out, List.length_append, hL.out]; rfl
          replace o3 : Own w3 (w.heap.size + 1) w3.heap.size 3 1 (.slice A3 (t + 1) c3) (t + 1) ((forTo n.list x.to (k + 1)).flatMap eI) := by rw [hs.out, List.flatMap_append, List.flatMap_cons, List.flatMap_nil, List.append_nil]; exact o3
          clear hg3 hF3 hown1 x0 x1 p0 f0 p1 f1 hon hA2
          go_wp2
          go_roundw
          case rel => exact ⟨k + 1, t + 1, A3, c3, by omega, by omega, by go_num, rfl, hk1, hL3, o3, x0', x1', hX3⟩
          case measure => simp [intOf]; omega
        · have hs := Lib.hid (forTo_no Hx.out he)
          rw [← hs.out] at hown1 hL
          go_wp2
          go_roundw
          case rel => exact ⟨k + 1, t, A', c', by omega, by omega, by go_num, rfl, hk1, hL, hown1, x0, x1, hX1⟩
          case measure => simp [intOf]; omega
    · obtain rfl : m = k := by omega
      have hf : Hid (res = forTo n.list to m) := by
        show _ = _
        rw [Hres.out]
        rcases hk0.out with h | h
        · subst h
          split <;> rfl
        · rw [if_pos h]
      go_wp2
      go_ret
      exact ⟨_, rfl, by rw [hf.out]; exact (OwnS.of hown hL.out).wide (by omega) (Nat.le_refl _), hext⟩

end Go.Proofs.Ytllljddojncemaa
