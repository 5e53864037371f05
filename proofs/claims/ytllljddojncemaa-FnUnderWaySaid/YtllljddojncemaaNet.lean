/-
  Nets of flights: what they read as, sized, copied into the program's type, compared, marked, held.
-/
import Derived.Test.YtllljddojncemaaFlights
import Derived.Test.YtllljddojncemaaBox
namespace Go.Proofs.Ytllljddojncemaa
open Go.RowKit

structure NetD where
  next : Int
  list : List FlightD
deriving DecidableEq

def R_Net (w : World) (B : Nat) (v : Value) (n : NetD) : Prop := ∃ u, v = .agg #[.int .i64 n.next, u] ∧ R_FlightS w B u n.list
def O_Net (w : World) (lo hi : Nat) (v : Value) (n : NetD) : Prop := ∃ u, v = .agg #[.int .i64 n.next, u] ∧ O_FlightS w lo hi u n.list
def NK_Net (n : NetD) : Nat := NK_FlightS n.list
def MK_Net (k : Int) (n : NetD) : NetD := ⟨n.next, MK_FlightS k n.list⟩
theorem R_Net.keep {w w' : World} {B : Nat} {v : Value} {n : NetD} (h : R_Net w B v n) (hk : ∀ k, k < B → w'.heap[k]? = w.heap[k]?) : R_Net w' B v n := by
  obtain ⟨u, rfl, h1⟩ := h
  exact ⟨u, rfl, h1.keep hk⟩
theorem O_Net.keep {w w' : World} {lo hi : Nat} {v : Value} {n : NetD} (h : O_Net w lo hi v n) (hk : ∀ k, lo ≤ k → k < hi → w'.heap[k]? = w.heap[k]?) : O_Net w' lo hi v n := by
  obtain ⟨u, rfl, h1⟩ := h
  exact ⟨u, rfl, h1.keep hk⟩
theorem O_Net.rd {w : World} {lo hi : Nat} {v : Value} {n : NetD} (h : O_Net w lo hi v n) : R_Net w hi v n := by
  obtain ⟨u, rfl, h1⟩ := h
  exact ⟨u, rfl, h1.rd⟩
theorem O_Net.wide {w : World} {lo hi lo' hi' : Nat} {v : Value} {n : NetD} (h : O_Net w lo hi v n) (h1 : lo' ≤ lo) (h2 : hi ≤ hi') : O_Net w lo' hi' v n := by
  obtain ⟨u, rfl, h3⟩ := h
  exact ⟨u, rfl, h3.wide h1 h2⟩
theorem R_Net.more {w : World} {B B' : Nat} {v : Value} {n : NetD} (h : R_Net w B v n) (hB : B ≤ B') : R_Net w B' v n := by
  obtain ⟨u, rfl, h1⟩ := h
  exact ⟨u, rfl, h1.more hB⟩

/-- How much a list of flights takes: its length and its bytes'. -/
def bytesF (l : List FlightD) : Nat := (l.map (·.bytes.size)).sum
def szF (l : List FlightD) : Nat := l.length + bytesF l
theorem bytesF_snoc {l : List FlightD} {k : Nat} {x : FlightD} (hx : l[k]? = some x) : bytesF (l.take (k + 1)) = bytesF (l.take k) + x.bytes.size := by
  unfold bytesF
  rw [take_snoc hx, List.map_append, List.sum_append]
  simp
theorem bytesF_take (l : List FlightD) (k : Nat) : bytesF (l.take k) ≤ bytesF l := by
  have h : bytesF l = bytesF (l.take k) + bytesF (l.drop k) := by
    unfold bytesF
    rw [← List.sum_append, ← List.map_append, List.take_append_drop]
  omega
/-- Each flight's bytes are no more than a string can hold. -/
def Small (l : List FlightD) : Prop := ∀ f ∈ l, f.bytes.size ≤ 9223372036854775807
theorem bytesF_at {l : List FlightD} {k : Nat} {x : FlightD} (hx : l[k]? = some x) : bytesF (l.take k) + x.bytes.size ≤ bytesF l := by
  rw [← bytesF_snoc hx]
  exact bytesF_take _ _

theorem szFlight_any (a b : Int) (s : ByteArray) (left : Int) (w : World) (h0 : 0 ≤ left) (h1 : left ≤ 1048576) (hs : s.size ≤ 9223372036854775807) :
    Calls Try.prog 61 #[.agg #[.int .i64 a, .int .i64 b, .string s], .int .i64 left] w fun e w' => e = .returned (.int .i64 (if left < (s.size : Int) then -1 else left - s.size)) ∧ Ext w w' := by
  by_cases h : left < (s.size : Int)
  · have d1 : decide (left - (s.size : Int) < 0) = true := by simp; omega
    rw [if_pos h]
    go_enter Try.func61, Try.ntmps61
    go_wp2
    go_ret
    exact ⟨rfl, by repeat' (first | with_reducible exact Ext.refl _ | with_reducible assumption | with_reducible refine Ext.set ?_ ?_ _ _ | with_reducible refine Ext.alloc ?_ _ | with_reducible refine Ext.drew ?_ | with_reducible refine Ext.drewN ?_ _ | with_reducible refine Ext.trans ?_ (by with_reducible assumption) | omega | (simp; done) | (simp; omega))⟩
  · have d1 : decide (left - (s.size : Int) < 0) = false := by simp; omega
    rw [if_neg h]
    go_enter Try.func61, Try.ntmps61
    go_wp2
    go_ret
    exact ⟨rfl, by repeat' (first | with_reducible exact Ext.refl _ | with_reducible assumption | with_reducible refine Ext.set ?_ ?_ _ _ | with_reducible refine Ext.alloc ?_ _ | with_reducible refine Ext.drew ?_ | with_reducible refine Ext.drewN ?_ _ | with_reducible refine Ext.trans ?_ (by with_reducible assumption) | omega | (simp; done) | (simp; omega))⟩
set_option maxRecDepth 100000 in
set_option maxHeartbeats 1000000 in
theorem szFlightS_any (v : Value) (l : List FlightD) (left : Int) (w : World) (B : Nat) (h : R_FlightS w B v l) (hB : B ≤ w.heap.size) (hs : Small l) (h0 : 0 ≤ left) (h2 : left ≤ 1048576) :
    Calls Try.prog 38 #[v, .int .i64 left] w fun e w' => e = .returned (.int .i64 (if left < (szF l : Int) then -1 else left - szF l)) ∧ Ext w w' := by
  have hm := h.len
  obtain ⟨A, n, c, rfl, hl, _, _, hr⟩ := h
  rw [hl] at hm
  have Hl := Lib.hid hl
  have Hs := Lib.hid hs
  have hszl : Hid (szF l = n + bytesF l) := by show _ = _; unfold szF; rw [hl]
  obtain ⟨res, Hres⟩ : ∃ res : Int, Hid ((if left < (szF l : Int) then (-1 : Int) else left - szF l) = res) := ⟨_, rfl⟩
  rw [show (if left < (szF l : Int) then (-1 : Int) else left - szF l) = res from Hres.out]
  clear hl hs
  by_cases hn : left < (n : Int)
  · have hres : Hid (res = -1) := by
      show _ = _
      rw [← Hres.out, if_pos (by rw [hszl.out]; omega)]
    have d1 : decide (left - (n : Int) < 0) = true := by simp; omega
    go_enter Try.func38, Try.ntmps38
    go_wp2
    go_ret
    exact ⟨ret_int hres.out.symm, by repeat' (first | with_reducible exact Ext.refl _ | with_reducible assumption | with_reducible refine Ext.set ?_ ?_ _ _ | with_reducible refine Ext.alloc ?_ _ | with_reducible refine Ext.drew ?_ | with_reducible refine Ext.drewN ?_ _ | with_reducible refine Ext.trans ?_ (by with_reducible assumption) | omega | (simp; done) | (simp; omega))⟩
  · have d1 : decide (left - (n : Int) < 0) = false := by simp; omega
    go_enter Try.func38, Try.ntmps38
    go_wp2
    go_loopw [1, 5] (fun q i wr => ∃ k : Nat, k ≤ n ∧ i = .int .i64 k ∧ (bytesF (l.take k) : Int) ≤ left - n ∧ q = .int .i64 (left - n - bytesF (l.take k)) ∧ Ext w wr) (fun _ i _ => n - (intOf i).toNat)
    case atStart => exact ⟨0, by omega, rfl, by simp [bytesF]; omega, by simp [bytesF], by repeat' (first | with_reducible exact Ext.refl _ | with_reducible assumption | with_reducible refine Ext.set ?_ ?_ _ _ | with_reducible refine Ext.alloc ?_ _ | with_reducible refine Ext.drew ?_ | with_reducible refine Ext.drewN ?_ _ | with_reducible refine Ext.trans ?_ (by with_reducible assumption) | omega | (simp; done) | (simp; omega))⟩
    case round =>
      obtain ⟨k, hk, rfl, hle, rfl, hext⟩ := hrel
      have hsz := hext.size
      by_cases hlt : k < n
      · obtain ⟨b, off, x, rfl, hb, hx1, hc0, hc1, hc2⟩ := (hext.rd hr hB).Flight Hl.out hlt
        have hxs := Hs.out x (List.mem_of_getElem? hx1)
        have hsn := Lib.hid (bytesF_snoc hx1)
        have hat := Lib.hid (bytesF_at hx1)
        have hlt' : (k : Int) < (n : Int) := by omega
        clear hx1
        generalize bytesF (l.take k) = s0 at *
        go_wp2_with fail
        refine (szFlight_any _ _ _ _ _ (by omega) (by omega) hxs).mono ?_
        rintro e w1 ⟨rfl, hE1⟩
        by_cases hx : left - n - s0 < (x.bytes.size : Int)
        · rw [if_pos hx]
          have hres : Hid (res = -1) := by
            show _ = _
            rw [← Hres.out, if_pos (by rw [hszl.out]; have := hat.out; omega)]
          go_wp2
          go_ret
          exact ⟨ret_int hres.out.symm, by repeat' (first | with_reducible exact Ext.refl _ | with_reducible assumption | with_reducible refine Ext.set ?_ ?_ _ _ | with_reducible refine Ext.alloc ?_ _ | with_reducible refine Ext.drew ?_ | with_reducible refine Ext.drewN ?_ _ | with_reducible refine Ext.trans ?_ (by with_reducible assumption) | omega | (simp; done) | (simp; omega))⟩
        · rw [if_neg hx]
          have d2 : decide (left - n - s0 - (x.bytes.size : Int) < 0) = false := by simp; omega
          go_wp2
          go_roundw
          case rel => exact ⟨k + 1, by omega, by go_num, by rw [hsn.out]; omega, by rw [hsn.out]; exact congrArg (Value.int IntKind.i64) (by omega), by repeat' (first | with_reducible exact Ext.refl _ | with_reducible assumption | with_reducible refine Ext.set ?_ ?_ _ _ | with_reducible refine Ext.alloc ?_ _ | with_reducible refine Ext.drew ?_ | with_reducible refine Ext.drewN ?_ _ | with_reducible refine Ext.trans ?_ (by with_reducible assumption) | omega | (simp; done) | (simp; omega))⟩
          case measure => simp [intOf]; omega
      · obtain rfl : n = k := by omega
        have htk : Hid (l.take n = l) := by show _ = _; exact List.take_of_length_le (by rw [Hl.out]; omega)
        rw [htk.out] at hle ⊢
        have hres : Hid (res = left - n - bytesF l) := by
          show _ = _
          rw [← Hres.out, hszl.out, if_neg (by omega)]
          omega
        go_wp2
        go_ret
        exact ⟨ret_int hres.out.symm, hext⟩
theorem szNet_ok (v : Value) (n : NetD) (left : Int) (w : World) (B : Nat) (h : R_Net w B v n) (hB : B ≤ w.heap.size) (hs : Small n.list) (h1 : (szF n.list : Int) ≤ left) (h2 : left ≤ 1048576) :
    Calls Try.prog 11 #[v, .int .i64 left] w fun e w' => e = .returned (.int .i64 (left - szF n.list)) ∧ Ext w w' := by
  obtain ⟨u, rfl, hu⟩ := h
  go_enter Try.func11, Try.ntmps11
  go_wp2_with fail
  refine (szFlightS_any _ _ _ _ B (by exact hu.keep (keepE' (by repeat' (first | with_reducible exact Ext.refl _ | with_reducible assumption | with_reducible refine Ext.set ?_ ?_ _ _ | with_reducible refine Ext.alloc ?_ _ | with_reducible refine Ext.drew ?_ | with_reducible refine Ext.drewN ?_ _ | with_reducible refine Ext.trans ?_ (by with_reducible assumption) | omega | (simp; done) | (simp; omega))) hB)) (by simp; omega) hs (by omega) (by omega)).mono ?_
  rw [if_neg (by omega)]
  rintro e w1 ⟨rfl, hE1⟩
  go_wp2
  go_ret
  exact ⟨rfl, by repeat' (first | with_reducible exact Ext.refl _ | with_reducible assumption | with_reducible refine Ext.set ?_ ?_ _ _ | with_reducible refine Ext.alloc ?_ _ | with_reducible refine Ext.drew ?_ | with_reducible refine Ext.drewN ?_ _ | with_reducible refine Ext.trans ?_ (by with_reducible assumption) | omega | (simp; done) | (simp; omega))⟩
theorem szNet_no (v : Value) (n : NetD) (left : Int) (w : World) (B : Nat) (h : R_Net w B v n) (hB : B ≤ w.heap.size) (hs : Small n.list) (h1 : left < (szF n.list : Int)) (h0 : 0 ≤ left) (h2 : left ≤ 1048576) :
    Calls Try.prog 11 #[v, .int .i64 left] w fun e w' => e = .returned (.int .i64 (-1)) ∧ Ext w w' := by
  obtain ⟨u, rfl, hu⟩ := h
  go_enter Try.func11, Try.ntmps11
  go_wp2_with fail
  refine (szFlightS_any _ _ _ _ B (by exact hu.keep (keepE' (by repeat' (first | with_reducible exact Ext.refl _ | with_reducible assumption | with_reducible refine Ext.set ?_ ?_ _ _ | with_reducible refine Ext.alloc ?_ _ | with_reducible refine Ext.drew ?_ | with_reducible refine Ext.drewN ?_ _ | with_reducible refine Ext.trans ?_ (by with_reducible assumption) | omega | (simp; done) | (simp; omega))) hB)) (by simp; omega) hs (by omega) (by omega)).mono ?_
  rw [if_pos h1]
  rintro e w1 ⟨rfl, hE1⟩
  go_wp2
  go_ret
  exact ⟨rfl, by repeat' (first | with_reducible exact Ext.refl _ | with_reducible assumption | with_reducible refine Ext.set ?_ ?_ _ _ | with_reducible refine Ext.alloc ?_ _ | with_reducible refine Ext.drew ?_ | with_reducible refine Ext.drewN ?_ _ | with_reducible refine Ext.trans ?_ (by with_reducible assumption) | omega | (simp; done) | (simp; omega))⟩

set_option maxRecDepth 100000 in
set_option maxHeartbeats 1000000 in
theorem toNet_v (v : Value) (n : NetD) (w : World) (B : Nat) (h : R_Net w B v n) (hB : B ≤ w.heap.size) (hn : n.list.length ≤ 2097152) :
    Calls Try.prog 13 #[v] w fun e w' => ∃ v', e = .returned v' ∧ O_Net w' w.heap.size w'.heap.size v' n ∧ Ext w w' := by
  obtain ⟨u, rfl, hu⟩ := h
  obtain ⟨A0, n0, c0, hv0, -⟩ := id hu
  subst hv0
  go_enter Try.func13, Try.ntmps13
  go_wp2_with fail
  refine (toFlightS_v _ _ _ B (by exact hu.keep (keepE' (by repeat' (first | with_reducible exact Ext.refl _ | with_reducible assumption | with_reducible refine Ext.set ?_ ?_ _ _ | with_reducible refine Ext.alloc ?_ _ | with_reducible refine Ext.drew ?_ | with_reducible refine Ext.drewN ?_ _ | with_reducible refine Ext.trans ?_ (by with_reducible assumption) | omega | (simp; done) | (simp; omega))) hB)) (by simp; omega) hn).mono ?_
  rintro e w1 ⟨v1, rfl, ho1, hE1⟩
  obtain ⟨hc1, hf1, hz1⟩ := hE1.look
  have hz2 : w.heap.size + 1 + 1 < w1.heap.size := by simp at hz1; omega
  have hz3 : w.heap.size + 1 < w1.heap.size := by omega
  have hz4 : w.heap.size < w1.heap.size := by omega
  clear hz1
  replace ho1 := ho1.wide (lo' := w.heap.size + 3) (hi' := w1.heap.size) (by simp) (Nat.le_refl _)
  obtain ⟨A2, n2, c2, hv2, -⟩ := id ho1
  subst hv2
  go_wp2
  exact bodyPost_ret (v := .agg #[.int .i64 n.next, .slice A2 n2 c2]) (by simp [results, Try.results13, go_sem, hc1]) rfl ⟨_, rfl, ⟨_, rfl, (ho1.keep (show Kp _ _ _ _ by repeat' (first | with_reducible exact Kp.refl _ _ _ | with_reducible assumption | with_reducible refine Kp.set ?_ ?_ _ _ | with_reducible refine Kp.alloc ?_ ?_ _ | with_reducible refine Kp.drew ?_ | with_reducible refine Kp.drewN ?_ _ | with_reducible refine Kp.ext ?_ ?_ (by with_reducible assumption) | with_reducible refine Kp.fr ?_ ?_ ?_ (by with_reducible assumption) | omega | (simp; done) | (simp; omega)))).wide (by omega) (by simp)⟩, by repeat' (first | with_reducible exact Ext.refl _ | with_reducible assumption | with_reducible refine Ext.set ?_ ?_ _ _ | with_reducible refine Ext.alloc ?_ _ | with_reducible refine Ext.drew ?_ | with_reducible refine Ext.drewN ?_ _ | with_reducible refine Ext.trans ?_ (by with_reducible assumption) | omega | (simp; done) | (simp; omega))⟩
set_option maxRecDepth 100000 in
set_option maxHeartbeats 1000000 in
theorem eqNet_v (u v : Value) (x y : NetD) (w : World) (X Y : Nat) (hu : R_Net w X u x) (hX : X ≤ w.heap.size) (hv : R_Net w Y v y) (hY : Y ≤ w.heap.size) :
    Calls Try.prog 15 #[u, v] w fun e w' => e = .returned (.bool (decide (x = y))) ∧ Ext w w' := by
  obtain ⟨u1, rfl, hu1⟩ := hu
  obtain ⟨v1, rfl, hv1⟩ := hv
  obtain ⟨A0, n0, c0, hw0, -⟩ := id hu1
  obtain ⟨A1, n1, c1, hw1, -⟩ := id hv1
  subst hw0 hw1
  obtain ⟨xn, xl⟩ := x
  obtain ⟨yn, yl⟩ := y
  dsimp only at *
  by_cases hb : xn = yn
  · subst hb
    go_enter Try.func15, Try.ntmps15
    go_wp2_with fail
    refine (eqFlightS_v _ _ _ _ _ X Y (by exact hu1.keep (keepE' (by repeat' (first | with_reducible exact Ext.refl _ | with_reducible assumption | with_reducible refine Ext.set ?_ ?_ _ _ | with_reducible refine Ext.alloc ?_ _ | with_reducible refine Ext.drew ?_ | with_reducible refine Ext.drewN ?_ _ | with_reducible refine Ext.trans ?_ (by with_reducible assumption) | omega | (simp; done) | (simp; omega))) hX)) (by simp; omega) (by exact hv1.keep (keepE' (by repeat' (first | with_reducible exact Ext.refl _ | with_reducible assumption | with_reducible refine Ext.set ?_ ?_ _ _ | with_reducible refine Ext.alloc ?_ _ | with_reducible refine Ext.drew ?_ | with_reducible refine Ext.drewN ?_ _ | with_reducible refine Ext.trans ?_ (by with_reducible assumption) | omega | (simp; done) | (simp; omega))) hY)) (by simp; omega)).mono ?_
    rintro e w1 ⟨rfl, hE1⟩
    by_cases h1 : xl = yl
    · rw [decide_eq_true h1]
      go_wp2
      go_ret
      exact ⟨ret_bool (by simp [h1]), by repeat' (first | with_reducible exact Ext.refl _ | with_reducible assumption | with_reducible refine Ext.set ?_ ?_ _ _ | with_reducible refine Ext.alloc ?_ _ | with_reducible refine Ext.drew ?_ | with_reducible refine Ext.drewN ?_ _ | with_reducible refine Ext.trans ?_ (by with_reducible assumption) | omega | (simp; done) | (simp; omega))⟩
    · rw [decide_eq_false h1]
      go_wp2
      go_ret
      exact ⟨ret_bool (by simp [h1]), by repeat' (first | with_reducible exact Ext.refl _ | with_reducible assumption | with_reducible refine Ext.set ?_ ?_ _ _ | with_reducible refine Ext.alloc ?_ _ | with_reducible refine Ext.drew ?_ | with_reducible refine Ext.drewN ?_ _ | with_reducible refine Ext.trans ?_ (by with_reducible assumption) | omega | (simp; done) | (simp; omega))⟩
  · go_enter Try.func15, Try.ntmps15
    go_wp2
    go_ret
    exact ⟨ret_bool (by simp [hb]), by repeat' (first | with_reducible exact Ext.refl _ | with_reducible assumption | with_reducible refine Ext.set ?_ ?_ _ _ | with_reducible refine Ext.alloc ?_ _ | with_reducible refine Ext.drew ?_ | with_reducible refine Ext.drewN ?_ _ | with_reducible refine Ext.trans ?_ (by with_reducible assumption) | omega | (simp; done) | (simp; omega))⟩
theorem markNet_v (v : Value) (n : NetD) (k0 : Int) (lo hi : Nat) (w : World) (ho : O_Net w lo hi v n) (hhi : hi ≤ w.heap.size) (h0 : 0 ≤ k0) (hn : k0 + (NK_Net n : Nat) ≤ 4611686018427387904) :
    Calls Try.prog 19 #[v, .int .i64 k0] w fun e w' => e = .returned (.int .i64 (k0 + (NK_Net n : Nat))) ∧ O_Net w' lo hi v (MK_Net k0 n) ∧ Fr lo hi w w' := by
  obtain ⟨u, rfl, hu⟩ := ho
  unfold NK_Net at *
  obtain ⟨A0, n0, c0, hw0, -⟩ := id hu
  subst hw0
  go_enter Try.func19, Try.ntmps19
  go_wp2_with fail
  refine (markFlightS_v _ _ _ lo hi _ (by exact hu.keep (show Kp _ _ _ _ by repeat' (first | with_reducible exact Kp.refl _ _ _ | with_reducible assumption | with_reducible refine Kp.set ?_ ?_ _ _ | with_reducible refine Kp.alloc ?_ ?_ _ | with_reducible refine Kp.drew ?_ | with_reducible refine Kp.drewN ?_ _ | with_reducible refine Kp.ext ?_ ?_ (by with_reducible assumption) | with_reducible refine Kp.fr ?_ ?_ ?_ (by with_reducible assumption) | omega | (simp; done) | (simp; omega)))) (by simp; omega) (by omega) (by omega)).mono ?_
  rintro e w1 ⟨rfl, ho1, hF1⟩
  have hF := (Fr.of_below (lo := lo) (hi := hi) ((Ext.refl w).alloc (.cells #[.int .i64 n.next, .slice A0 n0 c0] 29))).trans hF1
  go_wp2
  go_ret
  exact ⟨rfl, ⟨_, rfl, ho1⟩, hF⟩
theorem heldNet_v (v : Value) (n : NetD) (k0 : Int) (B : Nat) (w : World) (h : R_Net w B v (MK_Net k0 n)) (hB : B ≤ w.heap.size) (h0 : 0 ≤ k0) (hn : k0 + (NK_Net n : Nat) ≤ 4611686018427387904) :
    Calls Try.prog 24 #[v, .int .i64 k0] w fun e w' => e = .returned (.int .i64 (k0 + (NK_Net n : Nat))) ∧ Ext w w' := by
  obtain ⟨u, rfl, hu⟩ := h
  unfold NK_Net at *
  obtain ⟨A0, n0, c0, hw0, -⟩ := id hu
  subst hw0
  go_enter Try.func24, Try.ntmps24
  go_wp2_with fail
  refine (heldFlightS_v _ n.list _ B _ (by exact hu.keep (keepE' (by repeat' (first | with_reducible exact Ext.refl _ | with_reducible assumption | with_reducible refine Ext.set ?_ ?_ _ _ | with_reducible refine Ext.alloc ?_ _ | with_reducible refine Ext.drew ?_ | with_reducible refine Ext.drewN ?_ _ | with_reducible refine Ext.trans ?_ (by with_reducible assumption) | omega | (simp; done) | (simp; omega))) hB)) (by simp; omega) (by omega) (by omega)).mono ?_
  rintro e w1 ⟨rfl, hE1⟩
  go_wp2
  go_ret
  exact ⟨rfl, by repeat' (first | with_reducible exact Ext.refl _ | with_reducible assumption | with_reducible refine Ext.set ?_ ?_ _ _ | with_reducible refine Ext.alloc ?_ _ | with_reducible refine Ext.drew ?_ | with_reducible refine Ext.drewN ?_ _ | with_reducible refine Ext.trans ?_ (by with_reducible assumption) | omega | (simp; done) | (simp; omega))⟩

end Go.Proofs.Ytllljddojncemaa
