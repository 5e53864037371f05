/-
  Nets of flights: 'NetOk', walked on both sides.
-/
import Derived.Test.YtllljddojncemaaNet
import Derived.Deep.RegionHeld3
namespace Go.Proofs.Ytllljddojncemaa
open Go.RowKit

def flB (to : Int) (s : ByteArray) : Bool := inB to 0 4 && decide (s.size ≤ 4100)
/-- The flight at place j is well: its own, and no other ahead of it bears its number. -/
def okAt (q : Int) (l : List FlightD) (j : Nat) : Bool := match l[j]? with
  | some x => flB x.to x.bytes && (inB x.id 0 q && !((l.take j).any fun y => decide (y.id = x.id)))
  | none => true
def okTo (q : Int) (l : List FlightD) (k : Nat) : Bool := (List.range k).all (okAt q l)
def netOk (n : NetD) : Bool := wholeB n.next && (decide (n.list.length ≤ 60) && okTo (n.next - 1) n.list n.list.length)
theorem okTo_succ (q : Int) (l : List FlightD) (k : Nat) : okTo q l (k + 1) = (okTo q l k && okAt q l k) := by
  unfold okTo
  rw [List.range_succ, List.all_append]
  simp
theorem okTo_zero (q : Int) (l : List FlightD) : okTo q l 0 = true := rfl
theorem okAt_some {q : Int} {l : List FlightD} {j : Nat} {x : FlightD} (h : l[j]? = some x) : okAt q l j = (flB x.to x.bytes && (inB x.id 0 q && !((l.take j).any fun y => decide (y.id = x.id)))) := by
  unfold okAt
  rw [h]
theorem okTo_false {q : Int} {l : List FlightD} {j k : Nat} (h : okAt q l j = false) (hj : j < k) : okTo q l k = false := by
  unfold okTo
  rw [List.all_eq_false]
  exact ⟨j, List.mem_range.2 hj, by simp [h]⟩

theorem flightOk_any (to : Int) (s : ByteArray) (w : World) : Calls Try.prog 43 #[.int .i64 to, .string s] w fun e w' => e = .returned (.bool (flB to s)) ∧ w = w' := by
  rw [show flB to s = (inB to 0 4 && decide (s.size ≤ 4100)) from rfl]
  go_enter Try.func43, Try.ntmps43
  go_wp2_with fail
  refine (from_any _ _ _ _).mono ?_
  rintro e w1 ⟨rfl, rfl⟩
  cases hb : inB to 0 4 with
  | false =>
    go_wp2
    go_ret
    exact ⟨ret_bool (by simp [hb]), rfl⟩
  | true =>
    go_wp2
    go_ret
    exact ⟨ret_bool (by simp [hb]; omega), rfl⟩
theorem l5Flight_any (x : FlightD) (w : World) : Calls Try.prog 40 #[.agg #[.int .i64 x.id, .int .i64 x.to, .string x.bytes]] w fun e w' => e = .returned (.bool (flB x.to x.bytes)) ∧ Ext w w' := by
  rw [show flB x.to x.bytes = (inB x.to 0 4 && decide (x.bytes.size ≤ 4100)) from rfl]
  go_enter Try.func40, Try.ntmps40
  go_wp2_with fail
  refine (l1In_any _ _ _ _).mono ?_
  rintro e w1 ⟨rfl, rfl⟩
  cases hb : inB x.to 0 4 with
  | false =>
    go_wp2
    go_ret
    exact ⟨ret_bool (by simp [hb]), by repeat' (first | with_reducible exact Ext.refl _ | with_reducible assumption | with_reducible refine Ext.set ?_ ?_ _ _ | with_reducible refine Ext.alloc ?_ _ | with_reducible refine Ext.drew ?_ | with_reducible refine Ext.drewN ?_ _ | with_reducible refine Ext.trans ?_ (by with_reducible assumption) | omega | (simp; done) | (simp; omega))⟩
  | true =>
    go_wp2
    go_ret
    exact ⟨ret_bool (by simp [hb]; omega), by repeat' (first | with_reducible exact Ext.refl _ | with_reducible assumption | with_reducible refine Ext.set ?_ ?_ _ _ | with_reducible refine Ext.alloc ?_ _ | with_reducible refine Ext.drew ?_ | with_reducible refine Ext.drewN ?_ _ | with_reducible refine Ext.trans ?_ (by with_reducible assumption) | omega | (simp; done) | (simp; omega))⟩

theorem sameId_any (x : FlightD) (g : Nat) (i : Int) (w : World) (hc : w.cell? ⟨g, 0, none⟩ = some (.int .i64 i)) (hg : g < w.heap.size) :
    Calls Try.prog 46 #[.agg #[.int .i64 x.id, .int .i64 x.to, .string x.bytes], .pointer (some ⟨g, 0, none⟩)] w fun e w' => e = .returned (.bool (decide (x.id = i))) ∧ Ext w w' := by
  go_enter Try.func46, Try.ntmps46
  go_wp2
  go_ret
  exact ⟨ret_bool (by first | rfl | simp), by repeat' (first | with_reducible exact Ext.refl _ | with_reducible assumption | with_reducible refine Ext.set ?_ ?_ _ _ | with_reducible refine Ext.alloc ?_ _ | with_reducible refine Ext.drew ?_ | with_reducible refine Ext.drewN ?_ _ | with_reducible refine Ext.trans ?_ (by with_reducible assumption) | omega | (simp; done) | (simp; omega))⟩
set_option maxRecDepth 100000 in
set_option maxHeartbeats 1000000 in
theorem indexId_any (A : Option Addr) (n c : Nat) (l : List FlightD) (g : Nat) (i : Int) (w : World) (B : Nat) (hr : Rd w B 3 A n (l.flatMap eFlight)) (hl : l.length = n) (hB : B ≤ w.heap.size) (hn : n ≤ 2097152) (hc : w.cell? ⟨g, 0, none⟩ = some (.int .i64 i)) (hg : g < w.heap.size) :
    Calls Try.prog 63 #[.slice A n c, .func (.func 46) #[] #[.pointer (some ⟨g, 0, none⟩)]] w fun e w' => ∃ j : Int, e = .returned (.int .i64 j) ∧ (decide (0 ≤ j) = l.any fun y => decide (y.id = i)) ∧ -1 ≤ j ∧ Ext w w' := by
  have Hl := Lib.hid hl
  clear hl
  go_enter Try.func63, Try.ntmps63
  go_wp2
  go_loopw [8] (fun iv wr => ∃ k : Nat, k ≤ n ∧ iv = .int .i64 k ∧ Hid (((l.take k).any fun y => decide (y.id = i)) = false) ∧ Ext w wr) (fun iv _ => n - (intOf iv).toNat)
  case atStart => exact ⟨0, by omega, rfl, by simp [Hid], by repeat' (first | with_reducible exact Ext.refl _ | with_reducible assumption | with_reducible refine Ext.set ?_ ?_ _ _ | with_reducible refine Ext.alloc ?_ _ | with_reducible refine Ext.drew ?_ | with_reducible refine Ext.drewN ?_ _ | with_reducible refine Ext.trans ?_ (by with_reducible assumption) | omega | (simp; done) | (simp; omega))⟩
  case round =>
    obtain ⟨k, hk, rfl, hok, hext⟩ := hrel
    have hsz := hext.size
    by_cases hlt : k < n
    · obtain ⟨b, off, x, rfl, hb, hx1, hc0, hc1, hc2⟩ := (hext.rd hr hB).Flight Hl.out hlt
      have Hx := Lib.hid hx1
      have hlt' : (k : Int) < (n : Int) := by omega
      clear hx1
      go_wp2_with fail
      refine (sameId_any x g i _ (by exact hext.cellAt hc) (by omega)).mono ?_
      rintro e w1 ⟨rfl, hE1⟩
      by_cases he : x.id = i
      · rw [decide_eq_true he]
        have hres : Hid ((l.any fun y => decide (y.id = i)) = true) := by
          show _ = _
          rw [List.any_eq_true]
          exact ⟨x, List.mem_of_getElem? Hx.out, by simp [he]⟩
        clear he
        go_wp2
        go_ret
        exact ⟨k, rfl, by rw [hres.out]; simp, by omega, by repeat' (first | with_reducible exact Ext.refl _ | with_reducible assumption | with_reducible refine Ext.set ?_ ?_ _ _ | with_reducible refine Ext.alloc ?_ _ | with_reducible refine Ext.drew ?_ | with_reducible refine Ext.drewN ?_ _ | with_reducible refine Ext.trans ?_ (by with_reducible assumption) | omega | (simp; done) | (simp; omega))⟩
      · rw [decide_eq_false he]
        have hok' : Hid (((l.take (k + 1)).any fun y => decide (y.id = i)) = false) := by
          show _ = _
          rw [take_snoc Hx.out, List.any_append, hok.out]
          simp [he]
        clear he
        go_wp2
        go_roundw
        case rel => exact ⟨k + 1, by omega, by go_num, hok', by repeat' (first | with_reducible exact Ext.refl _ | with_reducible assumption | with_reducible refine Ext.set ?_ ?_ _ _ | with_reducible refine Ext.alloc ?_ _ | with_reducible refine Ext.drew ?_ | with_reducible refine Ext.drewN ?_ _ | with_reducible refine Ext.trans ?_ (by with_reducible assumption) | omega | (simp; done) | (simp; omega))⟩
        case measure => simp [intOf]; omega
    · obtain rfl : n = k := by omega
      have h := hok.out
      rw [List.take_of_length_le (by rw [Hl.out]; omega)] at h
      have H := Lib.hid h
      clear h
      go_wp2
      go_ret
      exact ⟨-1, rfl, by rw [H.out]; rfl, by omega, hext⟩
theorem hasId_any (A : Option Addr) (n c : Nat) (l : List FlightD) (g : Nat) (i : Int) (w : World) (B : Nat) (hr : Rd w B 3 A n (l.flatMap eFlight)) (hl : l.length = n) (hB : B ≤ w.heap.size) (hn : n ≤ 2097152) (hc : w.cell? ⟨g, 0, none⟩ = some (.int .i64 i)) (hg : g < w.heap.size) :
    Calls Try.prog 45 #[.slice A n c, .func (.func 46) #[] #[.pointer (some ⟨g, 0, none⟩)]] w fun e w' => e = .returned (.bool (l.any fun y => decide (y.id = i))) ∧ Ext w w' := by
  go_enter Try.func45, Try.ntmps45
  go_wp2_with fail
  refine (indexId_any A n c l g i _ B hr hl hB hn hc hg).mono ?_
  rintro e w1 ⟨j, rfl, hi, hi1, hE1⟩
  go_wp2
  go_ret
  exact ⟨rfl, hE1⟩

set_option maxRecDepth 100000 in
set_option maxHeartbeats 4000000 in
theorem netOk_i (v : Value) (n : NetD) (w : World) (B : Nat) (hr : R_Net w B v n) (hB : B ≤ w.heap.size) (hsz : n.list.length ≤ 2097152) :
    Calls Try.prog 14 #[v] w fun e w' => e = .returned (.bool (netOk n)) ∧ Ext w w' := by
  obtain ⟨u, rfl, A, m, c, rfl, hl, hmc, hcm, hrd⟩ := hr
  obtain ⟨nx, l⟩ := n
  dsimp only at *
  have Hl := Lib.hid hl
  have hm : m ≤ 2097152 := by omega
  obtain ⟨q, hq⟩ : ∃ q, IntKind.i64.wrap (nx - 1) = q := ⟨_, rfl⟩
  obtain ⟨res, hres⟩ : ∃ res, netOk ⟨nx, l⟩ = res := ⟨_, rfl⟩
  rw [hres]
  have Hres : Hid (res = (okTo q l m && (wholeB nx && decide (m ≤ 60)))) := by
    show _ = _
    rw [← hres]
    unfold netOk
    dsimp only
    rw [hl]
    cases hw : wholeB nx with
    | false => simp
    | true =>
      have hb := (wholeB_iff _).1 hw
      rw [show q = nx - 1 from by rw [← hq, IntKind.wrap_i64]; omega]
      cases decide (m ≤ 60) <;> cases okTo (nx - 1) l m <;> rfl
  have Hq := Lib.hid hq
  clear hres hl hsz
  go_enter Try.func14, Try.ntmps14
  go_wp2
  go_loopw [8] (fun iv wr => ∃ k : Nat, k ≤ m ∧ iv = .int .i64 k ∧ Hid (okTo q l k = true) ∧ Bx wr w.heap.size 0 (.int .i64 nx) ∧ Bx wr w.heap.size 1 (.slice A m c) ∧ Ext w wr) (fun iv _ => m - (intOf iv).toNat)
  case atStart => exact ⟨0, by omega, rfl, rfl, Bx.new w _ _ _ _ rfl rfl, Bx.new w _ _ _ _ rfl rfl, by repeat' (first | with_reducible exact Ext.refl _ | with_reducible assumption | with_reducible refine Ext.set ?_ ?_ _ _ | with_reducible refine Ext.alloc ?_ _ | with_reducible refine Ext.drew ?_ | with_reducible refine Ext.drewN ?_ _ | with_reducible refine Ext.trans ?_ (by with_reducible assumption) | omega | (simp; done) | (simp; omega))⟩
  case round =>
    obtain ⟨k, hk, rfl, hok, x0, x1, hext⟩ := hrel
    have hz := hext.size
    obtain ⟨p0, f0⟩ := id x0
    obtain ⟨p1, f1⟩ := id x1
    by_cases hlt : k < m
    · obtain ⟨b, off, x, rfl, hb, hx1, hc0, hc1, hc2⟩ := (hext.rd hrd hB).Flight Hl.out hlt
      have Hx := Lib.hid hx1
      have hlt' : (k : Int) < (m : Int) := by omega
      clear hx1
      have hat := Lib.hid (okAt_some (q := q) Hx.out)
      go_wp2_with fail
      refine (flightOk_any _ _ _).mono ?_
      rintro e w1 ⟨rfl, rfl⟩
      have hE1 := hext.alloc (.cells #[.int .i64 x.id, .int .i64 x.to, .string x.bytes] 43)
      have hb0 := new_box wr _ #[.int .i64 x.id, .int .i64 x.to, .string x.bytes] 43 0 (.int .i64 x.id) rfl rfl
      have hzb : wr.heap.size < (wr.alloc (.cells #[.int .i64 x.id, .int .i64 x.to, .string x.bytes] 43)).heap.size := by simp
      have hzb0 := hE1.size
      replace x0 := x0.ext ((Ext.refl wr).alloc (.cells #[.int .i64 x.id, .int .i64 x.to, .string x.bytes] 43))
      replace x1 := x1.ext ((Ext.refl wr).alloc (.cells #[.int .i64 x.id, .int .i64 x.to, .string x.bytes] 43))
      have hlt0 : w.heap.size < wr.heap.size := by have := Bx.lt ⟨p0, f0⟩; exact this
      have hrd' : Rd (wr.alloc (.cells #[.int .i64 x.id, .int .i64 x.to, .string x.bytes] 43)) B 3 (some ⟨b, off, none⟩) k ((l.take k).flatMap eFlight) := by
        have h := (hE1.rd hrd hB).take hk
        rwa [flat_take eFlight_len] at h
      clear p0 f0 p1 f1 hc0 hc1 hc2
      generalize wr.alloc (.cells #[.int .i64 x.id, .int .i64 x.to, .string x.bytes] 43) = w1 at *
      obtain ⟨p0, f0⟩ := id x0
      obtain ⟨p1, f1⟩ := id x1
      cases hfl : flB x.to x.bytes with
      | false =>
        have hf : Hid (res = false) := by
          show _ = _
          rw [Hres.out, okTo_false (j := k) (by rw [hat.out, hfl]; rfl) hlt]
          rfl
        clear hfl
        go_wp2
        go_ret
        exact ⟨ret_bool hf.out.symm, by repeat' (first | with_reducible exact Ext.refl _ | with_reducible assumption | with_reducible refine Ext.set ?_ ?_ _ _ | with_reducible refine Ext.alloc ?_ _ | with_reducible refine Ext.drew ?_ | with_reducible refine Ext.drewN ?_ _ | with_reducible refine Ext.trans ?_ (by with_reducible assumption) | omega | (simp; done) | (simp; omega))⟩
      | true =>
        have Hfl := Lib.hid hfl
        clear hfl
        go_wp2_with fail
        refine (from_any _ _ _ _).mono ?_
        rintro e w2 ⟨rfl, rfl⟩
        cases hin : inB x.id 0 q with
        | false =>
          have hf : Hid (res = false) := by
            show _ = _
            rw [Hres.out, okTo_false (j := k) (by rw [hat.out, Hfl.out, hin]; rfl) hlt]
            rfl
          clear hin
          go_wp2
          go_ret
          exact ⟨ret_bool hf.out.symm, by repeat' (first | with_reducible exact Ext.refl _ | with_reducible assumption | with_reducible refine Ext.set ?_ ?_ _ _ | with_reducible refine Ext.alloc ?_ _ | with_reducible refine Ext.drew ?_ | with_reducible refine Ext.drewN ?_ _ | with_reducible refine Ext.trans ?_ (by with_reducible assumption) | omega | (simp; done) | (simp; omega))⟩
        | true =>
          have Hin := Lib.hid hin
          clear hin
          have hkm : k ≤ m := by omega
          go_wp2_with fail
          refine (hasId_any _ k c (l.take k) wr.heap.size x.id _ B hrd' (by rw [List.length_take, Hl.out]; omega) (by omega) (by omega) hb0 (by omega)).mono ?_
          rintro e w3 ⟨rfl, hE3⟩
          replace x0 := x0.ext hE3
          replace x1 := x1.ext hE3
          have hE4 := hE1.trans hE3
          clear p0 f0 p1 f1 hb0 hrd'
          obtain ⟨p0, f0⟩ := id x0
          obtain ⟨p1, f1⟩ := id x1
          cases hany : (l.take k).any fun y => decide (y.id = x.id) with
          | true =>
            have hf : Hid (res = false) := by
              show _ = _
              rw [Hres.out, okTo_false (j := k) (by rw [hat.out, Hfl.out, Hin.out, hany]; rfl) hlt]
              rfl
            clear hany
            go_wp2
            go_ret
            exact ⟨ret_bool hf.out.symm, hE4⟩
          | false =>
            have hok' : Hid (okTo q l (k + 1) = true) := by
              show _ = _
              rw [okTo_succ, hok.out, hat.out, Hfl.out, Hin.out, hany]
              rfl
            clear hany
            go_wp2
            go_roundw
            case rel => exact ⟨k + 1, by omega, by go_num, hok', x0, x1, hE4⟩
            case measure => simp [intOf]; omega
    · obtain rfl : m = k := by omega
      have Hr : Hid (res = (wholeB nx && decide (m ≤ 60))) := by show _ = _; rw [Hres.out, hok.out]; rfl
      go_wp2_with fail
      refine (isWhole_any _ _).mono ?_
      rintro e w1 ⟨rfl, rfl⟩
      cases hw : wholeB nx with
      | false =>
        have hf : Hid (res = false) := by show _ = _; rw [Hr.out, hw]; rfl
        clear hw
        go_wp2
        go_ret
        exact ⟨ret_bool hf.out.symm, hext⟩
      | true =>
        have hf : Hid (res = decide (m ≤ 60)) := by show _ = _; rw [Hr.out, hw]; rfl
        clear hw
        go_wp2
        go_ret
        exact ⟨ret_bool (by rw [hf.out]; simp; omega), hext⟩

end Go.Proofs.Ytllljddojncemaa
