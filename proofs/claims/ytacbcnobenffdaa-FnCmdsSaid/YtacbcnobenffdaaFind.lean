/-
  slices.Equal and slices.BinarySearchFunc of the program's rows of records, walked.
-/
import Derived.Test.YtacbcnobenffdaaImage2
import Derived.Test.YtacbcnobenffdaaKeys
import Derived.Lib.SliceRun
import Derived.Laws.StructEq
namespace Go.Proofs.Ytacbcnobenffdaa
open Go.RowKit

set_option maxRecDepth 100000 in
theorem neqCell (x y : CellD) (w : World) : (binOp .neq 48 (.agg #[.int .i64 x.key, .int .i64 x.value]) (.agg #[.int .i64 y.key, .int .i64 y.value])).run Try.prog w = .ok (.bool (!decide (x = y))) w := by
  have u3 := Try.underlying3
  have a3 := Try.isAgg3
  have z3 := Try.sizeOf3
  have hS : Try.prog.underlying 48 = some (.struct (Try.prog.fieldsOf 48)) := by kernel_rfl
  have hp : Try.prog.stoodInHeld 48 = false := by kernel_rfl
  rw [run_neq_struct, show (10000 : Nat) = 9999 + 1 from rfl, run_equalIn_agg w 9999 48 _ _ hS hp]
  simp only [Program.fieldsOf, Try.underlying48]
  clear hS hp
  go_simp
  obtain ⟨x0, x1⟩ := x
  obtain ⟨y0, y1⟩ := y
  by_cases h0 : x0 = y0 <;> by_cases h1 : x1 = y1 <;> simp [h0, h1]

set_option maxRecDepth 100000 in
set_option maxHeartbeats 1000000 in
theorem equalCell_any (A B : Option Addr) (n c m d : Nat) (xs ys : List CellD) (w : World) (X Y : Nat) (hx : Rd w X 2 A n (xs.flatMap eCell)) (hxl : xs.length = n) (hy : Rd w Y 2 B m (ys.flatMap eCell)) (hyl : ys.length = m) (hn : n ≤ 9223372036854775807) (hm : m ≤ 9223372036854775807) :
    Calls Try.prog 50 #[.slice A n c, .slice B m d] w fun e w' => e = .returned (.bool (decide (xs = ys))) ∧ Still w w' := by
  by_cases hnm : n = m
  · subst hnm
    have Hx := Lib.hid hxl
    have Hy := Lib.hid hyl
    clear hxl hyl
    go_enter Try.func50, Try.ntmps50
    go_wp2
    go_loopw [13] (fun i wr => ∃ k : Nat, k ≤ n ∧ i = .int .i64 k ∧ Hid (xs.take k = ys.take k) ∧ Still w wr) (fun i _ => n - (intOf i).toNat)
    case atStart => exact ⟨0, by omega, rfl, by simp [Hid], Still.refl _⟩
    case round =>
      obtain ⟨k, hk, rfl, hpre, hst⟩ := hrel
      by_cases hlt : k < n
      · obtain ⟨b, off, x, rfl, _, hx1, hc0, hc1⟩ := (hst.rd hx).Cell Hx.out hlt
        obtain ⟨b', off', y, rfl, _, hy1, hd0, hd1⟩ := (hst.rd hy).Cell Hy.out hlt
        have Hx1 := Lib.hid hx1
        have Hy1 := Lib.hid hy1
        have hlt' : (k : Int) < (n : Int) := by omega
        clear hx1 hy1 hx hy
        by_cases he : x = y
        · have hq : ∀ w, (binOp .neq 48 (.agg #[.int .i64 x.key, .int .i64 x.value]) (.agg #[.int .i64 y.key, .int .i64 y.value])).run Try.prog w = .ok (.bool false) w := fun w => by rw [neqCell, decide_eq_true he]; rfl
          have He := Lib.hid he
          clear he
          go_wp2
          go_quiet (fail)
          go_wp2
          go_roundw
          case rel => exact ⟨k + 1, by omega, by go_num, by
            show _ = _
            rw [take_snoc Hx1.out, take_snoc Hy1.out, hpre.out, He.out], by repeat' (first | with_reducible exact Still.refl _ | with_reducible assumption | with_reducible refine Still.drewN ?_ _ | with_reducible refine Still.drew ?_ | with_reducible refine Still.trans ?_ (by with_reducible assumption))⟩
          case measure => simp [intOf]; omega
        · have hq : ∀ w, (binOp .neq 48 (.agg #[.int .i64 x.key, .int .i64 x.value]) (.agg #[.int .i64 y.key, .int .i64 y.value])).run Try.prog w = .ok (.bool true) w := fun w => by rw [neqCell, decide_eq_false he]; rfl
          have He := Lib.hid he
          clear he
          go_wp2
          go_quiet (fail)
          go_wp2
          go_ret
          refine ⟨?_, by repeat' (first | with_reducible exact Still.refl _ | with_reducible assumption | with_reducible refine Still.drewN ?_ _ | with_reducible refine Still.drew ?_ | with_reducible refine Still.trans ?_ (by with_reducible assumption))⟩
          rw [decide_eq_false]
          · rfl
          · rintro rfl
            have h1 := Hx1.out.symm.trans Hy1.out
            injection h1 with h1
            exact He.out h1
      · go_wp2
        go_ret
        obtain rfl : k = n := by omega
        have h := hpre.out
        rw [List.take_of_length_le (by rw [Hx.out]; omega), List.take_of_length_le (by rw [Hy.out]; omega)] at h
        exact ⟨by simp [h], hst⟩
  · go_enter Try.func50, Try.ntmps50
    go_wp2
    go_ret
    refine ⟨?_, Still.refl _⟩
    rw [decide_eq_false]
    · rfl
    · rintro rfl
      omega
theorem equalCell_v (u v : Value) (x y : List CellD) (w : World) (X Y : Nat) (hu : R_CellS w X u x) (hv : R_CellS w Y v y) :
    Calls Try.prog 50 #[u, v] w fun e w' => e = .returned (.bool (decide (x = y))) ∧ Still w w' := by
  have h1 := hu.len
  have h2 := hv.len
  obtain ⟨A, n, c, rfl, hl, _, _, hr⟩ := hu
  obtain ⟨B, m, d, rfl, hm, _, _, hs⟩ := hv
  exact equalCell_any A B n c m d x y w X Y hr hl hs hm (by omega) (by omega)

def keyCell (l : List CellD) : List Int := l.map (·.key)
theorem keyCell_at {l : List CellD} {i : Nat} {x : CellD} (h : l[i]? = some x) : (keyCell l)[i]? = some x.key := by
  unfold keyCell
  rw [List.getElem?_map, h]
  rfl
set_option maxRecDepth 100000 in
theorem cmpCell_any (x : CellD) (k : Int) (w : World) : Calls Try.prog 87 #[.agg #[.int .i64 x.key, .int .i64 x.value], .int .i64 k] w fun e w' => e = .returned (.int .i64 (wrap64 (x.key - k))) ∧ Ext w w' := by
  go_enter Try.func87, Try.ntmps87
  go_wp2
  go_ret
  exact ⟨rfl, by repeat' (first | with_reducible exact Ext.refl _ | with_reducible assumption | with_reducible refine Ext.set ?_ ?_ _ _ | with_reducible refine Ext.alloc ?_ _ | with_reducible refine Ext.drew ?_ | with_reducible refine Ext.drewN ?_ _ | with_reducible refine Ext.trans ?_ (by with_reducible assumption) | omega | (simp; done) | (simp; omega))⟩

set_option maxRecDepth 100000 in
set_option maxHeartbeats 1000000 in
theorem searchCell_any (A : Option Addr) (n c : Nat) (l : List CellD) (k : Int) (w : World) (B : Nat) (hr : Rd w B 2 A n (l.flatMap eCell)) (hl : l.length = n) (hB : B ≤ w.heap.size) (hn : n ≤ 2097152) (hk : -9223372036854775808 ≤ k ∧ k ≤ 9223372036854775807) (hf : ∀ x ∈ l, -9223372036854775808 ≤ x.key ∧ x.key ≤ 9223372036854775807) :
    Calls Try.prog 86 #[.slice A n c, .int .i64 k, .func (.func 87) #[] #[]] w fun e w' => ∃ i : Nat, e = .returned (.tuple #[.int .i64 i, .bool (foundAt (keyCell l) k i)]) ∧ BS (keyCell l) k i ∧ Ext w w' := by
  have Hl := Lib.hid hl
  have Hf := Lib.hid hf
  have Hk := Lib.hid hk
  have hkl : Hid ((keyCell l).length = n) := by show _ = _; rw [keyCell, List.length_map, hl]
  clear hl hf hk
  go_enter Try.func86, Try.ntmps86
  go_wp2
  go_loopw [9, 10] (fun iv jv wr => ∃ (i j : Nat), i ≤ j ∧ j ≤ n ∧ iv = .int .i64 i ∧ jv = .int .i64 j ∧ Hid (0 < i → lessAt (keyCell l) k (i - 1) = true) ∧ Hid (j < n → lessAt (keyCell l) k j = false) ∧ Ext w wr) (fun iv jv _ => (intOf jv).toNat - (intOf iv).toNat)
  case atStart => exact ⟨0, n, by omega, by omega, rfl, rfl, fun h => absurd h (by omega), fun h => absurd h (by omega), by repeat' (first | with_reducible exact Ext.refl _ | with_reducible assumption | with_reducible refine Ext.set ?_ ?_ _ _ | with_reducible refine Ext.alloc ?_ _ | with_reducible refine Ext.drew ?_ | with_reducible refine Ext.drewN ?_ _ | with_reducible refine Ext.trans ?_ (by with_reducible assumption) | omega | (simp; done) | (simp; omega))⟩
  case round =>
    obtain ⟨i, j, hij, hj, rfl, rfl, hlo, hhi, hext⟩ := hrel
    have hsz := hext.size
    by_cases hlt : i < j
    · obtain ⟨b, off, x, rfl, hb, hx1, hc0, hc1⟩ := (hext.rd hr hB).Cell Hl.out (k := (i + j) / 2) (by omega)
      have Hx := Lib.hid hx1
      have hla := Lib.hid (lessAt_eq (k := k) (keyCell_at hx1))
      clear hx1
      have hm2 : (i + j) / 2 < n := by omega
      go_wp2_with fail
      refine (cmpCell_any x k _).mono ?_
      rintro e w1 ⟨rfl, hE1⟩
      generalize wrap64 (x.key - k) = d at *
      by_cases hd : d < 0
      · go_wp2
        go_roundw
        case rel => exact ⟨(i + j) / 2 + 1, j, by omega, by omega, by go_num, rfl, fun _ => by rw [Nat.add_sub_cancel, hla.out]; simpa using hd, hhi, by repeat' (first | with_reducible exact Ext.refl _ | with_reducible assumption | with_reducible refine Ext.set ?_ ?_ _ _ | with_reducible refine Ext.alloc ?_ _ | with_reducible refine Ext.drew ?_ | with_reducible refine Ext.drewN ?_ _ | with_reducible refine Ext.trans ?_ (by with_reducible assumption) | omega | (simp; done) | (simp; omega))⟩
        case measure => simp [intOf]; omega
      · go_wp2
        go_roundw
        case rel => exact ⟨i, (i + j) / 2, by omega, by omega, rfl, by go_num, hlo, fun _ => by rw [hla.out]; simpa using hd, by repeat' (first | with_reducible exact Ext.refl _ | with_reducible assumption | with_reducible refine Ext.set ?_ ?_ _ _ | with_reducible refine Ext.alloc ?_ _ | with_reducible refine Ext.drew ?_ | with_reducible refine Ext.drewN ?_ _ | with_reducible refine Ext.trans ?_ (by with_reducible assumption) | omega | (simp; done) | (simp; omega))⟩
        case measure => simp [intOf]; omega
    · obtain rfl : i = j := by omega
      have hbs : Hid (BS (keyCell l) k i) := ⟨by rw [hkl.out]; omega, hlo.out, fun h => hhi.out (by rw [← hkl.out]; exact h)⟩
      by_cases hin : i < n
      · obtain ⟨b, off, x, rfl, hb, hx1, hc0, hc1⟩ := (hext.rd hr hB).Cell Hl.out hin
        have Hx := Lib.hid hx1
        have hfd : Hid (foundAt (keyCell l) k i = decide (x.key = k)) := by
          show _ = _
          rw [foundAt, keyCell_at hx1]
          simp
        have hz := Lib.hid (wrap64_zero (Hf.out x (List.mem_of_getElem? hx1)).1 (Hf.out x (List.mem_of_getElem? hx1)).2 Hk.out.1 Hk.out.2)
        clear hx1
        go_wp2_with fail
        refine (cmpCell_any x k _).mono ?_
        rintro e w1 ⟨rfl, hE1⟩
        generalize wrap64 (x.key - k) = d at *
        go_wp2
        go_ret2
        refine ⟨i, ?_, hbs.out, by repeat' (first | with_reducible exact Ext.refl _ | with_reducible assumption | with_reducible refine Ext.set ?_ ?_ _ _ | with_reducible refine Ext.alloc ?_ _ | with_reducible refine Ext.drew ?_ | with_reducible refine Ext.drewN ?_ _ | with_reducible refine Ext.trans ?_ (by with_reducible assumption) | omega | (simp; done) | (simp; omega))⟩
        rw [hfd.out, ← show (d == 0) = decide (x.key = k) from by rw [Bool.eq_iff_iff]; simp only [beq_iff_eq, decide_eq_true_eq]; exact hz.out]
        rfl
      · have hfd : Hid (foundAt (keyCell l) k i = false) := by
          show _ = _
          rw [foundAt, List.getElem?_eq_none (by rw [hkl.out]; omega)]
          rfl
        go_wp2
        go_ret2
        exact ⟨i, by rw [hfd.out]; rfl, hbs.out, by repeat' (first | with_reducible exact Ext.refl _ | with_reducible assumption | with_reducible refine Ext.set ?_ ?_ _ _ | with_reducible refine Ext.alloc ?_ _ | with_reducible refine Ext.drew ?_ | with_reducible refine Ext.drewN ?_ _ | with_reducible refine Ext.trans ?_ (by with_reducible assumption) | omega | (simp; done) | (simp; omega))⟩

set_option maxRecDepth 100000 in
theorem neqSeat (x y : SeatD) (w : World) : (binOp .neq 56 (.agg #[.int .i64 x.client, .int .i64 x.req, .int .i64 x.answer]) (.agg #[.int .i64 y.client, .int .i64 y.req, .int .i64 y.answer])).run Try.prog w = .ok (.bool (!decide (x = y))) w := by
  have u3 := Try.underlying3
  have a3 := Try.isAgg3
  have z3 := Try.sizeOf3
  have hS : Try.prog.underlying 56 = some (.struct (Try.prog.fieldsOf 56)) := by kernel_rfl
  have hp : Try.prog.stoodInHeld 56 = false := by kernel_rfl
  rw [run_neq_struct, show (10000 : Nat) = 9999 + 1 from rfl, run_equalIn_agg w 9999 56 _ _ hS hp]
  simp only [Program.fieldsOf, Try.underlying56]
  clear hS hp
  go_simp
  obtain ⟨x0, x1, x2⟩ := x
  obtain ⟨y0, y1, y2⟩ := y
  by_cases h0 : x0 = y0 <;> by_cases h1 : x1 = y1 <;> by_cases h2 : x2 = y2 <;> simp [h0, h1, h2]

set_option maxRecDepth 100000 in
set_option maxHeartbeats 1000000 in
theorem equalSeat_any (A B : Option Addr) (n c m d : Nat) (xs ys : List SeatD) (w : World) (X Y : Nat) (hx : Rd w X 3 A n (xs.flatMap eSeat)) (hxl : xs.length = n) (hy : Rd w Y 3 B m (ys.flatMap eSeat)) (hyl : ys.length = m) (hn : n ≤ 9223372036854775807) (hm : m ≤ 9223372036854775807) :
    Calls Try.prog 51 #[.slice A n c, .slice B m d] w fun e w' => e = .returned (.bool (decide (xs = ys))) ∧ Still w w' := by
  by_cases hnm : n = m
  · subst hnm
    have Hx := Lib.hid hxl
    have Hy := Lib.hid hyl
    clear hxl hyl
    go_enter Try.func51, Try.ntmps51
    go_wp2
    go_loopw [13] (fun i wr => ∃ k : Nat, k ≤ n ∧ i = .int .i64 k ∧ Hid (xs.take k = ys.take k) ∧ Still w wr) (fun i _ => n - (intOf i).toNat)
    case atStart => exact ⟨0, by omega, rfl, by simp [Hid], Still.refl _⟩
    case round =>
      obtain ⟨k, hk, rfl, hpre, hst⟩ := hrel
      by_cases hlt : k < n
      · obtain ⟨b, off, x, rfl, _, hx1, hc0, hc1, hc2⟩ := (hst.rd hx).Seat Hx.out hlt
        obtain ⟨b', off', y, rfl, _, hy1, hd0, hd1, hd2⟩ := (hst.rd hy).Seat Hy.out hlt
        have Hx1 := Lib.hid hx1
        have Hy1 := Lib.hid hy1
        have hlt' : (k : Int) < (n : Int) := by omega
        clear hx1 hy1 hx hy
        by_cases he : x = y
        · have hq : ∀ w, (binOp .neq 56 (.agg #[.int .i64 x.client, .int .i64 x.req, .int .i64 x.answer]) (.agg #[.int .i64 y.client, .int .i64 y.req, .int .i64 y.answer])).run Try.prog w = .ok (.bool false) w := fun w => by rw [neqSeat, decide_eq_true he]; rfl
          have He := Lib.hid he
          clear he
          go_wp2
          go_quiet (fail)
          go_wp2
          go_roundw
          case rel => exact ⟨k + 1, by omega, by go_num, by
            show _ = _
            rw [take_snoc Hx1.out, take_snoc Hy1.out, hpre.out, He.out], by repeat' (first | with_reducible exact Still.refl _ | with_reducible assumption | with_reducible refine Still.drewN ?_ _ | with_reducible refine Still.drew ?_ | with_reducible refine Still.trans ?_ (by with_reducible assumption))⟩
          case measure => simp [intOf]; omega
        · have hq : ∀ w, (binOp .neq 56 (.agg #[.int .i64 x.client, .int .i64 x.req, .int .i64 x.answer]) (.agg #[.int .i64 y.client, .int .i64 y.req, .int .i64 y.answer])).run Try.prog w = .ok (.bool true) w := fun w => by rw [neqSeat, decide_eq_false he]; rfl
          have He := Lib.hid he
          clear he
          go_wp2
          go_quiet (fail)
          go_wp2
          go_ret
          refine ⟨?_, by repeat' (first | with_reducible exact Still.refl _ | with_reducible assumption | with_reducible refine Still.drewN ?_ _ | with_reducible refine Still.drew ?_ | with_reducible refine Still.trans ?_ (by with_reducible assumption))⟩
          rw [decide_eq_false]
          · rfl
          · rintro rfl
            have h1 := Hx1.out.symm.trans Hy1.out
            injection h1 with h1
            exact He.out h1
      · go_wp2
        go_ret
        obtain rfl : k = n := by omega
        have h := hpre.out
        rw [List.take_of_length_le (by rw [Hx.out]; omega), List.take_of_length_le (by rw [Hy.out]; omega)] at h
        exact ⟨by simp [h], hst⟩
  · go_enter Try.func51, Try.ntmps51
    go_wp2
    go_ret
    refine ⟨?_, Still.refl _⟩
    rw [decide_eq_false]
    · rfl
    · rintro rfl
      omega
theorem equalSeat_v (u v : Value) (x y : List SeatD) (w : World) (X Y : Nat) (hu : R_SeatS w X u x) (hv : R_SeatS w Y v y) :
    Calls Try.prog 51 #[u, v] w fun e w' => e = .returned (.bool (decide (x = y))) ∧ Still w w' := by
  have h1 := hu.len
  have h2 := hv.len
  obtain ⟨A, n, c, rfl, hl, _, _, hr⟩ := hu
  obtain ⟨B, m, d, rfl, hm, _, _, hs⟩ := hv
  exact equalSeat_any A B n c m d x y w X Y hr hl hs hm (by omega) (by omega)

def keySeat (l : List SeatD) : List Int := l.map (·.client)
theorem keySeat_at {l : List SeatD} {i : Nat} {x : SeatD} (h : l[i]? = some x) : (keySeat l)[i]? = some x.client := by
  unfold keySeat
  rw [List.getElem?_map, h]
  rfl
set_option maxRecDepth 100000 in
theorem cmpSeat_any (x : SeatD) (k : Int) (w : World) : Calls Try.prog 75 #[.agg #[.int .i64 x.client, .int .i64 x.req, .int .i64 x.answer], .int .i64 k] w fun e w' => e = .returned (.int .i64 (wrap64 (x.client - k))) ∧ Ext w w' := by
  go_enter Try.func75, Try.ntmps75
  go_wp2
  go_ret
  exact ⟨rfl, by repeat' (first | with_reducible exact Ext.refl _ | with_reducible assumption | with_reducible refine Ext.set ?_ ?_ _ _ | with_reducible refine Ext.alloc ?_ _ | with_reducible refine Ext.drew ?_ | with_reducible refine Ext.drewN ?_ _ | with_reducible refine Ext.trans ?_ (by with_reducible assumption) | omega | (simp; done) | (simp; omega))⟩

set_option maxRecDepth 100000 in
set_option maxHeartbeats 1000000 in
theorem searchSeat_any (A : Option Addr) (n c : Nat) (l : List SeatD) (k : Int) (w : World) (B : Nat) (hr : Rd w B 3 A n (l.flatMap eSeat)) (hl : l.length = n) (hB : B ≤ w.heap.size) (hn : n ≤ 2097152) (hk : -9223372036854775808 ≤ k ∧ k ≤ 9223372036854775807) (hf : ∀ x ∈ l, -9223372036854775808 ≤ x.client ∧ x.client ≤ 9223372036854775807) :
    Calls Try.prog 74 #[.slice A n c, .int .i64 k, .func (.func 75) #[] #[]] w fun e w' => ∃ i : Nat, e = .returned (.tuple #[.int .i64 i, .bool (foundAt (keySeat l) k i)]) ∧ BS (keySeat l) k i ∧ Ext w w' := by
  have Hl := Lib.hid hl
  have Hf := Lib.hid hf
  have Hk := Lib.hid hk
  have hkl : Hid ((keySeat l).length = n) := by show _ = _; rw [keySeat, List.length_map, hl]
  clear hl hf hk
  go_enter Try.func74, Try.ntmps74
  go_wp2
  go_loopw [9, 10] (fun iv jv wr => ∃ (i j : Nat), i ≤ j ∧ j ≤ n ∧ iv = .int .i64 i ∧ jv = .int .i64 j ∧ Hid (0 < i → lessAt (keySeat l) k (i - 1) = true) ∧ Hid (j < n → lessAt (keySeat l) k j = false) ∧ Ext w wr) (fun iv jv _ => (intOf jv).toNat - (intOf iv).toNat)
  case atStart => exact ⟨0, n, by omega, by omega, rfl, rfl, fun h => absurd h (by omega), fun h => absurd h (by omega), by repeat' (first | with_reducible exact Ext.refl _ | with_reducible assumption | with_reducible refine Ext.set ?_ ?_ _ _ | with_reducible refine Ext.alloc ?_ _ | with_reducible refine Ext.drew ?_ | with_reducible refine Ext.drewN ?_ _ | with_reducible refine Ext.trans ?_ (by with_reducible assumption) | omega | (simp; done) | (simp; omega))⟩
  case round =>
    obtain ⟨i, j, hij, hj, rfl, rfl, hlo, hhi, hext⟩ := hrel
    have hsz := hext.size
    by_cases hlt : i < j
    · obtain ⟨b, off, x, rfl, hb, hx1, hc0, hc1, hc2⟩ := (hext.rd hr hB).Seat Hl.out (k := (i + j) / 2) (by omega)
      have Hx := Lib.hid hx1
      have hla := Lib.hid (lessAt_eq (k := k) (keySeat_at hx1))
      clear hx1
      have hm2 : (i + j) / 2 < n := by omega
      go_wp2_with fail
      refine (cmpSeat_any x k _).mono ?_
      rintro e w1 ⟨rfl, hE1⟩
      generalize wrap64 (x.client - k) = d at *
      by_cases hd : d < 0
      · go_wp2
        go_roundw
        case rel => exact ⟨(i + j) / 2 + 1, j, by omega, by omega, by go_num, rfl, fun _ => by rw [Nat.add_sub_cancel, hla.out]; simpa using hd, hhi, by repeat' (first | with_reducible exact Ext.refl _ | with_reducible assumption | with_reducible refine Ext.set ?_ ?_ _ _ | with_reducible refine Ext.alloc ?_ _ | with_reducible refine Ext.drew ?_ | with_reducible refine Ext.drewN ?_ _ | with_reducible refine Ext.trans ?_ (by with_reducible assumption) | omega | (simp; done) | (simp; omega))⟩
        case measure => simp [intOf]; omega
      · go_wp2
        go_roundw
        case rel => exact ⟨i, (i + j) / 2, by omega, by omega, rfl, by go_num, hlo, fun _ => by rw [hla.out]; simpa using hd, by repeat' (first | with_reducible exact Ext.refl _ | with_reducible assumption | with_reducible refine Ext.set ?_ ?_ _ _ | with_reducible refine Ext.alloc ?_ _ | with_reducible refine Ext.drew ?_ | with_reducible refine Ext.drewN ?_ _ | with_reducible refine Ext.trans ?_ (by with_reducible assumption) | omega | (simp; done) | (simp; omega))⟩
        case measure => simp [intOf]; omega
    · obtain rfl : i = j := by omega
      have hbs : Hid (BS (keySeat l) k i) := ⟨by rw [hkl.out]; omega, hlo.out, fun h => hhi.out (by rw [← hkl.out]; exact h)⟩
      by_cases hin : i < n
      · obtain ⟨b, off, x, rfl, hb, hx1, hc0, hc1, hc2⟩ := (hext.rd hr hB).Seat Hl.out hin
        have Hx := Lib.hid hx1
        have hfd : Hid (foundAt (keySeat l) k i = decide (x.client = k)) := by
          show _ = _
          rw [foundAt, keySeat_at hx1]
          simp
        have hz := Lib.hid (wrap64_zero (Hf.out x (List.mem_of_getElem? hx1)).1 (Hf.out x (List.mem_of_getElem? hx1)).2 Hk.out.1 Hk.out.2)
        clear hx1
        go_wp2_with fail
        refine (cmpSeat_any x k _).mono ?_
        rintro e w1 ⟨rfl, hE1⟩
        generalize wrap64 (x.client - k) = d at *
        go_wp2
        go_ret2
        refine ⟨i, ?_, hbs.out, by repeat' (first | with_reducible exact Ext.refl _ | with_reducible assumption | with_reducible refine Ext.set ?_ ?_ _ _ | with_reducible refine Ext.alloc ?_ _ | with_reducible refine Ext.drew ?_ | with_reducible refine Ext.drewN ?_ _ | with_reducible refine Ext.trans ?_ (by with_reducible assumption) | omega | (simp; done) | (simp; omega))⟩
        rw [hfd.out, ← show (d == 0) = decide (x.client = k) from by rw [Bool.eq_iff_iff]; simp only [beq_iff_eq, decide_eq_true_eq]; exact hz.out]
        rfl
      · have hfd : Hid (foundAt (keySeat l) k i = false) := by
          show _ = _
          rw [foundAt, List.getElem?_eq_none (by rw [hkl.out]; omega)]
          rfl
        go_wp2
        go_ret2
        exact ⟨i, by rw [hfd.out]; rfl, hbs.out, by repeat' (first | with_reducible exact Ext.refl _ | with_reducible assumption | with_reducible refine Ext.set ?_ ?_ _ _ | with_reducible refine Ext.alloc ?_ _ | with_reducible refine Ext.drew ?_ | with_reducible refine Ext.drewN ?_ _ | with_reducible refine Ext.trans ?_ (by with_reducible assumption) | omega | (simp; done) | (simp; omega))⟩


end Go.Proofs.Ytacbcnobenffdaa
