/-
  slices.Equal and slices.BinarySearchFunc of the program's rows of records, walked.
-/
import Derived.Test.YtbfbdhjeoknjkaaImage2
import Derived.Test.YtbfbdhjeoknjkaaKeys
import Derived.Lib.SliceRun
import Derived.Laws.StructEq
namespace Go.Proofs.Ytbfbdhjeoknjkaa
open Go.RowKit

set_option maxRecDepth 100000 in
theorem neqCell (x y : CellD) (w : World) : (binOp .neq 86 (.agg #[.int .i64 x.key, .int .i64 x.value]) (.agg #[.int .i64 y.key, .int .i64 y.value])).run Try.prog w = .ok (.bool (!decide (x = y))) w := by
  have u3 := Try.underlying3
  have a3 := Try.isAgg3
  have z3 := Try.sizeOf3
  have hS : Try.prog.underlying 86 = some (.struct (Try.prog.fieldsOf 86)) := by kernel_rfl
  have hp : Try.prog.stoodInHeld 86 = false := by kernel_rfl
  rw [run_neq_struct, show (10000 : Nat) = 9999 + 1 from rfl, run_equalIn_agg w 9999 86 _ _ hS hp]
  simp only [Program.fieldsOf, Try.underlying86]
  clear hS hp
  go_simp
  obtain ⟨x0, x1⟩ := x
  obtain ⟨y0, y1⟩ := y
  by_cases h0 : x0 = y0 <;> by_cases h1 : x1 = y1 <;> simp [h0, h1]

set_option maxRecDepth 100000 in
set_option maxHeartbeats 1000000 in
theorem equalCell_any (A B : Option Addr) (n c m d : Nat) (xs ys : List CellD) (w : World) (X Y : Nat) (hx : Rd w X 2 A n (xs.flatMap eCell)) (hxl : xs.length = n) (hy : Rd w Y 2 B m (ys.flatMap eCell)) (hyl : ys.length = m) (hn : n ≤ 9223372036854775807) (hm : m ≤ 9223372036854775807) :
    Calls Try.prog 110 #[.slice A n c, .slice B m d] w fun e w' => e = .returned (.bool (decide (xs = ys))) ∧ Still w w' := by
  by_cases hnm : n = m
  · subst hnm
    have Hx := Lib.hid hxl
    have Hy := Lib.hid hyl
    clear hxl hyl
    go_enter Try.func110, Try.ntmps110
    go_wp2
    go_loopw [13] (fun i wr => ∃ k : Nat, k ≤ n ∧ i = .int .i64 k ∧ Hid (xs.take k = ys.take k) ∧ Still w wr) (fun i _ => n - (intOf i).toNat)
    case atStart => exact ⟨0, by omega, rfl, by simp [Hid], Still.refl _⟩
    case round =>
      obtain ⟨k, hk, rfl, hpre, hst⟩ := hrel
      by_cases hlt : k < n
      · obtain ⟨b, off, x, rfl, _, hx1, hc0, hc1⟩ := (hst.rd hx).Cell Hx.out hlt
        obtain ⟨b', off', y, rfl, _, hy1, hd0, hd1⟩ := (hst.rd hy).Cell Hy.out hlt
        have Hx1 := Lib.hid hx1
        have Hy1 := Lib.hid hy1
        have hlt' : (k : Int) < (n : Int) := by omega
        clear hx1 hy1 hx hy
        by_cases he : x = y
        · have hq : ∀ w, (binOp .neq 86 (.agg #[.int .i64 x.key, .int .i64 x.value]) (.agg #[.int .i64 y.key, .int .i64 y.value])).run Try.prog w = .ok (.bool false) w := fun w => by rw [neqCell, decide_eq_true he]; rfl
          have He := Lib.hid he
          clear he
          go_wp2
          go_quiet (fail)
          go_wp2
          go_roundw
          case rel => exact ⟨k + 1, by omega, by go_num, by
            show _ = _
            rw [take_snoc Hx1.out, take_snoc Hy1.out, hpre.out, He.out], by repeat' (first | with_reducible exact Still.refl _ | with_reducible assumption | with_reducible refine Still.drewN ?_ _ | with_reducible refine Still.drew ?_ | with_reducible refine Still.trans ?_ (by with_reducible assumption))⟩
          case measure => simp [intOf]; omega
        · have hq : ∀ w, (binOp .neq 86 (.agg #[.int .i64 x.key, .int .i64 x.value]) (.agg #[.int .i64 y.key, .int .i64 y.value])).run Try.prog w = .ok (.bool true) w := fun w => by rw [neqCell, decide_eq_false he]; rfl
          have He := Lib.hid he
          clear he
          go_wp2
          go_quiet (fail)
          go_wp2
          go_ret
          refine ⟨?_, by repeat' (first | with_reducible exact Still.refl _ | with_reducible assumption | with_reducible refine Still.drewN ?_ _ | with_reducible refine Still.drew ?_ | with_reducible refine Still.trans ?_ (by with_reducible assumption))⟩
          rw [decide_eq_false]
          · rfl
          · rintro rfl
            have h1 := Hx1.out.symm.trans Hy1.out
            injection h1 with h1
            exact He.out h1
      · go_wp2
        go_ret
        obtain rfl : k = n := by omega
        have h := hpre.out
        rw [List.take_of_length_le (by rw [Hx.out]; omega), List.take_of_length_le (by rw [Hy.out]; omega)] at h
        exact ⟨by simp [h], hst⟩
  · go_enter Try.func110, Try.ntmps110
    go_wp2
    go_ret
    refine ⟨?_, Still.refl _⟩
    rw [decide_eq_false]
    · rfl
    · rintro rfl
      omega
theorem equalCell_v (u v : Value) (x y : List CellD) (w : World) (X Y : Nat) (hu : R_CellS w X u x) (hv : R_CellS w Y v y) :
    Calls Try.prog 110 #[u, v] w fun e w' => e = .returned (.bool (decide (x = y))) ∧ Still w w' := by
  have h1 := hu.len
  have h2 := hv.len
  obtain ⟨A, n, c, rfl, hl, _, _, hr⟩ := hu
  obtain ⟨B, m, d, rfl, hm, _, _, hs⟩ := hv
  exact equalCell_any A B n c m d x y w X Y hr hl hs hm (by omega) (by omega)


set_option maxRecDepth 100000 in
theorem neqSeat (x y : SeatD) (w : World) : (binOp .neq 88 (.agg #[.int .i64 x.client, .int .i64 x.req, .int .i64 x.answer]) (.agg #[.int .i64 y.client, .int .i64 y.req, .int .i64 y.answer])).run Try.prog w = .ok (.bool (!decide (x = y))) w := by
  have u3 := Try.underlying3
  have a3 := Try.isAgg3
  have z3 := Try.sizeOf3
  have hS : Try.prog.underlying 88 = some (.struct (Try.prog.fieldsOf 88)) := by kernel_rfl
  have hp : Try.prog.stoodInHeld 88 = false := by kernel_rfl
  rw [run_neq_struct, show (10000 : Nat) = 9999 + 1 from rfl, run_equalIn_agg w 9999 88 _ _ hS hp]
  simp only [Program.fieldsOf, Try.underlying88]
  clear hS hp
  go_simp
  obtain ⟨x0, x1, x2⟩ := x
  obtain ⟨y0, y1, y2⟩ := y
  by_cases h0 : x0 = y0 <;> by_cases h1 : x1 = y1 <;> by_cases h2 : x2 = y2 <;> simp [h0, h1, h2]

set_option maxRecDepth 100000 in
set_option maxHeartbeats 1000000 in
theorem equalSeat_any (A B : Option Addr) (n c m d : Nat) (xs ys : List SeatD) (w : World) (X Y : Nat) (hx : Rd w X 3 A n (xs.flatMap eSeat)) (hxl : xs.length = n) (hy : Rd w Y 3 B m (ys.flatMap eSeat)) (hyl : ys.length = m) (hn : n ≤ 9223372036854775807) (hm : m ≤ 9223372036854775807) :
    Calls Try.prog 111 #[.slice A n c, .slice B m d] w fun e w' => e = .returned (.bool (decide (xs = ys))) ∧ Still w w' := by
  by_cases hnm : n = m
  · subst hnm
    have Hx := Lib.hid hxl
    have Hy := Lib.hid hyl
    clear hxl hyl
    go_enter Try.func111, Try.ntmps111
    go_wp2
    go_loopw [13] (fun i wr => ∃ k : Nat, k ≤ n ∧ i = .int .i64 k ∧ Hid (xs.take k = ys.take k) ∧ Still w wr) (fun i _ => n - (intOf i).toNat)
    case atStart => exact ⟨0, by omega, rfl, by simp [Hid], Still.refl _⟩
    case round =>
      obtain ⟨k, hk, rfl, hpre, hst⟩ := hrel
      by_cases hlt : k < n
      · obtain ⟨b, off, x, rfl, _, hx1, hc0, hc1, hc2⟩ := (hst.rd hx).Seat Hx.out hlt
        obtain ⟨b', off', y, rfl, _, hy1, hd0, hd1, hd2⟩ := (hst.rd hy).Seat Hy.out hlt
        have Hx1 := Lib.hid hx1
        have Hy1 := Lib.hid hy1
        have hlt' : (k : Int) < (n : Int) := by omega
        clear hx1 hy1 hx hy
        by_cases he : x = y
        · have hq : ∀ w, (binOp .neq 88 (.agg #[.int .i64 x.client, .int .i64 x.req, .int .i64 x.answer]) (.agg #[.int .i64 y.client, .int .i64 y.req, .int .i64 y.answer])).run Try.prog w = .ok (.bool false) w := fun w => by rw [neqSeat, decide_eq_true he]; rfl
          have He := Lib.hid he
          clear he
          go_wp2
          go_quiet (fail)
          go_wp2
          go_roundw
          case rel => exact ⟨k + 1, by omega, by go_num, by
            show _ = _
            rw [take_snoc Hx1.out, take_snoc Hy1.out, hpre.out, He.out], by repeat' (first | with_reducible exact Still.refl _ | with_reducible assumption | with_reducible refine Still.drewN ?_ _ | with_reducible refine Still.drew ?_ | with_reducible refine Still.trans ?_ (by with_reducible assumption))⟩
          case measure => simp [intOf]; omega
        · have hq : ∀ w, (binOp .neq 88 (.agg #[.int .i64 x.client, .int .i64 x.req, .int .i64 x.answer]) (.agg #[.int .i64 y.client, .int .i64 y.req, .int .i64 y.answer])).run Try.prog w = .ok (.bool true) w := fun w => by rw [neqSeat, decide_eq_false he]; rfl
          have He := Lib.hid he
          clear he
          go_wp2
          go_quiet (fail)
          go_wp2
          go_ret
          refine ⟨?_, by repeat' (first | with_reducible exact Still.refl _ | with_reducible assumption | with_reducible refine Still.drewN ?_ _ | with_reducible refine Still.drew ?_ | with_reducible refine Still.trans ?_ (by with_reducible assumption))⟩
          rw [decide_eq_false]
          · rfl
          · rintro rfl
            have h1 := Hx1.out.symm.trans Hy1.out
            injection h1 with h1
            exact He.out h1
      · go_wp2
        go_ret
        obtain rfl : k = n := by omega
        have h := hpre.out
        rw [List.take_of_length_le (by rw [Hx.out]; omega), List.take_of_length_le (by rw [Hy.out]; omega)] at h
        exact ⟨by simp [h], hst⟩
  · go_enter Try.func111, Try.ntmps111
    go_wp2
    go_ret
    refine ⟨?_, Still.refl _⟩
    rw [decide_eq_false]
    · rfl
    · rintro rfl
      omega
theorem equalSeat_v (u v : Value) (x y : List SeatD) (w : World) (X Y : Nat) (hu : R_SeatS w X u x) (hv : R_SeatS w Y v y) :
    Calls Try.prog 111 #[u, v] w fun e w' => e = .returned (.bool (decide (x = y))) ∧ Still w w' := by
  have h1 := hu.len
  have h2 := hv.len
  obtain ⟨A, n, c, rfl, hl, _, _, hr⟩ := hu
  obtain ⟨B, m, d, rfl, hm, _, _, hs⟩ := hv
  exact equalSeat_any A B n c m d x y w X Y hr hl hs hm (by omega) (by omega)


set_option maxRecDepth 100000 in
theorem neqEntry (x y : EntryD) (w : World) : (binOp .neq 90 (.agg #[.int .i64 x.client, .int .i64 x.req, .int .i64 x.cmd.kind, .int .i64 x.cmd.key, .int .i64 x.cmd.value]) (.agg #[.int .i64 y.client, .int .i64 y.req, .int .i64 y.cmd.kind, .int .i64 y.cmd.key, .int .i64 y.cmd.value])).run Try.prog w = .ok (.bool (!decide (x = y))) w := by
  have u3 := Try.underlying3
  have a3 := Try.isAgg3
  have z3 := Try.sizeOf3
  have hS : Try.prog.underlying 90 = some (.struct (Try.prog.fieldsOf 90)) := by kernel_rfl
  have hp : Try.prog.stoodInHeld 90 = false := by kernel_rfl
  have a4 := Try.isAgg35
  have z4 := Try.sizeOf35
  rw [run_neq_struct, show (10000 : Nat) = 9999 + 1 from rfl, run_equalIn_agg w 9999 90 _ _ hS hp]
  simp only [Program.fieldsOf, Try.underlying90]
  clear hS hp
  go_simp
  obtain ⟨x0, x1, ⟨x2, x3, x4⟩⟩ := x
  obtain ⟨y0, y1, ⟨y2, y3, y4⟩⟩ := y
  by_cases h0 : x0 = y0 <;> by_cases h1 : x1 = y1 <;> by_cases h2 : x2 = y2 <;> by_cases h3 : x3 = y3 <;> by_cases h4 : x4 = y4 <;> simp [h0, h1, h2, h3, h4]

set_option maxRecDepth 100000 in
set_option maxHeartbeats 1000000 in
theorem equalEntry_any (A B : Option Addr) (n c m d : Nat) (xs ys : List EntryD) (w : World) (X Y : Nat) (hx : Rd w X 5 A n (xs.flatMap eEntry)) (hxl : xs.length = n) (hy : Rd w Y 5 B m (ys.flatMap eEntry)) (hyl : ys.length = m) (hn : n ≤ 9223372036854775807) (hm : m ≤ 9223372036854775807) :
    Calls Try.prog 65 #[.slice A n c, .slice B m d] w fun e w' => e = .returned (.bool (decide (xs = ys))) ∧ Still w w' := by
  by_cases hnm : n = m
  · subst hnm
    have Hx := Lib.hid hxl
    have Hy := Lib.hid hyl
    clear hxl hyl
    go_enter Try.func65, Try.ntmps65
    go_wp2
    go_loopw [13] (fun i wr => ∃ k : Nat, k ≤ n ∧ i = .int .i64 k ∧ Hid (xs.take k = ys.take k) ∧ Still w wr) (fun i _ => n - (intOf i).toNat)
    case atStart => exact ⟨0, by omega, rfl, by simp [Hid], Still.refl _⟩
    case round =>
      obtain ⟨k, hk, rfl, hpre, hst⟩ := hrel
      by_cases hlt : k < n
      · obtain ⟨b, off, x, rfl, _, hx1, hc0, hc1, hc2, hc3, hc4⟩ := (hst.rd hx).Entry Hx.out hlt
        obtain ⟨b', off', y, rfl, _, hy1, hd0, hd1, hd2, hd3, hd4⟩ := (hst.rd hy).Entry Hy.out hlt
        have Hx1 := Lib.hid hx1
        have Hy1 := Lib.hid hy1
        have hlt' : (k : Int) < (n : Int) := by omega
        clear hx1 hy1 hx hy
        by_cases he : x = y
        · have hq : ∀ w, (binOp .neq 90 (.agg #[.int .i64 x.client, .int .i64 x.req, .int .i64 x.cmd.kind, .int .i64 x.cmd.key, .int .i64 x.cmd.value]) (.agg #[.int .i64 y.client, .int .i64 y.req, .int .i64 y.cmd.kind, .int .i64 y.cmd.key, .int .i64 y.cmd.value])).run Try.prog w = .ok (.bool false) w := fun w => by rw [neqEntry, decide_eq_true he]; rfl
          have He := Lib.hid he
          clear he
          go_wp2
          go_quiet (fail)
          go_wp2
          go_roundw
          case rel => exact ⟨k + 1, by omega, by go_num, by
            show _ = _
            rw [take_snoc Hx1.out, take_snoc Hy1.out, hpre.out, He.out], by repeat' (first | with_reducible exact Still.refl _ | with_reducible assumption | with_reducible refine Still.drewN ?_ _ | with_reducible refine Still.drew ?_ | with_reducible refine Still.trans ?_ (by with_reducible assumption))⟩
          case measure => simp [intOf]; omega
        · have hq : ∀ w, (binOp .neq 90 (.agg #[.int .i64 x.client, .int .i64 x.req, .int .i64 x.cmd.kind, .int .i64 x.cmd.key, .int .i64 x.cmd.value]) (.agg #[.int .i64 y.client, .int .i64 y.req, .int .i64 y.cmd.kind, .int .i64 y.cmd.key, .int .i64 y.cmd.value])).run Try.prog w = .ok (.bool true) w := fun w => by rw [neqEntry, decide_eq_false he]; rfl
          have He := Lib.hid he
          clear he
          go_wp2
          go_quiet (fail)
          go_wp2
          go_ret
          refine ⟨?_, by repeat' (first | with_reducible exact Still.refl _ | with_reducible assumption | with_reducible refine Still.drewN ?_ _ | with_reducible refine Still.drew ?_ | with_reducible refine Still.trans ?_ (by with_reducible assumption))⟩
          rw [decide_eq_false]
          · rfl
          · rintro rfl
            have h1 := Hx1.out.symm.trans Hy1.out
            injection h1 with h1
            exact He.out h1
      · go_wp2
        go_ret
        obtain rfl : k = n := by omega
        have h := hpre.out
        rw [List.take_of_length_le (by rw [Hx.out]; omega), List.take_of_length_le (by rw [Hy.out]; omega)] at h
        exact ⟨by simp [h], hst⟩
  · go_enter Try.func65, Try.ntmps65
    go_wp2
    go_ret
    refine ⟨?_, Still.refl _⟩
    rw [decide_eq_false]
    · rfl
    · rintro rfl
      omega
theorem equalEntry_v (u v : Value) (x y : List EntryD) (w : World) (X Y : Nat) (hu : R_EntryS w X u x) (hv : R_EntryS w Y v y) :
    Calls Try.prog 65 #[u, v] w fun e w' => e = .returned (.bool (decide (x = y))) ∧ Still w w' := by
  have h1 := hu.len
  have h2 := hv.len
  obtain ⟨A, n, c, rfl, hl, _, _, hr⟩ := hu
  obtain ⟨B, m, d, rfl, hm, _, _, hs⟩ := hv
  exact equalEntry_any A B n c m d x y w X Y hr hl hs hm (by omega) (by omega)

end Go.Proofs.Ytbfbdhjeoknjkaa
