/-
  What the law on mail under way calls beside the net's own functions.
-/
import Derived.Test.YtllljddojncemaaUnder
import Derived.Test.YtllljddojncemaaDrawS
import Derived.Deep.QuietTactic
namespace Go.Proofs.Ytllljddojncemaa
open Go.RowKit
set_option maxRecDepth 1000000

theorem bigU_any (A : Option Addr) (n c : Nat) (w : World) : Calls Try.prog 34 #[.slice A n c] w fun e w' => e = .returned (.bool (decide (1048576 < n))) ∧ w = w' := by
  by_cases h : 1048576 < n
  · have d1 : decide ((1048576 : Int) < (n : Int)) = true := by simp; omega
    have d2 : decide (1048576 < n) = true := by simp; omega
    rw [d2]
    go_enter Try.func34, Try.ntmps34
    go_wp2
    go_ret
    exact ⟨rfl, rfl⟩
  · have d1 : decide ((1048576 : Int) < (n : Int)) = false := by simp; omega
    have d2 : decide (1048576 < n) = false := by simp; omega
    rw [d2]
    go_enter Try.func34, Try.ntmps34
    go_wp2
    go_ret
    exact ⟨rfl, rfl⟩
theorem atU_any (A : Option Addr) (n c : Nat) (l : List UInt8) (i : Nat) (w : World) (B : Nat) (hr : Rd w B 1 A n (l.flatMap eB)) (hl : l.length = n) (hn : n ≤ 1048576) (hi : i ≤ 100) :
    Calls Try.prog 37 #[.slice A n c, .int .i64 i] w fun e w' => ∃ x : Nat, x ≤ 255 ∧ e = .returned (.int .i64 x) ∧ w = w' := by
  by_cases h : i < n
  · obtain ⟨b, off, x, rfl, _, hx, hcx⟩ := hr.byte hl h
    have h1 : (i : Int) < (n : Int) := by omega
    have hxb := x.toNat_lt
    go_enter Try.func37, Try.ntmps37
    go_wp2
    go_ret
    exact ⟨x.toNat, by omega, rfl, rfl⟩
  · have h1 : ¬ (i : Int) < (n : Int) := by omega
    go_enter Try.func37, Try.ntmps37
    go_wp2
    go_ret
    exact ⟨(i * 7 + n) % 256, by omega, congrArg (fun z => Ending.returned (Value.int IntKind.i64 z)) (by push_cast; rfl), rfl⟩
theorem atU_val (A : Option Addr) (n c : Nat) (l : List UInt8) (i : Nat) (B : Nat) (hl : l.length = n) (hn : n ≤ 1048576) (hi : i ≤ 100) :
    ∃ x : Nat, x ≤ 255 ∧ ∀ w, Rd w B 1 A n (l.flatMap eB) → Calls Try.prog 37 #[.slice A n c, .int .i64 i] w fun e w' => e = .returned (.int .i64 x) ∧ w' = w := by
  by_cases h : i < n
  · obtain ⟨x, hx⟩ := some_of_lt (l := l) (k := i) (by omega)
    have hxb := x.toNat_lt
    refine ⟨x.toNat, by omega, ?_⟩
    intro w hr
    obtain ⟨b, off, x', rfl, _, hx', hcx⟩ := hr.byte hl h
    obtain rfl : x = x' := by rw [hx] at hx'; exact Option.some.inj hx'
    have h1 : (i : Int) < (n : Int) := by omega
    go_enter Try.func37, Try.ntmps37
    go_wp2
    go_ret
    exact ⟨rfl, rfl⟩
  · have h1 : ¬ (i : Int) < (n : Int) := by omega
    refine ⟨(i * 7 + n) % 256, by omega, ?_⟩
    intro w hr
    go_enter Try.func37, Try.ntmps37
    go_wp2
    go_ret
    exact ⟨congrArg (fun z => Ending.returned (Value.int IntKind.i64 z)) (by push_cast; rfl), rfl⟩

theorem R_Net.fl {w : World} {B : Nat} {nx : Int} {s : Value} {n : NetD} (h : R_Net w B (.agg #[.int .i64 nx, s]) n) : R_FlightS w B s n.list := by
  obtain ⟨u, e, hr⟩ := h
  simp at e
  rw [e.2]
  exact hr
theorem R_Net.at {w : World} {B m c : Nat} {A : Option Addr} {nx : Int} {n : NetD} (h : R_Net w B (.agg #[.int .i64 nx, .slice A m c]) n) {k : Nat} {x : FlightD} (hx : n.list[k]? = some x) :
    ∃ b off, A = some ⟨b, off, none⟩ ∧ b < B ∧ w.cell? ⟨b, off + k * 3, none⟩ = some (.int .i64 x.id) ∧ w.cell? ⟨b, off + k * 3 + 1, none⟩ = some (.int .i64 x.to) ∧ w.cell? ⟨b, off + k * 3 + 2, none⟩ = some (.string x.bytes) := by
  obtain ⟨A', m', c', e, hl, -, -, hr⟩ := h.fl
  injection e with e1 e2 e3
  subst e1 e2 e3
  obtain ⟨b, off, y, hA, hb, hy, h0, h1, h2⟩ := hr.Flight hl (by rw [← hl]; exact (List.getElem?_eq_some_iff.1 hx).1)
  obtain rfl : x = y := by rw [hx] at hy; exact Option.some.inj hy
  exact ⟨b, off, hA, hb, h0, h1, h2⟩

set_option maxRecDepth 100000 in
theorem eqlFlight (x : FlightD) (w : World) : (binOp .eql 43 (.agg #[.int .i64 x.id, .int .i64 x.to, .string x.bytes]) (.agg #[.int .i64 x.id, .int .i64 x.to, .string x.bytes])).run Try.prog w = .ok (.bool true) w := by
  have u3 := Try.underlying3
  have a3 := Try.isAgg3
  have z3 := Try.sizeOf3
  have u4 := Try.underlying9
  have a4 := Try.isAgg9
  have z4 := Try.sizeOf9
  have hS : Try.prog.underlying 43 = some (.struct (Try.prog.fieldsOf 43)) := by kernel_rfl
  have hp : Try.prog.stoodInHeld 43 = false := by kernel_rfl
  rw [run_eql_struct, show (10000 : Nat) = 9999 + 1 from rfl, run_equalIn_agg w 9999 43 _ _ hS hp]
  simp only [Program.fieldsOf, Try.underlying43]
  clear hS hp
  go_simp
set_option maxRecDepth 100000 in
theorem neqFlight (x : FlightD) (w : World) : (binOp .neq 43 (.agg #[.int .i64 x.id, .int .i64 x.to, .string x.bytes]) (.agg #[.int .i64 x.id, .int .i64 x.to, .string x.bytes])).run Try.prog w = .ok (.bool false) w := by
  have u3 := Try.underlying3
  have a3 := Try.isAgg3
  have z3 := Try.sizeOf3
  have u4 := Try.underlying9
  have a4 := Try.isAgg9
  have z4 := Try.sizeOf9
  have hS : Try.prog.underlying 43 = some (.struct (Try.prog.fieldsOf 43)) := by kernel_rfl
  have hp : Try.prog.stoodInHeld 43 = false := by kernel_rfl
  rw [run_neq_struct, show (10000 : Nat) = 9999 + 1 from rfl, run_equalIn_agg w 9999 43 _ _ hS hp]
  simp only [Program.fieldsOf, Try.underlying43]
  clear hS hp
  go_simp
set_option maxRecDepth 100000 in
set_option maxHeartbeats 1000000 in
theorem sameFlights_same (u v : Value) (l : List FlightD) (w : World) (X Y : Nat) (hu : R_FlightS w X u l) (hv : R_FlightS w Y v l) (hn : l.length ≤ 1000000) :
    Calls Try.prog 36 #[u, v] w fun e w' => e = .returned (.bool true) ∧ Still w w' := by
  obtain ⟨A, n, c, rfl, hl, -, -, hx⟩ := hu
  obtain ⟨B, m, d, rfl, hl2, -, -, hy⟩ := hv
  have hmm : n = m := by rw [← hl]; exact hl2
  subst hmm
  rw [hl] at hn
  have Hl := Lib.hid hl
  clear hl hl2
  go_enter Try.func36, Try.ntmps36
  go_wp2
  go_loopw [5] (fun i wr => ∃ k : Nat, k ≤ n ∧ i = .int .i64 k ∧ Still w wr) (fun i _ => n - (intOf i).toNat)
  case atStart => exact ⟨0, by omega, rfl, Still.refl _⟩
  case round =>
    obtain ⟨k, hk, rfl, hst⟩ := hrel
    by_cases hlt : k < n
    · obtain ⟨b, off, x, rfl, _, hx1, hc0, hc1, hc2⟩ := (hst.rd hx).Flight Hl.out hlt
      obtain ⟨b', off', y, rfl, _, hy1, hd0, hd1, hd2⟩ := (hst.rd hy).Flight Hl.out hlt
      obtain rfl : x = y := by rw [hx1] at hy1; exact Option.some.inj hy1
      have hlt' : (k : Int) < (n : Int) := by omega
      clear hx1 hy1 hx hy
      have hq : ∀ w, (binOp .neq 43 (.agg #[.int .i64 x.id, .int .i64 x.to, .string x.bytes]) (.agg #[.int .i64 x.id, .int .i64 x.to, .string x.bytes])).run Try.prog w = .ok (.bool false) w := fun w => neqFlight x w
      go_wp2
      go_quiet (fail)
      go_wp2
      go_roundw
      case rel => exact ⟨k + 1, by omega, by go_num, by repeat' (first | with_reducible exact Still.refl _ | with_reducible assumption | with_reducible refine Still.drewN ?_ _ | with_reducible refine Still.drew ?_ | with_reducible refine Still.trans ?_ (by with_reducible assumption))⟩
      case measure => simp [intOf]; omega
    · obtain rfl : n = k := by omega
      go_wp2
      go_ret
      exact ⟨rfl, hst⟩
end Go.Proofs.Ytllljddojncemaa
