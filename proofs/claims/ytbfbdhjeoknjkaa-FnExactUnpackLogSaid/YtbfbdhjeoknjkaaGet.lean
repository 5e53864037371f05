/-
  GetNum, the program's and the reference's, walked: both compute the plain 'getNum'.
-/
import Derived.Test.YtbfbdhjeoknjkaaNum
import Derived.Test.YtbfbdhjeoknjkaaSmall
namespace Go.Proofs.Ytbfbdhjeoknjkaa
open Go.RowKit

/-- The three results of GetNum. -/
def gnV : Option (Nat × Nat) → Value
  | none => .tuple #[.int .i64 0, .int .i64 0, .bool false]
  | some (n, e) => .tuple #[.int .i64 (n : Nat), .int .i64 (e : Nat), .bool true]

theorem gl_end (l : List UInt8) (a k z : Nat) (h : ¬ a + k < l.length) (fuel : Nat) : getLoop l a fuel k z = none := by
  cases fuel with
  | zero => rfl
  | succ f => simp only [getLoop]; rw [if_neg h]
theorem gl_more {l : List UInt8} {a k z fuel : Nat} {x : UInt8} (hx : l[a + k]? = some x) (hd : ¬ x.toNat < 128) : getLoop l a (fuel + 1) k z = getLoop l a fuel (k + 1) (z + (x.toNat - 128) * 128 ^ k) := by
  have hl : a + k < l.length := (List.getElem?_eq_some_iff.1 hx).1
  simp only [getLoop, List.getD_eq_getElem?_getD, hx, Option.getD_some]
  rw [if_pos hl, if_neg hd]
theorem gl_last {l : List UInt8} {a k z fuel : Nat} {x : UInt8} (hx : l[a + k]? = some x) (hd : x.toNat < 128) (hz : ¬ (x.toNat = 0 ∧ 0 < k)) : getLoop l a (fuel + 1) k z = some (z + x.toNat * 128 ^ k, a + k + 1) := by
  have hl : a + k < l.length := (List.getElem?_eq_some_iff.1 hx).1
  simp only [getLoop, List.getD_eq_getElem?_getD, hx, Option.getD_some]
  rw [if_pos hl, if_pos hd, if_neg hz]
theorem gl_zero {l : List UInt8} {a k z fuel : Nat} {x : UInt8} (hx : l[a + k]? = some x) (hz : x.toNat = 0 ∧ 0 < k) : getLoop l a (fuel + 1) k z = none := by
  have hl : a + k < l.length := (List.getElem?_eq_some_iff.1 hx).1
  simp only [getLoop, List.getD_eq_getElem?_getD, hx, Option.getD_some]
  rw [if_pos hl, if_pos (by omega), if_pos hz]

/-- The bounds of one digit more. -/
theorem digit_bound {z d k : Nat} (hz : z < 128 ^ k) (hd : d < 128) (hk : k < 9) : z + d * 128 ^ k < 128 ^ (k + 1) ∧ z + d * 128 ^ k ≤ 9223372036854775807 := by
  have h1 : (128 : Nat) ^ (k + 1) = 128 ^ k * 128 := Nat.pow_succ ..
  have h2 : d * 128 ^ k ≤ 127 * 128 ^ k := Nat.mul_le_mul_right _ (by omega)
  have h3 : (128 : Nat) ^ (k + 1) ≤ 128 ^ 9 := Nat.pow_le_pow_right (by omega) (by omega)
  have h9 : (128 : Nat) ^ 9 = 9223372036854775808 := by decide
  omega
theorem unit_bound {k : Nat} (hk : k < 9) : (128 : Nat) ^ k ≤ 72057594037927936 := by
  have h3 : (128 : Nat) ^ k ≤ 128 ^ 8 := Nat.pow_le_pow_right (by omega) (by omega)
  have h9 : (128 : Nat) ^ 8 = 72057594037927936 := by decide
  omega

theorem cast_digit (z d p : Nat) : (z : Int) + (d : Int) % 128 * (p : Int) = ((z + d % 128 * p : Nat) : Int) := by push_cast; rfl
theorem cast_digit' (z d k : Nat) (hd : d < 128) : ((z + d % 128 * 128 ^ k : Nat) : Int) = ((z + d * 128 ^ k : Nat) : Int) := by rw [Nat.mod_eq_of_lt hd]
theorem cast_digit'' (d : Nat) (h : ¬ d < 128) (hd : d < 256) : d % 128 = d - 128 := by omega
theorem cast_unit {p : Nat} (h : p * 128 ≤ 72057594037927936) : wrap64 ((p : Int) * 128) = ((p * 128 : Nat) : Int) := by
  rw [IntWalk.wrap64_in _ (by omega)]
  push_cast
  rfl
theorem cast_shift {z d k : Nat} (h : z + d % 128 * 128 ^ k ≤ 9223372036854775807) : wrap64 ((z : Int) + wrap64 ((d : Int) % 128 * 2 ^ (7 * k))) = ((z + d % 128 * 128 ^ k : Nat) : Int) := by
  have h1 : (2 : Int) ^ (7 * k) = ((128 ^ k : Nat) : Int) := by
    rw [Int.pow_mul, Int.natCast_pow]
    rfl
  rw [h1]
  have h2 := cast_digit z d (128 ^ k)
  have h3 : (0 : Int) ≤ (d : Int) % 128 * ((128 ^ k : Nat) : Int) := Int.natCast_nonneg ((d % 128) * 128 ^ k)
  generalize (d : Int) % 128 * ((128 ^ k : Nat) : Int) = q at *
  generalize z + d % 128 * 128 ^ k = r at *
  rw [IntWalk.wrap64_in q (by omega), IntWalk.wrap64_in _ (by omega)]
  exact h2
theorem ret3 {a b : Int} {c : Bool} {x y : Nat} (h1 : a = (x : Int)) (h2 : b = (y : Int)) (h3 : c = true) : Ending.returned (.tuple #[.int .i64 a, .int .i64 b, .bool c]) = .returned (gnV (some (x, y))) := by rw [h1, h2, h3]; rfl

set_option maxRecDepth 100000 in
set_option maxHeartbeats 2000000 in
theorem getNum_s (A : Option Addr) (n c : Nat) (l : List UInt8) (a : Int) (w : World) (B : Nat) (hr : Rd w B 1 A n (l.flatMap eB)) (hl : l.length = n) (hn : n ≤ 4611686018427387904) :
    Calls Try.prog 66 #[.slice A n c, .int .i64 a] w fun e w' => e = .returned (gnV (getNum l a)) ∧ Still w w' := by
  by_cases ha : 0 ≤ a ∧ a < n
  · obtain ⟨h0, h1⟩ := ha
    have hg : Hid (getNum l a = getLoop l a.toNat 9 0 0) := by
      show _ = _
      unfold getNum
      rw [if_pos ⟨h0, by omega⟩]
      rfl
    obtain ⟨a, rfl⟩ := Int.eq_ofNat_of_zero_le h0
    rw [Int.toNat_natCast] at hg
    generalize getNum l (a : Int) = res at *
    have Hl := Lib.hid hl
    clear hl
    have hb1 : decide ((a : Int) < 0) = false := by simp
    have hb2 : decide (n ≤ a) = false := by simp; omega
    have hb3 : decide ((n : Int) ≤ (a : Int)) = false := by simp; omega
    go_enter Try.func66, Try.ntmps66
    go_wp2
    go_loopw [7, 8, 9] (fun xv uv kv wr => ∃ (k z : Nat) (u : Int), k ≤ 9 ∧ kv = .int .i64 k ∧ xv = .int .i64 z ∧ uv = .int .i64 u ∧ Hid (k ≤ 8 → u = ((128 ^ k : Nat) : Int)) ∧ Hid (res = getLoop l a (9 - k) k z) ∧ Hid (z < 128 ^ k) ∧ Still w wr) (fun _ _ kv _ => 9 - (intOf kv).toNat)
    case atStart => exact ⟨0, 0, 1, by omega, rfl, rfl, rfl, fun _ => rfl, hg.out, Nat.one_pos, Still.refl _⟩
    case round =>
      obtain ⟨k, z, u, hk, rfl, rfl, rfl, hu, hres, hz, hst⟩ := hrel
      by_cases hk9 : k < 9
      · by_cases hlt : a + k < n
        · obtain ⟨b, off, x, rfl, _, hx1, hc⟩ := (hst.rd hr).byte Hl.out hlt
          have hu1 := hu.out (by omega)
          have hub := unit_bound hk9
          have hd1 := digit_bound hz.out (Nat.mod_lt x.toNat (by omega : 0 < 128)) hk9
          have hxb : (x.toNat : Int) < 256 := by have := UInt8.toNat_lt x; omega
          have hf : 9 - k = (9 - (k + 1)) + 1 := by omega
          have Hz : Hid ((z : Int) + (x.toNat : Int) % 128 * u = ((z + x.toNat % 128 * 128 ^ k : Nat) : Int)) := by rw [hu1]; exact cast_digit _ _ _
          have hp1 : (0 : Int) ≤ (x.toNat : Int) % 128 * u := by rw [hu1]; exact Int.natCast_nonneg ((x.toNat % 128) * 128 ^ k)
          have hp2 : (z : Int) + (x.toNat : Int) % 128 * u ≤ 9223372036854775807 := by rw [Hz.out]; have := hd1.2; omega
          have hub1 : 0 ≤ u ∧ u ≤ 72057594037927936 := by rw [hu1]; omega
          have hun : Hid (k + 1 ≤ 8 → wrap64 (u * 128) = ((128 ^ (k + 1) : Nat) : Int)) := by
            intro h8
            have hub2 := unit_bound (k := k + 1) (by omega)
            rw [Nat.pow_succ] at hub2 ⊢
            rw [hu1]
            exact cast_unit hub2
          have hzn := Lib.hid hd1.1
          have Hx1 := Lib.hid hx1
          have Hf := Lib.hid hf
          clear hx1 hr hu1 hub hd1 hf hu
          obtain ⟨hub2, hub3⟩ := hub1
          by_cases hd : x.toNat < 128
          · by_cases hz0 : x.toNat = 0 ∧ 0 < k
            · have hres' : Hid (res = none) := by rw [hres.out, Hf.out, gl_zero Hx1.out hz0]; rfl
              obtain ⟨hz1, hz2⟩ := hz0
              have hz3 : ((x.toNat : Int) == 0) = true := by simp [hz1]
              have HZ := Lib.hid hz1
              clear hz1
              go_wp2
              go_ret3
              exact ⟨by rw [hres'.out]; rfl, hst⟩
            · have hres' : Hid (res = some (z + x.toNat * 128 ^ k, a + k + 1)) := by rw [hres.out, Hf.out, gl_last Hx1.out hd hz0]; rfl
              by_cases hz1 : x.toNat = 0
              · have hk0 : k = 0 := by omega
                have hz3 : ((x.toNat : Int) == 0) = true := by simp [hz1]
                have hk1 : k ≤ 0 := by omega
                clear hz1 hz0 hk0
                go_wp2
                go_ret3
                exact ⟨by rw [hres'.out]; exact ret3 (by rw [Hz.out, cast_digit' _ _ _ hd]) (by omega) rfl, hst⟩
              · have hz3 : ((x.toNat : Int) == 0) = false := by simp; omega
                clear hz1 hz0
                go_wp2
                go_ret3
                exact ⟨by rw [hres'.out]; exact ret3 (by rw [Hz.out, cast_digit' _ _ _ hd]) (by omega) rfl, hst⟩
          · have hres' : Hid (res = getLoop l a (9 - (k + 1)) (k + 1) (z + x.toNat % 128 * 128 ^ k)) := by rw [hres.out, Hf.out, gl_more Hx1.out hd, cast_digit'' _ hd (by omega)]; rfl
            clear hres
            go_wp2
            go_roundw
            case rel => exact ⟨k + 1, _, _, by omega, by go_num, by rw [Hz.out], rfl, hun.out, hres'.out, hzn.out, hst⟩
            case measure => simp [intOf]; omega
        · have hres' : Hid (res = none) := by rw [hres.out, gl_end _ _ _ _ (by rw [Hl.out]; exact hlt)]; rfl
          clear hres
          go_wp2
          go_ret3
          exact ⟨by rw [hres'.out]; rfl, hst⟩
      · obtain rfl : k = 9 := by omega
        have hres' : Hid (res = none) := hres.out
        clear hres
        go_wp2
        go_ret3
        exact ⟨by rw [hres'.out]; rfl, hst⟩
  · have hg : Hid (getNum l a = none) := by
      show _ = _
      unfold getNum
      rw [if_neg (by omega)]
    generalize getNum l a = res at *
    clear hl
    by_cases h0 : 0 ≤ a
    · have h1 : (n : Int) ≤ a := by omega
      clear ha
      go_enter Try.func66, Try.ntmps66
      go_wp2
      go_ret3
      exact ⟨by rw [hg.out]; rfl, Still.refl _⟩
    · have h1 : a < 0 := by omega
      clear ha h0
      go_enter Try.func66, Try.ntmps66
      go_wp2
      go_ret3
      exact ⟨by rw [hg.out]; rfl, Still.refl _⟩
set_option maxRecDepth 100000 in
set_option maxHeartbeats 2000000 in
theorem getNum_i (A : Option Addr) (n c : Nat) (l : List UInt8) (a : Int) (w : World) (B : Nat) (hr : Rd w B 1 A n (l.flatMap eB)) (hl : l.length = n) (hn : n ≤ 4611686018427387904) :
    Calls Try.prog 109 #[.slice A n c, .int .i64 a] w fun e w' => e = .returned (gnV (getNum l a)) ∧ Still w w' := by
  by_cases ha : 0 ≤ a ∧ a < n
  · obtain ⟨h0, h1⟩ := ha
    have hg : Hid (getNum l a = getLoop l a.toNat 9 0 0) := by
      show _ = _
      unfold getNum
      rw [if_pos ⟨h0, by omega⟩]
      rfl
    obtain ⟨a, rfl⟩ := Int.eq_ofNat_of_zero_le h0
    rw [Int.toNat_natCast] at hg
    generalize getNum l (a : Int) = res at *
    have Hl := Lib.hid hl
    clear hl
    have hin : inB (a : Int) 0 ((n : Int) - 1) = true := by simp [inB]; omega
    go_enter Try.func109, Try.ntmps109
    go_wp2_with (go_at_call 77; refine (from_any _ _ _ _).mono ?_; rintro e w' ⟨rfl, rfl⟩)
    go_loopw [7, 8] (fun xv kv wr => ∃ (k z : Nat), k ≤ 9 ∧ kv = .int .i64 k ∧ xv = .int .i64 z ∧ Hid (res = getLoop l a (9 - k) k z) ∧ Hid (z < 128 ^ k) ∧ Still w wr) (fun _ kv _ => 9 - (intOf kv).toNat)
    case atStart => exact ⟨0, 0, by omega, rfl, rfl, hg.out, Nat.one_pos, Still.refl _⟩
    case round =>
      obtain ⟨k, z, hk, rfl, rfl, hres, hz, hst⟩ := hrel
      by_cases hk9 : k < 9
      · by_cases hlt : a + k < n
        · obtain ⟨b, off, x, rfl, _, hx1, hc⟩ := (hst.rd hr).byte Hl.out hlt
          have hd1 := digit_bound hz.out (Nat.mod_lt x.toNat (by omega : 0 < 128)) hk9
          have hxb : (x.toNat : Int) < 256 := by have := UInt8.toNat_lt x; omega
          have hf : 9 - k = (9 - (k + 1)) + 1 := by omega
          have hzn := Lib.hid hd1.1
          have Hx1 := Lib.hid hx1
          have Hf := Lib.hid hf
          have hd2 := hd1.2
          have Hw : Hid (wrap64 ((z : Int) + wrap64 ((x.toNat : Int) % 128 * 2 ^ (7 * k))) = ((z + x.toNat % 128 * 128 ^ k : Nat) : Int)) := cast_shift hd2
          clear hx1 hr hd1 hf hd2
          by_cases hd : x.toNat < 128
          · by_cases hz0 : x.toNat = 0 ∧ 0 < k
            · have hres' : Hid (res = none) := by rw [hres.out, Hf.out, gl_zero Hx1.out hz0]; rfl
              obtain ⟨hz1, hz2⟩ := hz0
              have hz3 : ((x.toNat : Int) == 0) = true := by simp [hz1]
              have HZ := Lib.hid hz1
              clear hz1
              go_wp2
              go_ret3
              exact ⟨by rw [hres'.out]; rfl, hst⟩
            · have hres' : Hid (res = some (z + x.toNat * 128 ^ k, a + k + 1)) := by rw [hres.out, Hf.out, gl_last Hx1.out hd hz0]; rfl
              by_cases hz1 : x.toNat = 0
              · have hk0 : k = 0 := by omega
                have hz3 : ((x.toNat : Int) == 0) = true := by simp [hz1]
                have hk1 : k ≤ 0 := by omega
                clear hz1 hz0 hk0
                go_wp2
                go_ret3
                exact ⟨by rw [hres'.out]; exact ret3 (by rw [Hw.out, cast_digit' _ _ _ hd]) (by omega) rfl, hst⟩
              · have hz3 : ((x.toNat : Int) == 0) = false := by simp; omega
                clear hz1 hz0
                go_wp2
                go_ret3
                exact ⟨by rw [hres'.out]; exact ret3 (by rw [Hw.out, cast_digit' _ _ _ hd]) (by omega) rfl, hst⟩
          · have hres' : Hid (res = getLoop l a (9 - (k + 1)) (k + 1) (z + x.toNat % 128 * 128 ^ k)) := by rw [hres.out, Hf.out, gl_more Hx1.out hd, cast_digit'' _ hd (by omega)]; rfl
            clear hres
            go_wp2
            go_roundw
            case rel => exact ⟨k + 1, _, by omega, by go_num, by rw [Hw.out], hres'.out, hzn.out, hst⟩
            case measure => simp [intOf]; omega
        · have hres' : Hid (res = none) := by rw [hres.out, gl_end _ _ _ _ (by rw [Hl.out]; exact hlt)]; rfl
          clear hres
          go_wp2
          go_ret3
          exact ⟨by rw [hres'.out]; rfl, hst⟩
      · obtain rfl : k = 9 := by omega
        have hres' : Hid (res = none) := hres.out
        clear hres
        go_wp2
        go_ret3
        exact ⟨by rw [hres'.out]; rfl, hst⟩
  · have hg : Hid (getNum l a = none) := by
      show _ = _
      unfold getNum
      rw [if_neg (by omega)]
    generalize getNum l a = res at *
    clear hl
    have hin : inB a 0 ((n : Int) - 1) = false := by simp [inB]; omega
    clear ha
    go_enter Try.func109, Try.ntmps109
    go_wp2_with (go_at_call 77; refine (from_any _ _ _ _).mono ?_; rintro e w' ⟨rfl, rfl⟩)
    go_ret3
    exact ⟨by rw [hg.out]; rfl, Still.refl _⟩
end Go.Proofs.Ytbfbdhjeoknjkaa
