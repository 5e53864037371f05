/-
  The two check sums, walked: both return the plain 'crc'.
-/
import Derived.Test.YtikkfkomieedmaaBase
import Derived.Test.YtikkfkomieedmaaMath
import Derived.Test.YtikkfkomieedmaaChecked
namespace Go.Proofs.Ytikkfkomieedmaa
open Go.RowKit

theorem int_i64 {a b : Int} (h : a = b) : Value.int .i64 a = Value.int .i64 b := by rw [h]
theorem int_u32 {a b : Int} (h : a = b) : Value.int .u32 a = Value.int .u32 b := by rw [h]

theorem u32_and1 {z : Nat} (h : z < 4294967296) : bits BinOp.and IntKind.u32 (z : Int) 1 = ((z % 2 : Nat) : Int) := by
  have := u32_and_nat z 1 h (by omega)
  rw [nat_mask1] at this
  exact this

set_option maxRecDepth 100000 in
set_option maxHeartbeats 400000 in
theorem crc_s (A : Option Addr) (n c : Nat) (l : List UInt8) (w : World) (B : Nat) (hr : Rd w B 1 A n (l.flatMap eB)) (hl : l.length = n) (hn : n ≤ 9223372036854775807) :
    Calls Try.prog 39 #[.slice A n c] w fun e w' => e = .returned (.int .i64 (crc l : Nat)) ∧ Still w w' := by
  have Hl := Lib.hid hl
  clear hl
  go_enter Try.func39, Try.ntmps39
  go_wp2
  go_loopw [3, 4] (fun r i wr => ∃ k : Nat, k ≤ n ∧ i = .int .i64 k ∧ r = .int .i64 (crcState (l.take k) : Nat) ∧ Still w wr) (fun _ i _ => n - (intOf i).toNat)
  case atStart => exact ⟨0, by omega, rfl, rfl, Still.refl _⟩
  case round =>
    obtain ⟨k, hk, rfl, rfl, hst⟩ := hrel
    have hlt32 : (crcState (l.take k) : Int) ≤ 4294967295 := by have := crcState_lt (l.take k); omega
    by_cases hlt : k < n
    · obtain ⟨b, off, x, rfl, _, hx1, hc⟩ := (hst.rd hr).byte Hl.out hlt
      have hxb : (x.toNat : Int) < 256 := by have := UInt8.toNat_lt x; omega
      have Hs := Lib.hid (crcState_snoc (l.take k) x)
      rw [← take_snoc hx1] at Hs
      clear hx1 hr
      generalize hs1 : crcState (l.take (k + 1)) = s1 at *
      have Hs1 := Lib.hid hs1
      clear hs1
      generalize crcState (l.take k) = s0 at *
      obtain ⟨wo, rfl⟩ : ∃ wo : World, wo = wr := ⟨_, rfl⟩
      go_wp2
      go_loopw [3, 5] (fun r j w2 => ∃ (i z : Nat), i ≤ 8 ∧ (z : Int) ≤ 4294967295 ∧ j = .int .i64 i ∧ r = .int .i64 (z : Nat) ∧ Hid (crcIt (8 - i) z = s1) ∧ Still w w2) (fun _ j _ => 8 - (intOf j).toNat)
      case atStart =>
        refine ⟨0, s0 ^^^ x.toNat, by omega, by have := xor_lt32 (a := s0) (b := x.toNat) (by omega) (by omega); omega, rfl, int_i64 ?_, Hs.out.symm, hst⟩
        rw [i64_xor_nat _ _ (by omega) (by omega)]
      case round =>
        obtain ⟨i, z, hi, hz, rfl, rfl, hit, hst2⟩ := hrel
        by_cases hi8 : i < 8
        · have hit' : Hid (crcIt (8 - (i + 1)) (crcStep z) = s1) := by
            have h := hit.out
            rw [show 8 - i = (8 - (i + 1)) + 1 from by omega] at h
            exact h
          have hz' : (crcStep z : Int) ≤ 4294967295 := by have := crcStep_lt (n := z) (by omega); omega
          clear hit
          go_wp2
          · have ho : z % 2 = 1 := by have := WalkArith.int_eq (by assumption : ((z : Int) % 2 == 1) = true); omega
            go_roundw
            case rel => exact ⟨i + 1, crcStep z, by omega, hz', by go_num, int_i64 (by rw [crcStep_odd ho, show ((z : Int) / 2) = ((z / 2 : Nat) : Int) from by omega]; exact i64_xor_nat _ 3988292384 (by omega) (by omega)), hit', hst2⟩
            case measure => simp [intOf]; omega
          · have ho : ¬ z % 2 = 1 := by have := WalkArith.int_ne (by assumption : ((z : Int) % 2 == 1) = false); omega
            go_roundw
            case rel => exact ⟨i + 1, crcStep z, by omega, hz', by go_num, int_i64 (by rw [crcStep_even ho]; omega), hit', hst2⟩
            case measure => simp [intOf]; omega
        · have hs1 : z = s1 := by
            have h := hit.out
            rw [show 8 - i = 0 from by omega] at h
            exact h
          subst hs1
          clear hit Hs
          go_wp2
          go_roundw
          case rel => exact ⟨k + 1, by omega, by go_num, by rw [Hs1.out], hst2⟩
          case measure => simp [intOf]; omega
    · go_wp2
      go_ret
      refine ⟨?_, hst⟩
      obtain rfl : k = n := by omega
      rw [List.take_of_length_le (by rw [Hl.out]; omega)]
      refine congrArg Ending.returned (int_i64 ?_)
      have h1 : (crcState l : Int) ≤ 4294967295 := by have := crcState_lt l; omega
      have := i64_xor_nat (crcState l) 4294967295 (by omega) (by omega)
      exact this

set_option maxRecDepth 100000 in
set_option maxHeartbeats 400000 in
theorem crc_i (A : Option Addr) (n c : Nat) (l : List UInt8) (w : World) (B : Nat) (hr : Rd w B 1 A n (l.flatMap eB)) (hl : l.length = n) (hn : n ≤ 9223372036854775807) :
    Calls Try.prog 28 #[.slice A n c] w fun e w' => e = .returned (.int .i64 (crc l : Nat)) ∧ Still w w' := by
  have Hl := Lib.hid hl
  clear hl
  go_enter Try.func28, Try.ntmps28
  go_wp2
  go_loopw [3, 9] (fun r i wr => ∃ k : Nat, k ≤ n ∧ i = .int .i64 k ∧ r = .int .u32 (crcState (l.take k) : Nat) ∧ Still w wr) (fun _ i _ => n - (intOf i).toNat)
  case atStart => exact ⟨0, by omega, rfl, rfl, Still.refl _⟩
  case round =>
    obtain ⟨k, hk, rfl, rfl, hst⟩ := hrel
    have hlt32 : (crcState (l.take k) : Int) ≤ 4294967295 := by have := crcState_lt (l.take k); omega
    by_cases hlt : k < n
    · obtain ⟨b, off, x, rfl, _, hx1, hc⟩ := (hst.rd hr).byte Hl.out hlt
      have hxb : (x.toNat : Int) < 256 := by have := UInt8.toNat_lt x; omega
      have Hs := Lib.hid (crcState_snoc (l.take k) x)
      rw [← take_snoc hx1] at Hs
      clear hx1 hr
      generalize hs1 : crcState (l.take (k + 1)) = s1 at *
      have Hs1 := Lib.hid hs1
      clear hs1
      generalize crcState (l.take k) = s0 at *
      obtain ⟨wo, rfl⟩ : ∃ wo : World, wo = wr := ⟨_, rfl⟩
      go_wp2
      go_loopw [3, 17] (fun r j w2 => ∃ (i z : Nat), i ≤ 8 ∧ (z : Int) ≤ 4294967295 ∧ j = .int .i64 i ∧ r = .int .u32 (z : Nat) ∧ Hid (crcIt (8 - i) z = s1) ∧ Still w w2) (fun _ j _ => 8 - (intOf j).toNat)
      case atStart =>
        refine ⟨0, s0 ^^^ x.toNat, by omega, by have := xor_lt32 (a := s0) (b := x.toNat) (by omega) (by omega); omega, rfl, int_u32 ?_, Hs.out.symm, hst⟩
        rw [u32_xor_nat _ _ (by omega) (by omega)]
      case round =>
        obtain ⟨i, z, hi, hz, rfl, rfl, hit, hst2⟩ := hrel
        by_cases hi8 : i < 8
        · have hit' : Hid (crcIt (8 - (i + 1)) (crcStep z) = s1) := by
            have h := hit.out
            rw [show 8 - i = (8 - (i + 1)) + 1 from by omega] at h
            exact h
          have hz' : (crcStep z : Int) ≤ 4294967295 := by have := crcStep_lt (n := z) (by omega); omega
          clear hit
          go_wp2
          · have ho : z % 2 = 1 := by have := WalkArith.int_eq (by assumption : (bits BinOp.and IntKind.u32 (z : Int) 1 == 1) = true); rw [u32_and1 (by omega)] at this; omega
            go_roundw
            case rel => exact ⟨i + 1, crcStep z, by omega, hz', by go_num, int_u32 (by rw [crcStep_odd ho, show ((z : Int) / 2) = ((z / 2 : Nat) : Int) from by omega]; exact u32_xor_nat _ 3988292384 (by omega) (by omega)), hit', hst2⟩
            case measure => simp [intOf]; omega
          · have ho : ¬ z % 2 = 1 := by have := WalkArith.int_ne (by assumption : (bits BinOp.and IntKind.u32 (z : Int) 1 == 1) = false); rw [u32_and1 (by omega)] at this; omega
            go_roundw
            case rel => exact ⟨i + 1, crcStep z, by omega, hz', by go_num, int_u32 (by rw [crcStep_even ho]; omega), hit', hst2⟩
            case measure => simp [intOf]; omega
        · have hs1 : z = s1 := by
            have h := hit.out
            rw [show 8 - i = 0 from by omega] at h
            exact h
          subst hs1
          clear hit Hs
          go_wp2
          go_roundw
          case rel => exact ⟨k + 1, by omega, by go_num, by rw [Hs1.out], hst2⟩
          case measure => simp [intOf]; omega
    · go_wp2
      go_ret
      refine ⟨?_, hst⟩
      obtain rfl : k = n := by omega
      rw [List.take_of_length_le (by rw [Hl.out]; omega)]
      refine congrArg Ending.returned (int_i64 ?_)
      have h1 : (crcState l : Int) ≤ 4294967295 := by have := crcState_lt l; omega
      have h2 := u32_xor_nat 4294967295 (crcState l) (by omega) (by omega)
      have h3 : (crc l : Int) ≤ 4294967295 := by have := crc_lt l; omega
      have h4 : bits BinOp.xor IntKind.u32 IntKind.u32.max (crcState l : Int) = (crc l : Nat) := by rw [crc, Nat.xor_comm, ← h2]; rfl
      rw [h4]
      exact IntWalk.wrap64_in _ (by omega)
end Go.Proofs.Ytikkfkomieedmaa
