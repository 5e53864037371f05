/-
  The plain functions that the byte functions of the program and of the reference compute, and the laws on them. No program in sight.
-/
import Derived.Laws.BitsAllLaws
import Derived.Laws.BitsLemmas
namespace Go.Proofs.Ytbfbdhjeoknjkaa

/-! ### numbers as bytes -/

def putNum (x : Nat) : List UInt8 := if x > 127 then UInt8.ofNat (x % 128 + 128) :: putNum (x / 128) else [UInt8.ofNat x]
termination_by x
decreasing_by omega

/-- 'PutNum' of any int: nothing of a negative one. -/
def putNumI (x : Int) : List UInt8 := if x < 0 then [] else putNum x.toNat

/-- The bytes from place at + i on read as a number, of which the first i bytes gave x. -/
def getLoop (b : List UInt8) (at_ : Nat) : Nat → Nat → Nat → Option (Nat × Nat)
  | 0, _, _ => none
  | fuel + 1, i, x => if at_ + i < b.length then
      (if (b.getD (at_ + i) 0).toNat < 128 then
        (if (b.getD (at_ + i) 0).toNat = 0 ∧ 0 < i then none else some (x + (b.getD (at_ + i) 0).toNat * 128 ^ i, at_ + i + 1))
      else getLoop b at_ fuel (i + 1) (x + ((b.getD (at_ + i) 0).toNat - 128) * 128 ^ i))
    else none

def getNumN (b : List UInt8) (at_ : Nat) : Option (Nat × Nat) := getLoop b at_ 9 0 0
/-- 'GetNum': the number and the place behind it, or none. -/
def getNum (b : List UInt8) (at_ : Int) : Option (Nat × Nat) := if 0 ≤ at_ ∧ at_ < b.length then getNumN b at_.toNat else none

theorem getLoop_lt (b : List UInt8) (a : Nat) : ∀ fuel i x, x < 128 ^ i → i + fuel ≤ 9 → ∀ n e, getLoop b a fuel i x = some (n, e) → n < 128 ^ 9 ∧ a + i < e ∧ e ≤ b.length ∧ e ≤ a + 9 := by
  intro fuel
  induction fuel with
  | zero => intro i x _ _ n e h; simp [getLoop] at h
  | succ fuel ih =>
    intro i x hx hi n e h
    simp only [getLoop] at h
    split at h
    · rename_i hlen
      have hb := UInt8.toNat_lt (b.getD (a + i) 0)
      generalize (b.getD (a + i) 0).toNat = d at *
      have hp : (128 : Nat) ^ (i + 1) = 128 ^ i * 128 := Nat.pow_succ ..
      split at h
      · split at h
        · cases h
        · injection h with h
          injection h with h1 h2
          subst h1 h2
          have hle : (128 : Nat) ^ (i + 1) ≤ 128 ^ 9 := Nat.pow_le_pow_right (by omega) (by omega)
          have : d * 128 ^ i ≤ 127 * 128 ^ i := Nat.mul_le_mul_right _ (by omega)
          refine ⟨by omega, by omega, by omega, by omega⟩
      · have hd : (d - 128) * 128 ^ i ≤ 127 * 128 ^ i := Nat.mul_le_mul_right _ (by omega)
        have := ih (i + 1) _ (by omega) (by omega) n e h
        omega
    · cases h

theorem getNum_lt {b : List UInt8} {a : Int} {n e : Nat} (h : getNum b a = some (n, e)) : 0 ≤ a ∧ (n : Int) ≤ 9223372036854775807 ∧ a < e ∧ e ≤ b.length := by
  unfold getNum at h
  split at h
  · have := getLoop_lt b a.toNat 9 0 0 (by simp) (by omega) n e h
    have h9 : (128 : Nat) ^ 9 = 9223372036854775808 := by decide
    omega
  · cases h

/-- The forms are canonical: what is read as n from a to e is n's form. -/
theorem getLoop_form (b : List UInt8) (a : Nat) : ∀ fuel i x, ∀ n e, getLoop b a fuel i x = some (n, e) →
    ∃ m, n = x + m * 128 ^ i ∧ (b.drop (a + i)).take (e - (a + i)) = putNum m ∧ (0 < i → 0 < m) ∧ a + i < e := by
  intro fuel
  induction fuel with
  | zero => intro i x n e h; simp [getLoop] at h
  | succ fuel ih =>
    intro i x n e h
    simp only [getLoop] at h
    split at h
    · rename_i hlen
      have hcons : b.drop (a + i) = b.getD (a + i) 0 :: b.drop (a + i + 1) := by
        rw [List.drop_eq_getElem_cons hlen]
        simp [List.getD_eq_getElem?_getD, List.getElem?_eq_getElem hlen]
      have hb := UInt8.toNat_lt (b.getD (a + i) 0)
      generalize hd : b.getD (a + i) 0 = d at *
      split at h
      · rename_i hlt
        split at h
        · cases h
        · rename_i hz
          injection h with h
          injection h with h1 h2
          subst h1 h2
          refine ⟨d.toNat, rfl, ?_, fun hi => ?_, by omega⟩
          · rw [hcons, show a + i + 1 - (a + i) = 1 from by omega, putNum, if_neg (by omega)]
            simp
          · rcases Nat.eq_zero_or_pos d.toNat with h0 | h0
            · exact absurd ⟨h0, hi⟩ hz
            · exact h0
      · rename_i hge
        obtain ⟨m, hm, hf, hpos, hlt⟩ := ih (i + 1) _ n e h
        have hm0 := hpos (by omega)
        refine ⟨d.toNat - 128 + m * 128, ?_, ?_, fun _ => by omega, by omega⟩
        · rw [hm, Nat.pow_succ, Nat.add_mul, Nat.add_assoc, Nat.mul_assoc, Nat.mul_comm 128 (128 ^ i)]
        · rw [hcons, show e - (a + i) = (e - (a + (i + 1))) + 1 from by omega, List.take_succ_cons, show a + i + 1 = a + (i + 1) from by omega, hf]
          rw [putNum.eq_1 (d.toNat - 128 + m * 128), if_pos (by omega)]
          congr 1
          · rw [show (d.toNat - 128 + m * 128) % 128 + 128 = d.toNat from by omega]
            simp
          · congr 1
            omega
    · cases h

theorem getNum_form {b : List UInt8} {a : Int} {n e : Nat} (h : getNum b a = some (n, e)) : (b.drop a.toNat).take (e - a.toNat) = putNum n := by
  unfold getNum at h
  split at h
  · obtain ⟨m, hm, hf, _⟩ := getLoop_form b a.toNat 9 0 0 n e h
    simp only [Nat.zero_add, Nat.pow_zero, Nat.mul_one, Nat.add_zero] at hm hf
    rw [hf, hm]
  · cases h

theorem putNum_pos (x : Nat) : 0 < (putNum x).length := by
  rw [putNum]
  split <;> simp

/-- What is written is read, whatever stands around it. -/
theorem getLoop_put (pre rest : List UInt8) : ∀ (x i fuel acc : Nat), x < 128 ^ fuel → 0 < fuel → (0 < i → 0 < x) → ∀ mid, mid.length = i →
    getLoop (pre ++ mid ++ putNum x ++ rest) pre.length fuel i acc = some (acc + x * 128 ^ i, pre.length + i + (putNum x).length) := by
  intro x
  induction x using Nat.strongRecOn with
  | ind x ih =>
    intro i fuel acc hx hf hi mid hmid
    obtain ⟨fuel, rfl⟩ : ∃ k, fuel = k + 1 := ⟨fuel - 1, by omega⟩
    have hlen : pre.length + i < (pre ++ mid ++ putNum x ++ rest).length := by
      have := putNum_pos x
      simp only [List.length_append]
      omega
    by_cases h : x > 127
    · have hp : putNum x = UInt8.ofNat (x % 128 + 128) :: putNum (x / 128) := by rw [putNum, if_pos h]
      have hat : (pre ++ mid ++ putNum x ++ rest).getD (pre.length + i) 0 = UInt8.ofNat (x % 128 + 128) := by
        rw [hp, List.append_assoc, List.append_assoc, List.getD_eq_getElem?_getD, List.getElem?_append_right (by omega), List.getElem?_append_right (by omega)]
        simp [hmid]
      have hto : (UInt8.ofNat (x % 128 + 128)).toNat = x % 128 + 128 := by
        rw [UInt8.toNat_ofNat']
        omega
      simp only [getLoop]
      rw [if_pos hlen, hat, hto, if_neg (by omega)]
      have := ih (x / 128) (by omega) (i + 1) fuel (acc + (x % 128 + 128 - 128) * 128 ^ i) (by rw [Nat.pow_succ] at hx; omega)
        (by
          rcases Nat.eq_zero_or_pos fuel with h0 | h0
          · subst h0; simp at hx; omega
          · exact h0) (by omega) (mid ++ [UInt8.ofNat (x % 128 + 128)]) (by simp [hmid])
      have he : pre ++ mid ++ putNum x ++ rest = pre ++ (mid ++ [UInt8.ofNat (x % 128 + 128)]) ++ putNum (x / 128) ++ rest := by rw [hp]; simp
      rw [he, this, hp]
      have hx2 : x = x % 128 + x / 128 * 128 := by omega
      have : acc + (x % 128 + 128 - 128) * 128 ^ i + x / 128 * 128 ^ (i + 1) = acc + x * 128 ^ i := by
        conv => rhs; rw [hx2]
        rw [Nat.pow_succ, Nat.add_mul, Nat.add_sub_cancel, Nat.mul_assoc, Nat.mul_comm 128, Nat.add_assoc]
      rw [this]
      simp
      omega
    · have hp : putNum x = [UInt8.ofNat x] := by rw [putNum, if_neg h]
      have hat : (pre ++ mid ++ putNum x ++ rest).getD (pre.length + i) 0 = UInt8.ofNat x := by
        rw [hp, List.append_assoc, List.append_assoc, List.getD_eq_getElem?_getD, List.getElem?_append_right (by omega), List.getElem?_append_right (by omega)]
        simp [hmid]
      have hto : (UInt8.ofNat x).toNat = x := by
        rw [UInt8.toNat_ofNat']
        omega
      simp only [getLoop]
      rw [if_pos hlen, hat, hto, if_pos (by omega), if_neg (by omega), hp]
      simp

theorem getNum_put (pre rest : List UInt8) (x : Nat) (hx : x < 128 ^ 9) : getNum (pre ++ putNum x ++ rest) (pre.length : Int) = some (x, pre.length + (putNum x).length) := by
  have h := getLoop_put pre rest x 0 9 0 hx (by omega) (by omega) [] rfl
  have hl := putNum_pos x
  unfold getNum getNumN
  rw [if_pos ⟨by omega, by simp only [List.length_append]; omega⟩, Int.toNat_natCast]
  simpa using h

/-! ### the check sum -/

def crcStep (n : Nat) : Nat := if n % 2 = 1 then (n / 2) ^^^ 3988292384 else n / 2
def crcIt : Nat → Nat → Nat
  | 0, n => n
  | k + 1, n => crcIt k (crcStep n)
def crcByte (n : Nat) (b : UInt8) : Nat := crcIt 8 (n ^^^ b.toNat)
def crcState (l : List UInt8) : Nat := l.foldl crcByte 4294967295
def crc (l : List UInt8) : Nat := crcState l ^^^ 4294967295

theorem xor_lt32 {a b : Nat} (ha : a < 4294967296) (hb : b < 4294967296) : a ^^^ b < 4294967296 := Nat.xor_lt_two_pow (n := 32) ha hb
theorem crcStep_lt {n : Nat} (h : n < 4294967296) : crcStep n < 4294967296 := by
  unfold crcStep
  split
  · exact xor_lt32 (by omega) (by omega)
  · omega
theorem crcIt_lt : ∀ (k n : Nat), n < 4294967296 → crcIt k n < 4294967296 := by
  intro k
  induction k with
  | zero => exact fun n h => h
  | succ k ih => exact fun n h => ih _ (crcStep_lt h)
theorem crcByte_lt {n : Nat} (b : UInt8) (h : n < 4294967296) : crcByte n b < 4294967296 :=
  crcIt_lt 8 _ (xor_lt32 h (by have := UInt8.toNat_lt b; omega))
theorem crcFold_lt : ∀ (l : List UInt8) (n : Nat), n < 4294967296 → l.foldl crcByte n < 4294967296 := by
  intro l
  induction l with
  | nil => exact fun n h => h
  | cons b l ih => exact fun n h => ih _ (crcByte_lt b h)
theorem crcState_lt (l : List UInt8) : crcState l < 4294967296 := crcFold_lt l _ (by omega)
theorem crc_lt (l : List UInt8) : crc l < 4294967296 := xor_lt32 (crcState_lt l) (by omega)
theorem crcState_snoc (l : List UInt8) (b : UInt8) : crcState (l ++ [b]) = crcByte (crcState l) b := by simp [crcState]

theorem ofInt_i64 (a : Nat) (ha : a < 18446744073709551616) : (BitVec.ofInt 64 (a : Int)).toNat = a := by
  rw [BitVec.ofInt_natCast, BitVec.toNat_ofNat]
  exact Nat.mod_eq_of_lt (by omega)
theorem i64_xor_nat (a b : Nat) (ha : a < 4294967296) (hb : b < 4294967296) : bits .xor .i64 (a : Int) (b : Int) = ((a ^^^ b : Nat) : Int) := by
  have hx := xor_lt32 ha hb
  show IntKind.i64.wrap ((BitVec.ofInt 64 (a : Int) ^^^ BitVec.ofInt 64 (b : Int)).toNat : Int) = _
  rw [BitVec.toNat_xor, ofInt_i64 a (by omega), ofInt_i64 b (by omega), IntKind.wrap_i64]
  omega
theorem i64_xor (a b : Int) (h1 : 0 ≤ a) (h2 : a < 4294967296) (h3 : 0 ≤ b) (h4 : b < 4294967296) : bits .xor .i64 a b = ((a.toNat ^^^ b.toNat : Nat) : Int) := by
  obtain ⟨A, rfl⟩ := Int.eq_ofNat_of_zero_le h1
  obtain ⟨B, rfl⟩ := Int.eq_ofNat_of_zero_le h3
  simpa using i64_xor_nat A B (by omega) (by omega)

theorem crcStep_odd {z : Nat} (h : z % 2 = 1) : crcStep z = (z / 2) ^^^ 3988292384 := if_pos h
theorem crcStep_even {z : Nat} (h : ¬ z % 2 = 1) : crcStep z = z / 2 := if_neg h

end Go.Proofs.Ytbfbdhjeoknjkaa
