/-
  Frames of bytes: the plain functions and the laws on them. No program in sight.
-/
import Derived.Test.YtbfbdhjeoknjkaaMath
namespace Go.Proofs.Ytbfbdhjeoknjkaa

def le4 (n : Nat) : List UInt8 := [UInt8.ofNat n, UInt8.ofNat (n / 256), UInt8.ofNat (n / 65536), UInt8.ofNat (n / 16777216)]
def le4val (c : List UInt8) : Nat := (c.getD 0 0).toNat + (c.getD 1 0).toNat * 256 + (c.getD 2 0).toNat * 65536 + (c.getD 3 0).toNat * 16777216

theorem le4_val {n : Nat} (h : n < 4294967296) : le4val (le4 n) = n := by
  simp only [le4val, le4, List.getD_cons_zero, List.getD_cons_succ, UInt8.toNat_ofNat']
  omega

theorem val_le4 {c : List UInt8} (h : c.length = 4) : le4 (le4val c) = c := by
  match c, h with
  | [a, b, c, d], _ =>
    have ha := UInt8.toNat_lt a
    have hb := UInt8.toNat_lt b
    have hc := UInt8.toNat_lt c
    have hd := UInt8.toNat_lt d
    simp only [le4val, le4, List.getD_cons_zero, List.getD_cons_succ]
    have e : ∀ (x : UInt8) (n : Nat), n % 256 = x.toNat → UInt8.ofNat n = x := by
      intro x n hn
      apply UInt8.toNat_inj.1
      rw [UInt8.toNat_ofNat']
      exact hn
    rw [e a _ (by omega), e b _ (by omega), e c _ (by omega), e d _ (by omega)]

theorem le4_length (n : Nat) : (le4 n).length = 4 := rfl

/-- 'Frame' of a list that is not too long. -/
def frame (b : List UInt8) : List UInt8 := putNum b.length ++ b ++ le4 (crc b)

/-- 'Unframe'. -/
def unframe (b : List UInt8) (at_ : Int) : List UInt8 × Nat × Nat :=
  match getNum b at_ with
  | none => ([], 0, 1)
  | some (n, e) =>
    if 4000 < n then ([], 0, 1)
    else if b.length < e + n + 4 then ([], 0, 2)
    else if crc ((b.drop e).take n) = le4val ((b.drop (e + n)).take 4) then ((b.drop e).take n, e + n + 4, 0)
    else ([], 0, 3)

theorem putNum_length_le : ∀ (x : Nat) (k : Nat), x < 128 ^ (k + 1) → (putNum x).length ≤ k + 1 := by
  intro x
  induction x using Nat.strongRecOn with
  | ind x ih =>
    intro k hk
    rw [putNum]
    split
    · cases k with
      | zero => omega
      | succ k =>
        have := ih (x / 128) (by omega) k (by rw [Nat.pow_succ] at hk; omega)
        simp only [List.length_cons]
        omega
    · simp

theorem frame_length (b : List UInt8) : (frame b).length = (putNum b.length).length + b.length + 4 := by
  unfold frame
  simp only [List.length_append, le4_length]

theorem frame_length_le {b : List UInt8} (h : b.length ≤ 4000) : (frame b).length ≤ 4006 := by
  have := putNum_length_le b.length 1 (by omega)
  rw [frame_length]
  omega

theorem frame_pos (b : List UInt8) : 4 < (frame b).length := by
  have := putNum_pos b.length
  rw [frame_length]
  omega

/-- A framed list is read as itself, whatever stands around it. -/
theorem unframe_frame (pre b rest : List UInt8) (h : b.length ≤ 4000) : unframe (pre ++ frame b ++ rest) (pre.length : Int) = (b, pre.length + (frame b).length, 0) := by
  have hg := getNum_put pre (b ++ le4 (crc b) ++ rest) b.length (Nat.lt_of_le_of_lt h (by decide))
  have he : pre ++ frame b ++ rest = pre ++ putNum b.length ++ (b ++ le4 (crc b) ++ rest) := by simp [frame]
  have hd : (pre ++ frame b ++ rest).drop (pre.length + (putNum b.length).length) = b ++ (le4 (crc b) ++ rest) := by
    rw [he, ← List.length_append, List.drop_left, List.append_assoc]
  have hd2 : (pre ++ frame b ++ rest).drop (pre.length + (putNum b.length).length + b.length) = le4 (crc b) ++ rest := by
    rw [← List.drop_drop, hd, List.drop_left]
  have hl : (pre ++ frame b ++ rest).length = pre.length + (putNum b.length).length + b.length + 4 + rest.length := by
    simp only [List.length_append, frame_length]
    omega
  unfold unframe
  rw [he, hg, ← he]
  simp only
  rw [if_neg (by omega), if_neg (by omega), hd, hd2, List.take_left, List.take_left' (le4_length _), le4_val (crc_lt b), if_pos rfl, frame_length]
  congr 2
  omega

/-- What a well read place holds is the frame of what was read: the comparison that the program makes. -/
theorem unframe_iff {b : List UInt8} {at_ : Int} {n e : Nat} (hg : getNum b at_ = some (n, e)) (hl : e + n + 4 ≤ b.length) :
    (crc ((b.drop e).take n) = le4val ((b.drop (e + n)).take 4)) ↔ frame ((b.drop e).take n) = (b.drop at_.toNat).take (e + n + 4 - at_.toNat) := by
  have hf := getNum_form hg
  obtain ⟨h0, _, hlt, hle⟩ := getNum_lt hg
  have hlen : ((b.drop e).take n).length = n := by rw [List.length_take, List.length_drop]; omega
  have h4 : ((b.drop (e + n)).take 4).length = 4 := by rw [List.length_take, List.length_drop]; omega
  have hsplit : (b.drop at_.toNat).take (e + n + 4 - at_.toNat) = (b.drop at_.toNat).take (e - at_.toNat) ++ (b.drop e).take n ++ (b.drop (e + n)).take 4 := by
    rw [show e + n + 4 - at_.toNat = (e - at_.toNat) + (n + 4) from by omega, List.take_add, List.drop_drop, show at_.toNat + (e - at_.toNat) = e from by omega, List.take_add, List.drop_drop, List.append_assoc]
  rw [hsplit, hf]
  unfold frame
  rw [hlen]
  constructor
  · intro h
    rw [h, val_le4 h4]
  · intro h
    have := List.append_inj_right h (by simp)
    rw [← this, le4_val (crc_lt _)]

/-! ### one bit turned -/

theorem xor_cancel {a b c : Nat} (h : a ^^^ c = b ^^^ c) : a = b := by
  have := congrArg (· ^^^ c) h
  simpa [Nat.xor_assoc] using this
theorem xor_cancel' {a b c : Nat} (h : c ^^^ a = c ^^^ b) : a = b := xor_cancel (c := c) (by rw [Nat.xor_comm a, Nat.xor_comm b, h])

theorem crcStep_inj {a b : Nat} (ha : a < 4294967296) (hb : b < 4294967296) (h : crcStep a = crcStep b) : a = b := by
  have hi : ∀ x : Nat, x < 2147483648 → 2147483648 ≤ x ^^^ 3988292384 := by
    intro x hx
    have h1 : (x ^^^ 3988292384).testBit 31 = true := by
      rw [Nat.testBit_xor, Nat.testBit_lt_two_pow (x := x) (i := 31) hx]
      decide
    have := Nat.ge_two_pow_of_testBit h1
    omega
  unfold crcStep at h
  split at h <;> split at h
  · have h2 : a / 2 = b / 2 := xor_cancel h
    omega
  · have := hi (a / 2) (by omega)
    omega
  · have := hi (b / 2) (by omega)
    omega
  · omega
theorem crcIt_inj : ∀ (k : Nat) {a b : Nat}, a < 4294967296 → b < 4294967296 → crcIt k a = crcIt k b → a = b := by
  intro k
  induction k with
  | zero => exact fun _ _ h => h
  | succ k ih => exact fun ha hb h => crcStep_inj ha hb (ih (crcStep_lt ha) (crcStep_lt hb) h)
theorem crcByte_inj {a b : Nat} (x y : UInt8) (ha : a < 4294967296) (hb : b < 4294967296) (h : crcByte a x = crcByte b y) : a ^^^ x.toNat = b ^^^ y.toNat :=
  crcIt_inj 8 (xor_lt32 ha (by have := UInt8.toNat_lt x; omega)) (xor_lt32 hb (by have := UInt8.toNat_lt y; omega)) h
theorem crcFold_inj : ∀ (l : List UInt8) {a b : Nat}, a < 4294967296 → b < 4294967296 → l.foldl crcByte a = l.foldl crcByte b → a = b := by
  intro l
  induction l with
  | nil => exact fun _ _ h => h
  | cons x l ih =>
    intro a b ha hb h
    have := crcByte_inj x x ha hb (ih (crcByte_lt x ha) (crcByte_lt x hb) h)
    exact xor_cancel this
/-- Two lists that differ in one byte have two check sums. -/
theorem crc_set_ne (l : List UInt8) (i : Nat) (x : UInt8) (hi : i < l.length) (hx : l[i]? ≠ some x) : crc (l.set i x) ≠ crc l := by
  intro h
  have h1 : crcState (l.set i x) = crcState l := xor_cancel h
  rw [List.set_eq_take_append_cons_drop, if_pos hi] at h1
  have h2 : l = l.take i ++ l[i] :: l.drop (i + 1) := by
    rw [← List.drop_eq_getElem_cons hi, List.take_append_drop]
  conv at h1 => rhs; rw [h2]
  simp only [crcState, List.foldl_append, List.foldl_cons] at h1
  have hs := crcFold_lt (l.take i) 4294967295 (by omega)
  have h3 := crcFold_inj _ (crcByte_lt _ hs) (crcByte_lt _ hs) h1
  have h4 := crcByte_inj _ _ hs hs h3
  have h5 : x.toNat = l[i].toNat := xor_cancel' h4
  exact hx (by rw [List.getElem?_eq_getElem hi, UInt8.toNat_inj.1 h5])

/-- With one byte of its bytes or of its check turned a frame is refused. -/
theorem unframe_set (b : List UInt8) (h : b.length ≤ 4000) (i : Nat) (x : UInt8) (hi : (putNum b.length).length ≤ i) (hi2 : i < (frame b).length) (hx : (frame b)[i]? ≠ some x) :
    unframe ((frame b).set i x) 0 = ([], 0, 3) := by
  have hl := frame_length b
  have hg : getNum ((frame b).set i x) 0 = some (b.length, (putNum b.length).length) := by
    have hs : (frame b).set i x = [] ++ putNum b.length ++ ((b ++ le4 (crc b)).set (i - (putNum b.length).length) x) := by
      unfold frame
      rw [List.append_assoc, List.set_append_right _ _ hi, List.nil_append]
    have := getNum_put [] ((b ++ le4 (crc b)).set (i - (putNum b.length).length) x) b.length (Nat.lt_of_le_of_lt h (by decide))
    rw [hs]
    simpa using this
  have hd : (frame b).drop (putNum b.length).length = b ++ le4 (crc b) := by
    unfold frame
    rw [List.append_assoc, List.drop_left]
  have hd2 : (frame b).drop ((putNum b.length).length + b.length) = le4 (crc b) := by
    rw [← List.drop_drop, hd, List.drop_left]
  unfold unframe
  rw [hg]
  simp only
  rw [if_neg (by omega), if_neg (by rw [List.length_set]; omega), if_neg ?_]
  by_cases hb : i < (putNum b.length).length + b.length
  · -- the byte is one of the list's
    have e1 : (((frame b).set i x).drop (putNum b.length).length).take b.length = b.set (i - (putNum b.length).length) x := by
      rw [List.drop_set, if_neg (by omega), hd, List.set_append_left _ _ (by omega), List.take_left' (by simp)]
    have e2 : (((frame b).set i x).drop ((putNum b.length).length + b.length)).take 4 = le4 (crc b) := by
      rw [List.drop_set, if_pos (by omega), hd2, List.take_of_length_le (by simp [le4_length])]
    rw [e1, e2, le4_val (crc_lt b)]
    refine crc_set_ne b _ x (by omega) ?_
    intro e
    apply hx
    rw [← e, show i = (putNum b.length).length + (i - (putNum b.length).length) from by omega, ← List.getElem?_drop, hd, List.getElem?_append_left (by omega)]
    congr 1
    omega
  · have e1 : (((frame b).set i x).drop (putNum b.length).length).take b.length = b := by
      rw [List.drop_set, if_neg (by omega), hd, List.set_append_right _ _ (by omega), List.take_left]
    have e2 : (((frame b).set i x).drop ((putNum b.length).length + b.length)).take 4 = (le4 (crc b)).set (i - ((putNum b.length).length + b.length)) x := by
      rw [List.drop_set, if_neg (by omega), hd2, List.take_of_length_le (by simp [le4_length])]
    rw [e1, e2]
    intro e
    have h4 : ((le4 (crc b)).set (i - ((putNum b.length).length + b.length)) x).length = 4 := by simp [le4_length]
    have e3 : le4 (crc b) = (le4 (crc b)).set (i - ((putNum b.length).length + b.length)) x := by
      conv => lhs; rw [e]
      exact val_le4 h4
    apply hx
    rw [show i = (putNum b.length).length + b.length + (i - ((putNum b.length).length + b.length)) from by omega, ← List.getElem?_drop, hd2, e3]
    rw [List.getElem?_set_self (by rw [le4_length]; omega)]

end Go.Proofs.Ytbfbdhjeoknjkaa
