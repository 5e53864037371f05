/-
  markText, walked: the letter m and a number's digits.
-/
import Derived.Test.YtllljddojncemaaBase
import Derived.Test.YtllljddojncemaaChecked
import Derived.Laws.BytesArg
import Derived.Laws.Concat
namespace Go.Proofs.Ytllljddojncemaa
open Go.RowKit

/-- The digits of k ahead of what is there. -/
def digs (k : Nat) (out : ByteArray) : ByteArray := if k = 0 then out else digs (k / 10) (strOfNums [48 + ((k % 10 : Nat) : Int)] ++ out)
termination_by k
theorem digs_zero (out : ByteArray) : digs 0 out = out := by rw [digs]; rfl
theorem digs_step {k : Nat} (h : k ≠ 0) (out : ByteArray) : digs k out = digs (k / 10) (strOfNums [48 + ((k % 10 : Nat) : Int)] ++ out) := by
  rw [digs, if_neg h]
def mtM : ByteArray := ⟨#[109]⟩
def mtZ : ByteArray := ⟨#[109, 48]⟩
/-- What marks a string: k's text. -/
def mt (k : Int) : ByteArray := if k ≤ 0 then mtZ else mtM ++ digs k.toNat ByteArray.empty
theorem digs_size : ∀ (k : Nat) (out : ByteArray) (b : Nat), k < 10 ^ b → (digs k out).size ≤ out.size + b := by
  intro k
  induction k using Nat.strongRecOn with
  | ind k ih =>
    intro out b hb
    by_cases h : k = 0
    · subst h; rw [digs_zero]; omega
    · cases b with
      | zero => simp at hb; omega
      | succ b =>
        rw [digs_step h]
        have hlt : k / 10 < k := by omega
        have h1 : k / 10 < 10 ^ b := by rw [Nat.pow_succ] at hb; omega
        have h2 := ih _ hlt (strOfNums [48 + ((k % 10 : Nat) : Int)] ++ out) b h1
        have h3 : (strOfNums [48 + ((k % 10 : Nat) : Int)] ++ out).size = 1 + out.size := by
          rw [ByteArray.size_append, strOfNums_size]
          rfl
        omega

set_option maxRecDepth 100000 in
set_option maxHeartbeats 2000000 in
theorem markText_any (k0 : Int) (w : World) (h0 : 0 ≤ k0) (h1 : k0 ≤ 4611686018427387904) :
    Calls Try.prog 64 #[.int .i64 k0] w fun e w' => e = .returned (.string (mt k0)) ∧ Ext w w' := by
  by_cases hk : k0 ≤ 0
  · have d1 : decide (k0 ≤ 0) = true := by simpa using hk
    have hm : mt k0 = mtZ := if_pos hk
    rw [hm]
    go_enter Try.func64, Try.ntmps64
    go_wp2
    go_ret
    exact ⟨rfl, by repeat' (first | with_reducible exact Ext.refl _ | with_reducible assumption | with_reducible refine Ext.set ?_ ?_ _ _ | with_reducible refine Ext.alloc ?_ _ | with_reducible refine Ext.drew ?_ | with_reducible refine Ext.drewN ?_ _ | with_reducible refine Ext.trans ?_ (by with_reducible assumption) | omega | (simp; done) | (simp; omega))⟩
  · have d1 : decide (k0 ≤ 0) = false := by simpa using hk
    have hm : Hid (mt k0 = mtM ++ digs k0.toNat ByteArray.empty) := if_neg hk
    go_enter Try.func64, Try.ntmps64
    go_wp2
    go_loopw [0, 3] (fun kv ov wr => ∃ (k : Nat) (out : ByteArray), kv = .int .i64 k ∧ ov = .string out ∧ Hid (digs k out = digs k0.toNat ByteArray.empty) ∧ k ≤ 4611686018427387904 ∧ out.size ≤ 19 ∧ Hid (k * 10 ^ out.size ≤ 4611686018427387904) ∧ Ext w wr) (fun kv _ _ => (intOf kv).toNat)
    case atStart => exact ⟨k0.toNat, ByteArray.empty, congrArg (Value.int IntKind.i64) (by omega), rfl, rfl, by omega, by simp, by show _ ≤ _; simp; omega, by repeat' (first | with_reducible exact Ext.refl _ | with_reducible assumption | with_reducible refine Ext.set ?_ ?_ _ _ | with_reducible refine Ext.alloc ?_ _ | with_reducible refine Ext.drew ?_ | with_reducible refine Ext.drewN ?_ _ | with_reducible refine Ext.trans ?_ (by with_reducible assumption) | omega | (simp; done) | (simp; omega))⟩
    case round =>
      obtain ⟨k, out, rfl, rfl, hd, hk2, ho19, hp, hext⟩ := hrel
      by_cases hlt : 0 < k
      · have hs : out.size ≤ 18 := by
          have h := hp.out
          rcases Nat.lt_or_ge 18 out.size with h2 | h2
          · exfalso
            have h3 : 10 ^ 19 ≤ 10 ^ out.size := Nat.pow_le_pow_right (by omega) h2
            have h4 : 1 * 10 ^ out.size ≤ k * 10 ^ out.size := Nat.mul_le_mul_right _ hlt
            omega
          · exact h2
        obtain ⟨r, hr⟩ : ∃ r : Nat, k % 10 = r := ⟨_, rfl⟩
        obtain ⟨k', hk'⟩ : ∃ k' : Nat, k / 10 = k' := ⟨_, rfl⟩
        have hr9 : r ≤ 9 := by omega
        have hri : (k : Int) % 10 = (r : Int) := by omega
        have hki : (k : Int) / 10 = (k' : Int) := by omega
        have hr8 : ((48 : Int) + (r : Int)) % 256 = 48 + (r : Int) := by omega
        have hconv : (convert 50 9 (.slice (some ⟨wr.heap.size, 0, none⟩) 1 1)).run Try.prog (wr.alloc (.cells #[.int .u8 (48 + (r : Int))] 5)) = .ok (.string (strOfNums [48 + (r : Int)])) (wr.alloc (.cells #[.int .u8 (48 + (r : Int))] 5)) := by
          refine run_convert_bytes_arg _ 50 5 Try.underlying50 Try.underlying5 wr.heap.size 0 1 1 [48 + (r : Int)] rfl ?_ 9 Try.underlying9
          intro i hi
          obtain rfl : i = 0 := by omega
          simp [go_sem]
        have hs1 : (strOfNums [48 + (r : Int)]).size = 1 := by rw [strOfNums_size]; rfl
        have hq : ¬ 9223372036854775807 < (strOfNums [48 + (r : Int)]).size + out.size := by rw [hs1]; omega
        have hd2 : Hid (digs k' (strOfNums [48 + (r : Int)] ++ out) = digs k0.toNat ByteArray.empty) := by
          show _ = _
          rw [← hd.out, digs_step (k := k) (by omega), hk', show k % 10 = r from hr]
        have hp2 : Hid (k' * 10 ^ (strOfNums [48 + (r : Int)] ++ out).size ≤ 4611686018427387904) := by
          show _ ≤ _
          rw [ByteArray.size_append, hs1, Nat.add_comm 1, Nat.pow_succ, Nat.mul_comm (10 ^ out.size) 10, ← Nat.mul_assoc]
          exact Nat.le_trans (Nat.mul_le_mul_right _ (by omega)) hp.out
        have ho2 : (strOfNums [48 + (r : Int)] ++ out).size ≤ 19 := by rw [ByteArray.size_append, hs1]; omega
        have hE2 := hext.alloc (.cells #[.int .u8 (48 + (r : Int))] 5)
        clear hs1 hd hp
        go_wp2
        go_roundw
        case rel => exact ⟨k', _, rfl, rfl, hd2, by omega, ho2, hp2, hE2⟩
        case measure => simp [intOf]; omega
      · obtain rfl : k = 0 := by omega
        have hq2 : ¬ 9223372036854775807 < 1 + out.size := by omega
        go_wp2
        go_ret
        rw [hm.out]
        have h := hd.out
        rw [digs_zero] at h
        exact ⟨by rw [h]; rfl, hext⟩

end Go.Proofs.Ytllljddojncemaa
