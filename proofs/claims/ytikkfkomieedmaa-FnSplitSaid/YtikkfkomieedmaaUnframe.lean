/-
  Unframe, the program's and the reference's, walked.
-/
import Derived.Test.YtikkfkomieedmaaFrame2
import Derived.Test.YtikkfkomieedmaaGet
namespace Go.Proofs.Ytikkfkomieedmaa
open Go.RowKit

theorem unframe_none {b : List UInt8} {a : Int} (h : getNum b a = none) : unframe b a = ([], 0, 1) := by simp only [unframe, h]
theorem unframe_long {b : List UInt8} {a : Int} {n e : Nat} (h : getNum b a = some (n, e)) (hn : 4000 < n) : unframe b a = ([], 0, 1) := by simp only [unframe, h, hn, if_true]
theorem unframe_short {b : List UInt8} {a : Int} {n e : Nat} (h : getNum b a = some (n, e)) (hn : ¬ 4000 < n) (hl : b.length < e + n + 4) : unframe b a = ([], 0, 2) := by simp only [unframe, h, hn, hl, if_true, if_false]
theorem unframe_well {b : List UInt8} {a : Int} {n e : Nat} (h : getNum b a = some (n, e)) (hn : ¬ 4000 < n) (hl : ¬ b.length < e + n + 4) (hc : crc ((b.drop e).take n) = le4val ((b.drop (e + n)).take 4)) : unframe b a = ((b.drop e).take n, e + n + 4, 0) := by
  simp only [unframe, h, hn, hl, hc, if_true, if_false]
theorem unframe_bad {b : List UInt8} {a : Int} {n e : Nat} (h : getNum b a = some (n, e)) (hn : ¬ 4000 < n) (hl : ¬ b.length < e + n + 4) (hc : ¬ crc ((b.drop e).take n) = le4val ((b.drop (e + n)).take 4)) : unframe b a = ([], 0, 3) := by
  simp only [unframe, h, hn, hl, hc, if_false]

/-- A part of a slice of bytes. -/
theorem Rd.sub {w : World} {B n b off : Nat} {l : List UInt8} (h : Rd w B 1 (some ⟨b, off, none⟩) n (l.flatMap eB)) (hl : l.length = n) {e x : Nat} (he : e + x ≤ n) :
    Rd w B 1 (some ⟨b, off + e, none⟩) x (((l.drop e).take x).flatMap eB) := by
  refine ⟨by rw [flat_length eB_len, List.length_take, List.length_drop]; omega, fun hx => ?_⟩
  obtain ⟨b', off', h1, hb, hc⟩ := h.at_ (by omega)
  injection h1 with h1
  injection h1 with h1 h2 _
  subst h1 h2
  refine ⟨b, off + e, rfl, hb, fun j hj => ?_⟩
  rw [flat_length eB_len, List.length_take, List.length_drop] at hj
  have h3 := hc (e + j) (by omega)
  rw [← Nat.add_assoc] at h3
  rw [h3]
  have h4 := flat_drop eB_len l e
  have h5 := flat_take eB_len (l.drop e) x
  rw [Nat.mul_one] at h4 h5
  rw [← h5, ← h4, List.getElem?_take, if_pos (by omega), List.getElem?_drop]

theorem Rd.byteAt {w : World} {B n b off : Nat} {l : List UInt8} (h : Rd w B 1 (some ⟨b, off, none⟩) n (l.flatMap eB)) (hl : l.length = n) {k : Nat} (hk : k < n) :
    ∃ x, l[k]? = some x ∧ (x.toNat : Int) < 256 ∧ w.cell? ⟨b, off + k, none⟩ = some (.int .u8 (x.toNat : Int)) := by
  obtain ⟨b', off', x, h1, _, hx, hc⟩ := h.byte hl hk
  injection h1 with h1
  injection h1 with h1 h2 _
  subst h1 h2
  exact ⟨x, hx, by have := UInt8.toNat_lt x; omega, hc⟩
theorem le4val_at {l : List UInt8} {k : Nat} {a b c d : UInt8} (ha : l[k]? = some a) (hb : l[k + 1]? = some b) (hc : l[k + 2]? = some c) (hd : l[k + 3]? = some d) :
    le4val ((l.drop k).take 4) = a.toNat + b.toNat * 256 + c.toNat * 65536 + d.toNat * 16777216 := by
  have h : ∀ j, j < 4 → ((l.drop k).take 4).getD j 0 = (l[k + j]?).getD 0 := by
    intro j hj
    rw [List.getD_eq_getElem?_getD, List.getElem?_take, if_pos hj, List.getElem?_drop]
  simp only [le4val]
  rw [h 0 (by omega), h 1 (by omega), h 2 (by omega), h 3 (by omega), Nat.add_zero, ha, hb, hc, hd]
  rfl
theorem quietS {P : Program} {f : FuncId} {args : Array Value} {w : World} {n : Nat} {v : Value}
    (h : Calls P f args (w.drewN n) fun e w' => e = .returned v ∧ Still (w.drewN n) w') : Calls P f args (w.drewN n) fun e w'' => e = .returned v ∧ ∃ m, w'' = w.drewN m :=
  h.mono fun _ _ hh => ⟨hh.1, by
    obtain ⟨q, hq⟩ := hh.2
    exact ⟨n + q, by rw [hq, World.drewN_drewN]⟩⟩


end Go.Proofs.Ytikkfkomieedmaa
