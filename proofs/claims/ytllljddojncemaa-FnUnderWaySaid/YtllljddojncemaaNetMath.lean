/-
  The plain functions on nets of flights: sent, taken, doubled, moved, spoilt.
-/
import Derived.Test.YtllljddojncemaaNetOk
namespace Go.Proofs.Ytllljddojncemaa

def zeroN : NetD := ⟨0, []⟩
def zeroF : FlightD := ⟨0, 0, ByteArray.empty⟩
/-- The flight at a place. -/
def flAt (l : List FlightD) (i : Int) : Option FlightD := if 0 ≤ i then l[i.toNat]? else none
def offL (l : List FlightD) (i : Nat) : List FlightD := l.take i ++ l.drop (i + 1)
theorem flAt_none {l : List FlightD} {i : Int} (h : flAt l i = none) : ¬ (0 ≤ i ∧ i < l.length) := by
  unfold flAt at h
  split at h
  · have := List.getElem?_eq_none_iff.1 h; omega
  · omega
theorem flAt_some {l : List FlightD} {i : Int} {x : FlightD} (h : flAt l i = some x) : ∃ k : Nat, k = i ∧ k < l.length ∧ l[k]? = some x := by
  unfold flAt at h
  split at h
  · exact ⟨i.toNat, by omega, (List.getElem?_eq_some_iff.1 h).1, h⟩
  · cases h
theorem flAt_nat (l : List FlightD) (k : Nat) : flAt l (k : Int) = l[k]? := by
  unfold flAt
  rw [if_pos (by omega), Int.toNat_natCast]
theorem flAt_in {l : List FlightD} {i : Int} (h0 : 0 ≤ i) (h1 : i < l.length) : ∃ x, flAt l i = some x := by
  unfold flAt
  rw [if_pos h0]
  exact ⟨_, List.getElem?_eq_getElem (by omega)⟩
theorem inB_flAt (l : List FlightD) (i : Int) : inB i 0 ((l.length : Int) - 1) = (flAt l i).isSome := by
  cases h : flAt l i with
  | none =>
    have := flAt_none h
    simp [inB]
    omega
  | some x =>
    obtain ⟨k, rfl, h1, h2⟩ := flAt_some h
    simp [inB]
    omega
theorem netOk_parts {n : NetD} (h : netOk n = true) : 0 ≤ n.next ∧ n.next ≤ 1000000000 ∧ n.list.length ≤ 60 := by
  unfold netOk at h
  simp only [Bool.and_eq_true, decide_eq_true_eq] at h
  obtain ⟨h1, h2, h3⟩ := h
  have := (wholeB_iff _).1 h1
  exact ⟨this.1, this.2, h2⟩
theorem netOk_okAt {n : NetD} (h : netOk n = true) {k : Nat} (hk : k < n.list.length) : okAt (n.next - 1) n.list k = true := by
  unfold netOk okTo at h
  simp only [Bool.and_eq_true, List.all_eq_true, List.mem_range] at h
  exact h.2.2 k hk
theorem netOk_at {n : NetD} (h : netOk n = true) {k : Nat} {x : FlightD} (hx : n.list[k]? = some x) : flB x.to x.bytes = true ∧ 0 ≤ x.id ∧ x.id ≤ n.next - 1 := by
  have h1 := netOk_okAt h (List.getElem?_eq_some_iff.1 hx).1
  rw [okAt_some hx] at h1
  simp only [Bool.and_eq_true] at h1
  have h2 := h1.2.1
  unfold inB at h2
  simp only [decide_eq_true_eq] at h2
  exact ⟨h1.1, h2⟩
theorem flB_size {to : Int} {s : ByteArray} (h : flB to s = true) : s.size ≤ 4100 ∧ 0 ≤ to ∧ to ≤ 4 := by
  unfold flB inB at h
  simp only [Bool.and_eq_true, decide_eq_true_eq] at h
  exact ⟨h.2, h.1⟩

def addNet (n : NetD) (to : Int) (s : ByteArray) : NetD × Int := if n.list.length = 60 ∨ n.next = 1000000000 then (n, 3) else (⟨n.next + 1, n.list ++ [⟨n.next, to, s⟩]⟩, 0)
def netSend (n : NetD) (to : Int) (s : ByteArray) : NetD × Int := if netOk n = true ∧ flB to s = true then addNet n to s else (zeroN, 1)
def netTake (n : NetD) (i : Int) : NetD × FlightD × Int := if netOk n = true then (match flAt n.list i with
  | none => (n, zeroF, 2)
  | some x => (⟨n.next, offL n.list i.toNat⟩, x, 0)) else (zeroN, zeroF, 1)
def netDouble (n : NetD) (i : Int) : NetD × Int := if netOk n = true then (match flAt n.list i with
  | none => (n, 2)
  | some x => addNet n x.to x.bytes) else (zeroN, 1)
def moveL (l : List FlightD) (i to : Nat) (x : FlightD) : List FlightD := (offL l i).take to ++ x :: (offL l i).drop to
def netMove (n : NetD) (i to : Int) : NetD × Int := if netOk n = true then (match flAt n.list i, flAt n.list to with
  | some x, some _ => (⟨n.next, moveL n.list i.toNat to.toNat x⟩, 0)
  | _, _ => (n, 2)) else (zeroN, 1)
/-- One bit of a string turned. -/
def flipB (s : ByteArray) (b : Nat) : ByteArray := ⟨(s.data.toList.set (b / 8) (s.data.toList.getD (b / 8) 0 ^^^ UInt8.ofNat (2 ^ (b % 8)))).toArray⟩
def spoil (x : FlightD) (b : Nat) : FlightD := ⟨x.id, x.to, flipB x.bytes b⟩
def netSpoil (n : NetD) (i bit : Int) : NetD × Int := if netOk n = true then (match flAt n.list i with
  | none => (n, 2)
  | some x => if 0 ≤ bit ∧ bit < 8 * x.bytes.size then (⟨n.next, n.list.set i.toNat (spoil x bit.toNat)⟩, 0) else (n, 2)) else (zeroN, 1)

theorem addNet_full {n : NetD} {to : Int} {s : ByteArray} (h : n.list.length = 60 ∨ n.next = 1000000000) : addNet n to s = (n, 3) := by unfold addNet; rw [if_pos h]
theorem addNet_in {n : NetD} {to : Int} {s : ByteArray} (h1 : ¬ n.list.length = 60) (h2 : ¬ n.next = 1000000000) : addNet n to s = (⟨n.next + 1, n.list ++ [⟨n.next, to, s⟩]⟩, 0) := by
  unfold addNet
  rw [if_neg (fun h => h.elim h1 h2)]
theorem netSend_bad {n : NetD} {to : Int} {s : ByteArray} (h : netOk n = false) : netSend n to s = (zeroN, 1) := by simp [netSend, h]
theorem netSend_not {n : NetD} {to : Int} {s : ByteArray} (h : flB to s = false) : netSend n to s = (zeroN, 1) := by simp [netSend, h]
theorem netSend_in {n : NetD} {to : Int} {s : ByteArray} (h : netOk n = true) (h2 : flB to s = true) : netSend n to s = addNet n to s := by simp [netSend, h, h2]
theorem netTake_bad {n : NetD} {i : Int} (h : netOk n = false) : netTake n i = (zeroN, zeroF, 1) := by simp [netTake, h]
theorem netTake_none {n : NetD} {i : Int} (h : netOk n = true) (hi : flAt n.list i = none) : netTake n i = (n, zeroF, 2) := by simp [netTake, h, hi]
theorem netTake_in {n : NetD} {k : Nat} {x : FlightD} (h : netOk n = true) (hi : flAt n.list k = some x) : netTake n k = (⟨n.next, offL n.list k⟩, x, 0) := by simp [netTake, h, hi]
theorem netDouble_bad {n : NetD} {i : Int} (h : netOk n = false) : netDouble n i = (zeroN, 1) := by simp [netDouble, h]
theorem netDouble_none {n : NetD} {i : Int} (h : netOk n = true) (hi : flAt n.list i = none) : netDouble n i = (n, 2) := by simp [netDouble, h, hi]
theorem netDouble_in {n : NetD} {i : Int} {x : FlightD} (h : netOk n = true) (hi : flAt n.list i = some x) : netDouble n i = addNet n x.to x.bytes := by simp [netDouble, h, hi]
theorem netMove_bad {n : NetD} {i to : Int} (h : netOk n = false) : netMove n i to = (zeroN, 1) := by simp [netMove, h]
theorem netMove_none {n : NetD} {i to : Int} (h : netOk n = true) (hi : flAt n.list i = none) : netMove n i to = (n, 2) := by simp [netMove, h, hi]
theorem netMove_none2 {n : NetD} {i to : Int} (h : netOk n = true) (hi : flAt n.list to = none) : netMove n i to = (n, 2) := by
  unfold netMove
  rw [if_pos h, hi]
  split <;> simp_all
theorem netMove_in {n : NetD} {k j : Nat} {x y : FlightD} (h : netOk n = true) (hi : flAt n.list k = some x) (hj : flAt n.list j = some y) : netMove n k j = (⟨n.next, moveL n.list k j x⟩, 0) := by simp [netMove, h, hi, hj]
theorem netSpoil_bad {n : NetD} {i b : Int} (h : netOk n = false) : netSpoil n i b = (zeroN, 1) := by simp [netSpoil, h]
theorem netSpoil_none {n : NetD} {i b : Int} (h : netOk n = true) (hi : flAt n.list i = none) : netSpoil n i b = (n, 2) := by simp [netSpoil, h, hi]
theorem netSpoil_out {n : NetD} {i b : Int} {x : FlightD} (h : netOk n = true) (hi : flAt n.list i = some x) (hb : ¬ (0 ≤ b ∧ b < 8 * x.bytes.size)) : netSpoil n i b = (n, 2) := by
  unfold netSpoil
  rw [if_pos h, hi]
  dsimp only
  rw [if_neg hb]
theorem netSpoil_in {n : NetD} {k b : Nat} {x : FlightD} (h : netOk n = true) (hi : flAt n.list k = some x) (hb : b < 8 * x.bytes.size) : netSpoil n k b = (⟨n.next, n.list.set k (spoil x b)⟩, 0) := by
  unfold netSpoil
  rw [if_pos h, hi]
  dsimp only
  rw [if_pos (by omega)]
  simp
theorem offL_length {l : List FlightD} {i : Nat} (h : i < l.length) : (offL l i).length = l.length - 1 := by
  unfold offL
  rw [List.length_append, List.length_take, List.length_drop]
  omega
theorem moveL_length {l : List FlightD} {i to : Nat} (x : FlightD) (h : i < l.length) (ht : to < l.length) : (moveL l i to x).length = l.length := by
  unfold moveL
  rw [List.length_append, List.length_cons, List.length_take, List.length_drop, offL_length h]
  omega
theorem NK_small {n : NetD} (h : n.list.length ≤ 61) : NK_Net n ≤ 4194304 := by
  unfold NK_Net NK_FlightS
  omega
theorem addNet_len {n : NetD} (to : Int) (s : ByteArray) (h : n.list.length ≤ 60) : (addNet n to s).1.list.length ≤ 61 := by
  unfold addNet
  split
  · dsimp only; omega
  · dsimp only; rw [List.length_append]; simp; omega
theorem netSend_nk (n : NetD) (to : Int) (s : ByteArray) : NK_Net (netSend n to s).1 ≤ 4194304 := by
  refine NK_small ?_
  unfold netSend
  split
  · rename_i h; exact addNet_len _ _ (netOk_parts h.1).2.2
  · simp [zeroN]
theorem netTake_nk (n : NetD) (i : Int) : NK_Net (netTake n i).1 ≤ 4194304 := by
  refine NK_small ?_
  unfold netTake
  split
  · rename_i h
    have := (netOk_parts h).2.2
    split
    · dsimp only; omega
    · rename_i x hx
      obtain ⟨k, rfl, h1, h2⟩ := flAt_some hx
      dsimp only
      rw [Int.toNat_natCast, offL_length h1]
      omega
  · simp [zeroN]
theorem netDouble_nk (n : NetD) (i : Int) : NK_Net (netDouble n i).1 ≤ 4194304 := by
  refine NK_small ?_
  unfold netDouble
  split
  · rename_i h
    have := (netOk_parts h).2.2
    split
    · dsimp only; omega
    · exact addNet_len _ _ this
  · simp [zeroN]
theorem netMove_nk (n : NetD) (i to : Int) : NK_Net (netMove n i to).1 ≤ 4194304 := by
  refine NK_small ?_
  unfold netMove
  split
  · rename_i h
    have := (netOk_parts h).2.2
    split
    · rename_i x y hx hy
      obtain ⟨k, rfl, h1, h2⟩ := flAt_some hx
      obtain ⟨j, rfl, h3, h4⟩ := flAt_some hy
      dsimp only
      rw [Int.toNat_natCast, Int.toNat_natCast, moveL_length x h1 h3]
      omega
    · dsimp only; omega
  · simp [zeroN]
theorem netSpoil_nk (n : NetD) (i b : Int) : NK_Net (netSpoil n i b).1 ≤ 4194304 := by
  refine NK_small ?_
  unfold netSpoil
  split
  · rename_i h
    have := (netOk_parts h).2.2
    split
    · dsimp only; omega
    · split
      · dsimp only; rw [List.length_set]; omega
      · dsimp only; omega
  · simp [zeroN]
end Go.Proofs.Ytllljddojncemaa
