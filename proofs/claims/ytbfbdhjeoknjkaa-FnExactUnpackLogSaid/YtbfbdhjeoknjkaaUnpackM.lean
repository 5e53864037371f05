/-
  A log read from its numbers, in plain words: as the program reads it (row by row) and as the reference does. No program in sight.
-/
import Derived.Test.YtbfbdhjeoknjkaaPack
import Derived.Test.YtbfbdhjeoknjkaaMg2
import Derived.Test.YtbfbdhjeoknjkaaMg4
namespace Go.Proofs.Ytbfbdhjeoknjkaa
open Go.RowKit

/-! ### the program's reader -/

def rdNum (b : List UInt8) : Option Int → Int × Option Int
  | none => (0, none)
  | some a => match getNum b a with
    | none => (0, none)
    | some (n, e) => ((n : Nat), some ((e : Nat) : Int))
def rdRow (b : List UInt8) : Nat → Option Int → List Int × Option Int
  | 0, s => ([], s)
  | k + 1, s => ((rdNum b s).1 :: (rdRow b k (rdNum b s).2).1, (rdRow b k (rdNum b s).2).2)
def rdRows (b : List UInt8) (wide : Nat) : Nat → Option Int → List (List Int) × Option Int
  | 0, s => ([], s)
  | _ + 1, none => ([], none)
  | n + 1, some a => ((rdRow b wide (some a)).1 :: (rdRows b wide n (rdRow b wide (some a)).2).1, (rdRows b wide n (rdRow b wide (some a)).2).2)
def rdCap (most : Nat) (r : Int × Option Int) : Option Int := if r.1 ≤ most then r.2 else none
def rdAll (b : List UInt8) (most wide : Nat) (s : Option Int) : List (List Int) × Option Int := rdRows b wide (rdNum b s).1.toNat (rdCap most (rdNum b s))

theorem rdNum_none (b : List UInt8) : rdNum b none = (0, none) := rfl
theorem rdNum_no {b : List UInt8} {a : Int} (h : getNum b a = none) : rdNum b (some a) = (0, none) := by simp only [rdNum, h]
theorem rdNum_yes {b : List UInt8} {a : Int} {n e : Nat} (h : getNum b a = some (n, e)) : rdNum b (some a) = ((n : Int), some (e : Int)) := by simp only [rdNum, h]
theorem rdNum_bound (b : List UInt8) (s : Option Int) : 0 ≤ (rdNum b s).1 ∧ (rdNum b s).1 ≤ 9223372036854775807 := by
  cases s with
  | none => simp [rdNum]
  | some a =>
    cases h : getNum b a with
    | none => rw [rdNum_no h]; simp
    | some p =>
      obtain ⟨n, e⟩ := p
      rw [rdNum_yes h]
      have := getNum_lt h
      dsimp only
      omega
theorem rdRow_len (b : List UInt8) : ∀ (k : Nat) (s : Option Int), (rdRow b k s).1.length = k := by
  intro k
  induction k with
  | zero => intro s; rfl
  | succ k ih => intro s; rw [rdRow, List.length_cons, ih]
theorem rdRow_bound (b : List UInt8) : ∀ (k : Nat) (s : Option Int), ∀ x ∈ (rdRow b k s).1, 0 ≤ x ∧ x ≤ 9223372036854775807 := by
  intro k
  induction k with
  | zero => intro s x hx; cases hx
  | succ k ih =>
    intro s x hx
    rw [rdRow] at hx
    rcases List.mem_cons.1 hx with rfl | hx
    · exact rdNum_bound b s
    · exact ih _ x hx
theorem rdRows_wide (b : List UInt8) (wide : Nat) : ∀ (n : Nat) (s : Option Int), ∀ r ∈ (rdRows b wide n s).1, r.length = wide ∧ ∀ x ∈ r, 0 ≤ x ∧ x ≤ 9223372036854775807 := by
  intro n
  induction n with
  | zero => intro s r hr; cases s <;> cases hr
  | succ n ih =>
    intro s r hr
    cases s with
    | none => cases hr
    | some a =>
      rw [rdRows] at hr
      rcases List.mem_cons.1 hr with rfl | hr
      · exact ⟨rdRow_len b wide _, rdRow_bound b wide _⟩
      · exact ih _ r hr
theorem rdRows_none (b : List UInt8) (wide n : Nat) : rdRows b wide n none = ([], none) := by cases n <;> rfl
theorem rdRows_len (b : List UInt8) (wide : Nat) : ∀ (n : Nat) (s : Option Int), (rdRows b wide n s).1.length ≤ n := by
  intro n
  induction n with
  | zero => intro s; cases s <;> exact Nat.le_refl _
  | succ n ih =>
    intro s
    cases s with
    | none => exact Nat.zero_le _
    | some a =>
      rw [rdRows, List.length_cons]
      have := ih (rdRow b wide (some a)).2
      omega
theorem rdAll_wide (b : List UInt8) (most wide : Nat) (s : Option Int) : ∀ r ∈ (rdAll b most wide s).1, r.length = wide ∧ ∀ x ∈ r, 0 ≤ x ∧ x ≤ 9223372036854775807 := rdRows_wide b wide _ _
theorem rdAll_none (b : List UInt8) (most wide : Nat) : rdAll b most wide none = ([], none) := by
  unfold rdAll
  rw [rdNum_none]
  rfl
theorem rdAll_len (b : List UInt8) (most wide : Nat) (s : Option Int) : (rdAll b most wide s).1.length ≤ most := by
  unfold rdAll rdCap
  have hb := rdNum_bound b s
  split
  · have := rdRows_len b wide (rdNum b s).1.toNat (rdNum b s).2
    omega
  · rw [rdRows_none]
    exact Nat.zero_le _

/-! ### many numbers -/

theorem getMany_all {b : List UInt8} : ∀ {k : Nat} {a : Int} {L : List Int} {e : Int}, getMany b k a = some (L, e) → L.length = k ∧ ∀ x ∈ L, 0 ≤ x ∧ x ≤ 9223372036854775807 := by
  intro k
  induction k with
  | zero =>
    intro a L e h
    simp only [getMany, Option.some.injEq, Prod.mk.injEq] at h
    obtain ⟨rfl, -⟩ := h
    exact ⟨rfl, fun x hx => nomatch hx⟩
  | succ k ih =>
    intro a L e h
    cases hg : getNum b a with
    | none => rw [getMany_none hg] at h; cases h
    | some p =>
      obtain ⟨x, e1⟩ := p
      rw [getMany_some hg] at h
      cases hm : getMany b k (e1 : Nat) with
      | none => rw [hm] at h; cases h
      | some q =>
        obtain ⟨L1, e2⟩ := q
        rw [hm] at h
        simp only [Option.map_some, Option.some.injEq, Prod.mk.injEq] at h
        obtain ⟨rfl, rfl⟩ := h
        obtain ⟨h1, h2⟩ := ih hm
        have h3 := getNum_lt hg
        refine ⟨by rw [List.length_cons, h1], fun y hy => ?_⟩
        rcases List.mem_cons.1 hy with rfl | hy
        · omega
        · exact h2 y hy
theorem rdRow_many {b : List UInt8} : ∀ {k : Nat} {a : Int} {L : List Int} {e : Int}, getMany b k a = some (L, e) → rdRow b k (some a) = (L, some e) := by
  intro k
  induction k with
  | zero =>
    intro a L e h
    simp only [getMany, Option.some.injEq, Prod.mk.injEq] at h
    obtain ⟨rfl, rfl⟩ := h
    rfl
  | succ k ih =>
    intro a L e h
    cases hg : getNum b a with
    | none => rw [getMany_none hg] at h; cases h
    | some p =>
      obtain ⟨x, e1⟩ := p
      rw [getMany_some hg] at h
      cases hm : getMany b k (e1 : Nat) with
      | none => rw [hm] at h; cases h
      | some q =>
        obtain ⟨L1, e2⟩ := q
        rw [hm] at h
        simp only [Option.map_some, Option.some.injEq, Prod.mk.injEq] at h
        obtain ⟨rfl, rfl⟩ := h
        rw [rdRow, rdNum_yes hg]
        dsimp only
        rw [ih hm]
theorem rdRow_fail (b : List UInt8) : ∀ (k : Nat), (rdRow b k none).2 = none := by
  intro k
  induction k with
  | zero => rfl
  | succ k ih => rw [rdRow, rdNum_none]; exact ih
theorem rdRow_not {b : List UInt8} : ∀ {k : Nat} {a : Int}, getMany b k a = none → (rdRow b k (some a)).2 = none := by
  intro k
  induction k with
  | zero => intro a h; cases h
  | succ k ih =>
    intro a h
    cases hg : getNum b a with
    | none => rw [rdRow, rdNum_no hg]; exact rdRow_fail b k
    | some p =>
      obtain ⟨x, e1⟩ := p
      rw [getMany_some hg] at h
      rw [rdRow, rdNum_yes hg]
      refine ih ?_
      cases hm : getMany b k (e1 : Nat) with
      | none => rfl
      | some q => rw [hm] at h; cases h
theorem getMany_add {b : List UInt8} (m : Nat) : ∀ (k : Nat) (a : Int), getMany b (k + m) a = (getMany b k a).bind fun r => (getMany b m r.2).map fun q => (r.1 ++ q.1, q.2) := by
  intro k
  induction k with
  | zero =>
    intro a
    simp only [getMany, Option.bind_some, Nat.zero_add, List.nil_append]
    cases getMany b m a <;> rfl
  | succ k ih =>
    intro a
    rw [Nat.succ_add]
    cases hg : getNum b a with
    | none => rw [getMany_none hg, getMany_none hg]; rfl
    | some p =>
      obtain ⟨x, e1⟩ := p
      rw [getMany_some hg, getMany_some hg, ih]
      cases getMany b k (e1 : Nat) with
      | none => rfl
      | some q =>
        simp only [Option.bind_some, Option.map_some]
        cases getMany b m q.2 <;> rfl
theorem rdRows_many {b : List UInt8} {wide : Nat} : ∀ {n : Nat} {a : Int} {F : List Int} {e : Int}, getMany b (n * wide) a = some (F, e) → ∃ R, rdRows b wide n (some a) = (R, some e) ∧ R.flatten = F := by
  intro n
  induction n with
  | zero =>
    intro a F e h
    rw [Nat.zero_mul] at h
    simp only [getMany, Option.some.injEq, Prod.mk.injEq] at h
    obtain ⟨rfl, rfl⟩ := h
    exact ⟨[], rfl, rfl⟩
  | succ n ih =>
    intro a F e h
    rw [Nat.succ_mul, Nat.add_comm, getMany_add] at h
    cases hm : getMany b wide a with
    | none => rw [hm] at h; cases h
    | some q =>
      obtain ⟨L, e1⟩ := q
      rw [hm] at h
      simp only [Option.bind_some] at h
      cases hm2 : getMany b (n * wide) e1 with
      | none => rw [hm2] at h; cases h
      | some q2 =>
        obtain ⟨F2, e2⟩ := q2
        rw [hm2] at h
        simp only [Option.map_some, Option.some.injEq, Prod.mk.injEq] at h
        obtain ⟨rfl, rfl⟩ := h
        obtain ⟨R, hR, hf⟩ := ih hm2
        refine ⟨L :: R, ?_, by rw [List.flatten_cons, hf]⟩
        rw [rdRows, rdRow_many hm]
        dsimp only
        rw [hR]
theorem rdRows_not {b : List UInt8} {wide : Nat} : ∀ {n : Nat} {a : Int}, getMany b (n * wide) a = none → (rdRows b wide n (some a)).2 = none := by
  intro n
  induction n with
  | zero => intro a h; rw [Nat.zero_mul] at h; cases h
  | succ n ih =>
    intro a h
    rw [Nat.succ_mul, Nat.add_comm, getMany_add] at h
    rw [rdRows]
    cases hm : getMany b wide a with
    | none =>
      rw [rdRow_not hm, rdRows_none]
    | some q =>
      obtain ⟨L, e1⟩ := q
      rw [hm] at h
      simp only [Option.bind_some] at h
      rw [rdRow_many hm]
      dsimp only
      refine ih ?_
      cases hm2 : getMany b (n * wide) e1 with
      | none => rfl
      | some q2 => rw [hm2] at h; cases h

/-! ### the reference's rows -/

def l4Rows (b : List UInt8) (a : Int) (wide most : Nat) : Option (List Int × Int) :=
  match getNum b a with
  | none => none
  | some (n, e) => if n ≤ most then getMany b (n * wide) (e : Nat) else none
theorem l4Rows_no {b : List UInt8} {a : Int} {wide most : Nat} (h : getNum b a = none) : l4Rows b a wide most = none := by simp only [l4Rows, h]
theorem l4Rows_in {b : List UInt8} {a : Int} {wide most n e : Nat} (h : getNum b a = some (n, e)) (hn : n ≤ most) : l4Rows b a wide most = getMany b (n * wide) (e : Nat) := by simp only [l4Rows, h, if_pos hn]
theorem l4Rows_out {b : List UInt8} {a : Int} {wide most n e : Nat} (h : getNum b a = some (n, e)) (hn : ¬ n ≤ most) : l4Rows b a wide most = none := by simp only [l4Rows, h, if_neg hn]
theorem l4Rows_len {b : List UInt8} {a e : Int} {wide most : Nat} {F : List Int} (h : l4Rows b a wide most = some (F, e)) : (∃ m, m ≤ most ∧ F.length = m * wide) ∧ ∀ x ∈ F, 0 ≤ x ∧ x ≤ 9223372036854775807 := by
  cases hg : getNum b a with
  | none => rw [l4Rows_no hg] at h; cases h
  | some p =>
    obtain ⟨n, e1⟩ := p
    by_cases hn : n ≤ most
    · rw [l4Rows_in hg hn] at h
      obtain ⟨h1, h2⟩ := getMany_all h
      exact ⟨⟨n, hn, h1⟩, h2⟩
    · rw [l4Rows_out hg hn] at h; cases h
theorem rdAll_yes {b : List UInt8} {a e : Int} {wide most : Nat} {F : List Int} (h : l4Rows b a wide most = some (F, e)) : ∃ R, rdAll b most wide (some a) = (R, some e) ∧ R.flatten = F := by
  cases hg : getNum b a with
  | none => rw [l4Rows_no hg] at h; cases h
  | some p =>
    obtain ⟨n, e1⟩ := p
    by_cases hn : n ≤ most
    · rw [l4Rows_in hg hn] at h
      obtain ⟨R, hR, hf⟩ := rdRows_many h
      refine ⟨R, ?_, hf⟩
      unfold rdAll rdCap
      rw [rdNum_yes hg]
      dsimp only
      rw [if_pos (by omega), Int.toNat_natCast]
      exact hR
    · rw [l4Rows_out hg hn] at h; cases h
theorem rdAll_not {b : List UInt8} {a : Int} {wide most : Nat} (h : l4Rows b a wide most = none) : (rdAll b most wide (some a)).2 = none := by
  unfold rdAll rdCap
  cases hg : getNum b a with
  | none => rw [rdNum_no hg]; dsimp only; rw [if_pos (by omega), rdRows_none]
  | some p =>
    obtain ⟨n, e1⟩ := p
    rw [rdNum_yes hg]
    dsimp only
    by_cases hn : n ≤ most
    · rw [l4Rows_in hg hn] at h
      rw [if_pos (by omega), Int.toNat_natCast]
      exact rdRows_not h
    · rw [if_neg (by omega), rdRows_none]

/-! ### numbers as rows -/

def chunkC : List Int → List CellD
  | x :: y :: t => ⟨x, y⟩ :: chunkC t
  | _ => []
def chunkS : List Int → List SeatD
  | x :: y :: z :: t => ⟨x, y, z - 1⟩ :: chunkS t
  | _ => []
def chunkE : List Int → List EntryD
  | x :: y :: z :: u :: v :: t => ⟨x, y, ⟨z, u, v⟩⟩ :: chunkE t
  | _ => []
def toC (r : List Int) : CellD := ⟨r.getD 0 0, r.getD 1 0⟩
def toS (r : List Int) : SeatD := ⟨r.getD 0 0, r.getD 1 0, r.getD 2 0 - 1⟩
def toE (r : List Int) : EntryD := ⟨r.getD 0 0, r.getD 1 0, ⟨r.getD 2 0, r.getD 3 0, r.getD 4 0⟩⟩
theorem chunkC_flat : ∀ {R : List (List Int)}, (∀ r ∈ R, r.length = 2) → chunkC R.flatten = R.map toC := by
  intro R
  induction R with
  | nil => intro _; rfl
  | cons r R ih =>
    intro h
    have h1 := h r (List.mem_cons_self ..)
    match r, h1 with
    | [x, y], _ => rw [List.flatten_cons, List.map_cons]; show _ :: chunkC R.flatten = _; rw [ih (fun q hq => h q (List.mem_cons_of_mem _ hq))]; rfl
theorem chunkS_flat : ∀ {R : List (List Int)}, (∀ r ∈ R, r.length = 3) → chunkS R.flatten = R.map toS := by
  intro R
  induction R with
  | nil => intro _; rfl
  | cons r R ih =>
    intro h
    have h1 := h r (List.mem_cons_self ..)
    match r, h1 with
    | [x, y, z], _ => rw [List.flatten_cons, List.map_cons]; show _ :: chunkS R.flatten = _; rw [ih (fun q hq => h q (List.mem_cons_of_mem _ hq))]; rfl
theorem chunkE_flat : ∀ {R : List (List Int)}, (∀ r ∈ R, r.length = 5) → chunkE R.flatten = R.map toE := by
  intro R
  induction R with
  | nil => intro _; rfl
  | cons r R ih =>
    intro h
    have h1 := h r (List.mem_cons_self ..)
    match r, h1 with
    | [x, y, z, u, v], _ => rw [List.flatten_cons, List.map_cons]; show _ :: chunkE R.flatten = _; rw [ih (fun q hq => h q (List.mem_cons_of_mem _ hq))]; rfl

/-! ### a log from its bytes -/

def unpackL (b : List UInt8) (a : Int) : LogD × Int × Bool :=
  match getNum b a with
  | none => (zeroL, 0, false)
  | some (base, e) => match l4Rows b (e : Nat) 2 40 with
    | none => (zeroL, 0, false)
    | some (F1, e1) => match l4Rows b e1 3 10 with
      | none => (zeroL, 0, false)
      | some (F2, e2) => match l4Rows b e2 5 60 with
        | none => (zeroL, 0, false)
        | some (F3, e3) => if logOk ⟨(base : Nat), ⟨chunkC F1, chunkS F2⟩, chunkE F3⟩ then (⟨(base : Nat), ⟨chunkC F1, chunkS F2⟩, chunkE F3⟩, e3, true) else (zeroL, 0, false)
def rd1 (b : List UInt8) (a : Int) : List (List Int) × Option Int := rdAll b 40 2 (rdNum b (some a)).2
def rd2 (b : List UInt8) (a : Int) : List (List Int) × Option Int := rdAll b 10 3 (rd1 b a).2
def rd3 (b : List UInt8) (a : Int) : List (List Int) × Option Int := rdAll b 60 5 (rd2 b a).2
/-- What the program has read. -/
def unpackI (b : List UInt8) (a : Int) : LogD := ⟨(rdNum b (some a)).1, ⟨(rd1 b a).1.map toC, (rd2 b a).1.map toS⟩, (rd3 b a).1.map toE⟩
theorem unpackL_no {b : List UInt8} {a : Int} (h : (rd3 b a).2 = none) : unpackL b a = (zeroL, 0, false) := by
  unfold unpackL
  unfold rd3 rd2 rd1 at h
  cases hg : getNum b a with
  | none => rfl
  | some p =>
    obtain ⟨base, e⟩ := p
    rw [rdNum_yes hg] at h
    dsimp only at h ⊢
    cases h1 : l4Rows b (e : Nat) 2 40 with
    | none => rfl
    | some q =>
      obtain ⟨F1, e1⟩ := q
      obtain ⟨R1, hR1, -⟩ := rdAll_yes h1
      rw [hR1] at h
      dsimp only at h ⊢
      cases h2 : l4Rows b e1 3 10 with
      | none => rfl
      | some q =>
        obtain ⟨F2, e2⟩ := q
        obtain ⟨R2, hR2, -⟩ := rdAll_yes h2
        rw [hR2] at h
        dsimp only at h ⊢
        cases h3 : l4Rows b e2 5 60 with
        | none => rfl
        | some q =>
          obtain ⟨F3, e3⟩ := q
          obtain ⟨R3, hR3, -⟩ := rdAll_yes h3
          rw [hR3] at h
          cases h
theorem unpackL_yes {b : List UInt8} {a e : Int} (h : (rd3 b a).2 = some e) : unpackL b a = if logOk (unpackI b a) then (unpackI b a, e, true) else (zeroL, 0, false) := by
  unfold unpackL unpackI
  have h' := h
  unfold rd3 rd2 rd1 at h
  cases hg : getNum b a with
  | none => rw [rdNum_no hg] at h; dsimp only at h; rw [rdAll_none] at h; dsimp only at h; rw [rdAll_none] at h; dsimp only at h; rw [rdAll_none] at h; cases h
  | some p =>
    obtain ⟨base, e0⟩ := p
    rw [rdNum_yes hg] at h
    dsimp only at h ⊢
    cases h1 : l4Rows b (e0 : Nat) 2 40 with
    | none => rw [rdAll_not h1, rdAll_none] at h; dsimp only at h; rw [rdAll_none] at h; cases h
    | some q =>
      obtain ⟨F1, e1⟩ := q
      obtain ⟨R1, hR1, hf1⟩ := rdAll_yes h1
      have k1 : rd1 b a = (R1, some e1) := by unfold rd1; rw [rdNum_yes hg]; exact hR1
      rw [hR1] at h
      dsimp only at h ⊢
      cases h2 : l4Rows b e1 3 10 with
      | none => rw [rdAll_not h2, rdAll_none] at h; cases h
      | some q =>
        obtain ⟨F2, e2⟩ := q
        obtain ⟨R2, hR2, hf2⟩ := rdAll_yes h2
        have k2 : rd2 b a = (R2, some e2) := by unfold rd2; rw [k1]; exact hR2
        rw [hR2] at h
        dsimp only at h ⊢
        cases h3 : l4Rows b e2 5 60 with
        | none => rw [rdAll_not h3] at h; cases h
        | some q =>
          obtain ⟨F3, e3⟩ := q
          obtain ⟨R3, hR3, hf3⟩ := rdAll_yes h3
          have k3 : rd3 b a = (R3, some e3) := by unfold rd3; rw [k2]; exact hR3
          rw [hR3] at h
          injection h with h
          subst h
          have w1 : ∀ r ∈ R1, r.length = 2 := fun r hr => (rdAll_wide b 40 2 _ r (by rw [hR1]; exact hr)).1
          have w2 : ∀ r ∈ R2, r.length = 3 := fun r hr => (rdAll_wide b 10 3 _ r (by rw [hR2]; exact hr)).1
          have w3 : ∀ r ∈ R3, r.length = 5 := fun r hr => (rdAll_wide b 60 5 _ r (by rw [hR3]; exact hr)).1
          dsimp only
          rw [← hf1, ← hf2, ← hf3, chunkC_flat w1, chunkS_flat w2, chunkE_flat w3, k1, k2, k3, rdNum_yes hg]

/-! ### what is packed is unpacked -/

theorem chunkC_pack (l : List CellD) : chunkC (l.flatMap pC) = l := by
  induction l with
  | nil => rfl
  | cons c l ih => rw [List.flatMap_cons]; show _ :: chunkC (l.flatMap pC) = _; rw [ih]
theorem chunkS_pack (l : List SeatD) : chunkS (l.flatMap pS) = l := by
  induction l with
  | nil => rfl
  | cons c l ih =>
    rw [List.flatMap_cons]
    show (⟨c.client, c.req, c.answer + 1 - 1⟩ : SeatD) :: chunkS (l.flatMap pS) = _
    rw [ih, Int.add_sub_cancel]
theorem chunkE_pack (l : List EntryD) : chunkE (l.flatMap pE) = l := by
  induction l with
  | nil => rfl
  | cons c l ih => rw [List.flatMap_cons]; show _ :: chunkE (l.flatMap pE) = _; rw [ih]
theorem putAll_app (x y : List Int) : putAll (x ++ y) = putAll x ++ putAll y := by simp [putAll, List.flatMap_append]
theorem putAll_one (x : Nat) : putAll [(x : Int)] = putNum x := by simp [putAll]
theorem rows_put {l : List Int} {m wide most : Nat} (pre rest : List UInt8) (hl : l.length = m * wide) (hm : m ≤ most) (hm2 : m ≤ 1000) (h : ∀ x ∈ l, 0 ≤ x ∧ x ≤ 9223372036854775807) :
    l4Rows (pre ++ (putAll ([(m : Int)] ++ l) ++ rest)) (pre.length : Int) wide most = some (l, ((pre.length + (putAll ([(m : Int)] ++ l)).length : Nat) : Int)) := by
  have h9 : (128 : Nat) ^ 9 = 9223372036854775808 := by decide
  have h1 := getNum_put pre (putAll l ++ rest) m (by omega)
  have e1 : pre ++ (putAll ([(m : Int)] ++ l) ++ rest) = pre ++ putNum m ++ (putAll l ++ rest) := by rw [putAll_app, putAll_one]; simp
  rw [e1, l4Rows_in h1 hm]
  have h2 := getMany_put l (pre ++ putNum m) rest h
  rw [List.length_append, hl] at h2
  have e2 : pre ++ putNum m ++ (putAll l ++ rest) = pre ++ putNum m ++ putAll l ++ rest := by simp
  rw [e2, h2, putAll_app, putAll_one, List.length_append, Nat.add_assoc]
theorem unpack_pack {l : LogD} (hl : logOk l = true) (rest : List UInt8) : unpackL (putNums (packNums l) ++ rest) 0 = (l, (((putNums (packNums l)).length : Nat) : Int), true) := by
  have hg := logOk_iff.1 hl
  have hi := imageOk_iff.1 hg.image
  have hs := packNums_small hl
  have hp : putNums (packNums l) = putAll (packNums l) := putNums_pos (fun x hx => (hs x hx).1)
  have hb : ∀ x ∈ packNums l, 0 ≤ x ∧ x ≤ 9223372036854775807 := fun x hx => by have := hs x hx; omega
  have h9 : (128 : Nat) ^ 9 = 9223372036854775808 := by decide
  rw [hp]
  obtain ⟨base, hbase⟩ : ∃ n : Nat, (n : Int) = l.base := ⟨l.base.toNat, by have := hg.base; omega⟩
  have hbn : base < 128 ^ 9 := by have := hg.last; have := hg.base; omega
  have hnums : packNums l = [(base : Int)] ++ ([(l.image.cells.length : Int)] ++ l.image.cells.flatMap pC) ++ ([(l.image.seats.length : Int)] ++ l.image.seats.flatMap pS) ++ ([(l.entries.length : Int)] ++ l.entries.flatMap pE) := by
    unfold packNums pack3 pack2 pack1
    rw [hbase]
    simp
  have hC : ∀ x ∈ l.image.cells.flatMap pC, 0 ≤ x ∧ x ≤ 9223372036854775807 := fun x hx => hb x (by rw [hnums]; simp only [List.mem_append]; exact .inl (.inl (.inr (.inr hx))))
  have hS : ∀ x ∈ l.image.seats.flatMap pS, 0 ≤ x ∧ x ≤ 9223372036854775807 := fun x hx => hb x (by rw [hnums]; simp only [List.mem_append]; exact .inl (.inr (.inr hx)))
  have hE : ∀ x ∈ l.entries.flatMap pE, 0 ≤ x ∧ x ≤ 9223372036854775807 := fun x hx => hb x (by rw [hnums]; simp only [List.mem_append]; exact .inr (.inr hx))
  rw [hnums]
  generalize hXC : putAll ([(l.image.cells.length : Int)] ++ l.image.cells.flatMap pC) = XC
  generalize hXS : putAll ([(l.image.seats.length : Int)] ++ l.image.seats.flatMap pS) = XS
  generalize hXE : putAll ([(l.entries.length : Int)] ++ l.entries.flatMap pE) = XE
  have hall : putAll ([(base : Int)] ++ ([(l.image.cells.length : Int)] ++ l.image.cells.flatMap pC) ++ ([(l.image.seats.length : Int)] ++ l.image.seats.flatMap pS) ++ ([(l.entries.length : Int)] ++ l.entries.flatMap pE)) = putNum base ++ XC ++ XS ++ XE := by
    rw [putAll_app, putAll_app, putAll_app, putAll_one, hXC, hXS, hXE]
  rw [hall]
  have g0 := getNum_put [] (XC ++ XS ++ XE ++ rest) base hbn
  have g1 := rows_put (wide := 2) (most := 40) (putNum base) (XS ++ XE ++ rest) (l := l.image.cells.flatMap pC) (m := l.image.cells.length) (by rw [flat_len pC_len, Nat.mul_comm]) hi.nc (by have := hi.nc; omega) hC
  have g2 := rows_put (wide := 3) (most := 10) (putNum base ++ XC) (XE ++ rest) (l := l.image.seats.flatMap pS) (m := l.image.seats.length) (by rw [flat_len pS_len, Nat.mul_comm]) hi.ns (by have := hi.ns; omega) hS
  have g3 := rows_put (wide := 5) (most := 60) (putNum base ++ XC ++ XS) rest (l := l.entries.flatMap pE) (m := l.entries.length) (by rw [flat_len pE_len, Nat.mul_comm]) hg.many (by have := hg.many; omega) hE
  rw [hXC] at g1
  rw [hXS] at g2
  rw [hXE] at g3
  simp only [List.nil_append, List.length_nil, Nat.zero_add] at g0
  have a0 : putNum base ++ (XC ++ XS ++ XE ++ rest) = putNum base ++ XC ++ XS ++ XE ++ rest := by simp
  have a1 : putNum base ++ (XC ++ (XS ++ XE ++ rest)) = putNum base ++ XC ++ XS ++ XE ++ rest := by simp
  have a2 : putNum base ++ XC ++ (XS ++ (XE ++ rest)) = putNum base ++ XC ++ XS ++ XE ++ rest := by simp
  have a3 : putNum base ++ XC ++ XS ++ (XE ++ rest) = putNum base ++ XC ++ XS ++ XE ++ rest := by simp
  rw [a0] at g0
  rw [a1] at g1
  rw [a2] at g2
  rw [a3] at g3
  generalize putNum base ++ XC ++ XS ++ XE ++ rest = b at *
  unfold unpackL
  have g0' : getNum b 0 = some (base, (putNum base).length) := g0
  rw [g0']
  dsimp only
  rw [g1]
  dsimp only
  rw [show ((putNum base).length + XC.length : Nat) = (putNum base ++ XC).length by simp only [List.length_append], g2]
  dsimp only
  rw [show ((putNum base ++ XC).length + XS.length : Nat) = (putNum base ++ XC ++ XS).length by simp only [List.length_append], g3]
  dsimp only
  rw [chunkC_pack, chunkS_pack, chunkE_pack, hbase]
  have hl' : logOk ⟨l.base, ⟨l.image.cells, l.image.seats⟩, l.entries⟩ = true := hl
  rw [if_pos hl']
  simp only [List.length_append]

end Go.Proofs.Ytbfbdhjeoknjkaa
