/-
  Lists of lists of bytes: sized, copied, compared, marked, held.
-/
import Derived.Test.YtikkfkomieedmaaUnframe2
import Derived.StillTailTactics
namespace Go.Proofs.Ytikkfkomieedmaa
open Go.RowKit

theorem info_ByteL : (Try.prog.info? 22).map (fun i => (i.zero, i.size, i.bytes)) = some (some (.slice none 0 0), 1, 24) := by kernel_rfl
theorem oneCell_S (l : List SlD) : ∀ u ∈ l.flatMap eS, u.oneCell' = true := by
  intro u hu
  obtain ⟨b, _, hb⟩ := List.mem_flatMap.1 hu
  simp only [eS, List.mem_singleton] at hb
  subst hb
  rfl

def SlD.v (s : SlD) : Value := .slice s.A s.n s.c
def SlD.Mine (s : SlD) (w : World) (lo hi : Nat) : Prop := O_ByteS w lo hi s.v s.l
theorem SlD.Good.r {w : World} {B : Nat} {s : SlD} (h : s.Good w B) : R_ByteS w B (.slice s.A s.n s.c) s.l := RdS.of h.2.2.2 h.1 h.2.1 h.2.2.1
theorem SlD.Mine.good {w : World} {lo hi : Nat} {s : SlD} (h : s.Mine w lo hi) : s.Good w hi := by
  obtain ⟨A, n, c, hv, hl, h1, h2, h3⟩ := OwnS.rd h
  injection hv with e1 e2 e3
  subst e1 e2 e3
  exact ⟨hl, h1, h2, h3⟩
theorem SlD.Mine.keep {w w' : World} {lo hi : Nat} {s : SlD} (h : s.Mine w lo hi) (hk : ∀ k, lo ≤ k → k < hi → w'.heap[k]? = w.heap[k]?) : s.Mine w' lo hi := OwnS.keep h hk
theorem SlD.Mine.wide {w : World} {lo hi lo' hi' : Nat} {s : SlD} (h : s.Mine w lo hi) (h1 : lo' ≤ lo) (h2 : hi ≤ hi') : s.Mine w lo' hi' := OwnS.wide h h1 h2
/-- The rows lie in different blocks. -/
def Parted (ss : List SlD) : Prop := ss.Pairwise fun s t => ∀ g, blk s.v = some g → blk t.v ≠ some g
theorem O_ByteS.blks {w : World} {lo hi : Nat} {v : Value} {l : List UInt8} (h : O_ByteS w lo hi v l) : ∀ g, blk v = some g → lo ≤ g ∧ g < hi := by
  obtain ⟨A, n, c, rfl, _, h⟩ := h
  exact h.lt
theorem Parted.snoc {w : World} {lo mid hi : Nat} {ss : List SlD} {s : SlD} (h : Parted ss) (hs : ∀ t ∈ ss, t.Mine w lo mid) {w' : World} (hm : s.Mine w' mid hi) : Parted (ss ++ [s]) := by
  refine List.pairwise_append.2 ⟨h, List.pairwise_singleton _ _, ?_⟩
  intro t ht u hu g h1 h2
  simp only [List.mem_singleton] at hu
  subst hu
  have := (hs t ht).blks g h1
  have := hm.blks g h2
  omega

/-- What a write to another row leaves of a row. -/
theorem Own.spare {w w' : World} {lo hi sz n : Nat} {e : TypeId} {v : Value} {xs : List Value} (h : Own w lo hi e sz v n xs) {row : Option Nat} (hb : w.grownBy w' row) (hr : ∀ g, row = some g → blk v ≠ some g) : Own w' lo hi e sz v n xs := by
  refine ⟨h.1, ?_⟩
  rcases h.2 with h1 | ⟨g, cap, cur, h3, h4, h5, h6, h7, h8, h9, h10⟩
  · exact .inl h1
  · by_cases hc : cap = 0
    · subst hc
      obtain rfl : n = 0 := by omega
      exact .inl ⟨rfl, _, h3⟩
    · refine .inr ⟨g, cap, cur, h3, h4, h5, (hb.block g (Array.getElem?_eq_some_iff.1 h6).1 ?_).trans h6, h7, h8, h9, h10⟩
      intro hg
      refine hr g hg.symm ?_
      rw [h3]
      exact blk_row (by omega)

def R_ByteSS (w : World) (B : Nat) (v : Value) (ls : List (List UInt8)) : Prop := ∃ ss : List SlD, ls = ss.map (·.l) ∧ RdS w B 1 eS v ss ∧ ∀ s ∈ ss, s.Good w B
def O_ByteSS (w : World) (lo hi : Nat) (v : Value) (ls : List (List UInt8)) : Prop := ∃ ss : List SlD, ls = ss.map (·.l) ∧ OwnS w lo hi 22 1 eS v ss ∧ (∀ s ∈ ss, s.Mine w lo hi) ∧ Parted ss
theorem R_ByteSS.keep {w w' : World} {B : Nat} {v : Value} {ls : List (List UInt8)} (h : R_ByteSS w B v ls) (hk : ∀ k, k < B → w'.heap[k]? = w.heap[k]?) : R_ByteSS w' B v ls := by
  obtain ⟨ss, rfl, h1, h2⟩ := h
  exact ⟨ss, rfl, h1.keep hk, fun s hs => (h2 s hs).keep hk⟩
theorem O_ByteSS.keep {w w' : World} {lo hi : Nat} {v : Value} {ls : List (List UInt8)} (h : O_ByteSS w lo hi v ls) (hk : ∀ k, lo ≤ k → k < hi → w'.heap[k]? = w.heap[k]?) : O_ByteSS w' lo hi v ls := by
  obtain ⟨ss, rfl, h1, h2, h3⟩ := h
  exact ⟨ss, rfl, h1.keep hk, fun s hs => (h2 s hs).keep hk, h3⟩
theorem O_ByteSS.rd {w : World} {lo hi : Nat} {v : Value} {ls : List (List UInt8)} (h : O_ByteSS w lo hi v ls) : R_ByteSS w hi v ls := by
  obtain ⟨ss, rfl, h1, h2, _⟩ := h
  exact ⟨ss, rfl, h1.rd, fun s hs => (h2 s hs).good⟩
theorem O_ByteSS.wide {w : World} {lo hi lo' hi' : Nat} {v : Value} {ls : List (List UInt8)} (h : O_ByteSS w lo hi v ls) (h1 : lo' ≤ lo) (h2 : hi ≤ hi') : O_ByteSS w lo' hi' v ls := by
  obtain ⟨ss, rfl, h3, h4, h5⟩ := h
  exact ⟨ss, rfl, h3.wide h1 h2, fun s hs => (h4 s hs).wide h1 h2, h5⟩
theorem R_ByteSS.more {w : World} {B B' : Nat} {v : Value} {ls : List (List UInt8)} (h : R_ByteSS w B v ls) (hB : B ≤ B') : R_ByteSS w B' v ls := by
  obtain ⟨ss, rfl, h1, h2⟩ := h
  exact ⟨ss, rfl, h1.more hB, fun s hs => (h2 s hs).more hB⟩
theorem R_ByteSS.nil {w : World} {B : Nat} : R_ByteSS w B (.slice none 0 0) [] := ⟨[], rfl, RdS.nil, by simp⟩
theorem O_ByteSS.nil {w : World} {lo hi : Nat} (A : Option Addr) : O_ByteSS w lo hi (.slice A 0 0) [] := ⟨[], rfl, OwnS.nil A, by simp, List.Pairwise.nil⟩
theorem R_ByteSS.len {w : World} {B : Nat} {v : Value} {ls : List (List UInt8)} (h : R_ByteSS w B v ls) : ls.length ≤ 9223372036854775807 := by
  obtain ⟨ss, rfl, ⟨A, n, c, _, rfl, h1, h2, _⟩, _⟩ := h
  unfold maxLen at h2
  rw [List.length_map]
  omega

/-- How many bytes. -/
def tot (ls : List (List UInt8)) : Nat := (ls.map List.length).sum
theorem tot_append (a b : List (List UInt8)) : tot (a ++ b) = tot a + tot b := by simp [tot]
theorem tot_snoc {ls : List (List UInt8)} {k : Nat} {x : List UInt8} (hx : ls[k]? = some x) : tot (ls.take (k + 1)) = tot (ls.take k) + x.length := by
  rw [take_snoc hx, tot_append]
  simp [tot]
theorem tot_take_le (ls : List (List UInt8)) (k : Nat) : tot (ls.take k) ≤ tot ls := by
  have h := tot_append (ls.take k) (ls.drop k)
  rw [List.take_append_drop] at h
  omega
theorem len_le_tot {ls : List (List UInt8)} {x : List UInt8} (hx : x ∈ ls) : x.length ≤ tot ls := by
  induction ls with
  | nil => cases hx
  | cons a ls ih =>
    simp only [tot, List.map_cons, List.sum_cons] at ih ⊢
    rcases List.mem_cons.1 hx with rfl | h
    · omega
    · have := ih h
      omega
def NK_ByteSS (ls : List (List UInt8)) : Nat := tot ls
def szBB (ls : List (List UInt8)) : Nat := ls.length + tot ls
def MK_ByteSS (k : Int) (ls : List (List UInt8)) : List (List UInt8) := ls.mapIdx fun i l => marksByte (k + (tot (ls.take i) : Nat)) l.length








end Go.Proofs.Ytikkfkomieedmaa
