/-
  Lists of lists of bytes: sized, copied, compared, marked, held.
-/
import Derived.Test.YtpemnpoclahfnaaUnframe2
import Derived.StillTailTactics
namespace Go.Proofs.Ytpemnpoclahfnaa
open Go.RowKit

theorem info_ByteL : (Try.prog.info? 22).map (fun i => (i.zero, i.size, i.bytes)) = some (some (.slice none 0 0), 1, 24) := by kernel_rfl
theorem oneCell_S (l : List SlD) : ∀ u ∈ l.flatMap eS, u.oneCell' = true := by
  intro u hu
  obtain ⟨b, _, hb⟩ := List.mem_flatMap.1 hu
  simp only [eS, List.mem_singleton] at hb
  subst hb
  rfl

def SlD.v (s : SlD) : Value := .slice s.A s.n s.c
def SlD.Mine (s : SlD) (w : World) (lo hi : Nat) : Prop := O_ByteS w lo hi s.v s.l
theorem SlD.Good.r {w : World} {B : Nat} {s : SlD} (h : s.Good w B) : R_ByteS w B (.slice s.A s.n s.c) s.l := RdS.of h.2.2.2 h.1 h.2.1 h.2.2.1
theorem SlD.Mine.good {w : World} {lo hi : Nat} {s : SlD} (h : s.Mine w lo hi) : s.Good w hi := by
  obtain ⟨A, n, c, hv, hl, h1, h2, h3⟩ := OwnS.rd h
  injection hv with e1 e2 e3
  subst e1 e2 e3
  exact ⟨hl, h1, h2, h3⟩
theorem SlD.Mine.keep {w w' : World} {lo hi : Nat} {s : SlD} (h : s.Mine w lo hi) (hk : ∀ k, lo ≤ k → k < hi → w'.heap[k]? = w.heap[k]?) : s.Mine w' lo hi := OwnS.keep h hk
theorem SlD.Mine.wide {w : World} {lo hi lo' hi' : Nat} {s : SlD} (h : s.Mine w lo hi) (h1 : lo' ≤ lo) (h2 : hi ≤ hi') : s.Mine w lo' hi' := OwnS.wide h h1 h2
/-- The rows lie in different blocks. -/
def Parted (ss : List SlD) : Prop := ss.Pairwise fun s t => ∀ g, blk s.v = some g → blk t.v ≠ some g
theorem O_ByteS.blks {w : World} {lo hi : Nat} {v : Value} {l : List UInt8} (h : O_ByteS w lo hi v l) : ∀ g, blk v = some g → lo ≤ g ∧ g < hi := by
  obtain ⟨A, n, c, rfl, _, h⟩ := h
  exact h.lt
theorem Parted.snoc {w : World} {lo mid hi : Nat} {ss : List SlD} {s : SlD} (h : Parted ss) (hs : ∀ t ∈ ss, t.Mine w lo mid) {w' : World} (hm : s.Mine w' mid hi) : Parted (ss ++ [s]) := by
  refine List.pairwise_append.2 ⟨h, List.pairwise_singleton _ _, ?_⟩
  intro t ht u hu g h1 h2
  simp only [List.mem_singleton] at hu
  subst hu
  have := (hs t ht).blks g h1
  have := hm.blks g h2
  omega

/-- What a write to another row leaves of a row. -/
theorem Own.spare {w w' : World} {lo hi sz n : Nat} {e : TypeId} {v : Value} {xs : List Value} (h : Own w lo hi e sz v n xs) {row : Option Nat} (hb : w.grownBy w' row) (hr : ∀ g, row = some g → blk v ≠ some g) : Own w' lo hi e sz v n xs := by
  refine ⟨h.1, ?_⟩
  rcases h.2 with h1 | ⟨g, cap, cur, h3, h4, h5, h6, h7, h8, h9, h10⟩
  · exact .inl h1
  · by_cases hc : cap = 0
    · subst hc
      obtain rfl : n = 0 := by omega
      exact .inl ⟨rfl, _, h3⟩
    · refine .inr ⟨g, cap, cur, h3, h4, h5, (hb.block g (Array.getElem?_eq_some_iff.1 h6).1 ?_).trans h6, h7, h8, h9, h10⟩
      intro hg
      refine hr g hg.symm ?_
      rw [h3]
      exact blk_row (by omega)

def R_ByteSS (w : World) (B : Nat) (v : Value) (ls : List (List UInt8)) : Prop := ∃ ss : List SlD, ls = ss.map (·.l) ∧ RdS w B 1 eS v ss ∧ ∀ s ∈ ss, s.Good w B
def O_ByteSS (w : World) (lo hi : Nat) (v : Value) (ls : List (List UInt8)) : Prop := ∃ ss : List SlD, ls = ss.map (·.l) ∧ OwnS w lo hi 22 1 eS v ss ∧ (∀ s ∈ ss, s.Mine w lo hi) ∧ Parted ss
theorem R_ByteSS.keep {w w' : World} {B : Nat} {v : Value} {ls : List (List UInt8)} (h : R_ByteSS w B v ls) (hk : ∀ k, k < B → w'.heap[k]? = w.heap[k]?) : R_ByteSS w' B v ls := by
  obtain ⟨ss, rfl, h1, h2⟩ := h
  exact ⟨ss, rfl, h1.keep hk, fun s hs => (h2 s hs).keep hk⟩
theorem O_ByteSS.keep {w w' : World} {lo hi : Nat} {v : Value} {ls : List (List UInt8)} (h : O_ByteSS w lo hi v ls) (hk : ∀ k, lo ≤ k → k < hi → w'.heap[k]? = w.heap[k]?) : O_ByteSS w' lo hi v ls := by
  obtain ⟨ss, rfl, h1, h2, h3⟩ := h
  exact ⟨ss, rfl, h1.keep hk, fun s hs => (h2 s hs).keep hk, h3⟩
theorem O_ByteSS.rd {w : World} {lo hi : Nat} {v : Value} {ls : List (List UInt8)} (h : O_ByteSS w lo hi v ls) : R_ByteSS w hi v ls := by
  obtain ⟨ss, rfl, h1, h2, _⟩ := h
  exact ⟨ss, rfl, h1.rd, fun s hs => (h2 s hs).good⟩
theorem O_ByteSS.wide {w : World} {lo hi lo' hi' : Nat} {v : Value} {ls : List (List UInt8)} (h : O_ByteSS w lo hi v ls) (h1 : lo' ≤ lo) (h2 : hi ≤ hi') : O_ByteSS w lo' hi' v ls := by
  obtain ⟨ss, rfl, h3, h4, h5⟩ := h
  exact ⟨ss, rfl, h3.wide h1 h2, fun s hs => (h4 s hs).wide h1 h2, h5⟩
theorem R_ByteSS.more {w : World} {B B' : Nat} {v : Value} {ls : List (List UInt8)} (h : R_ByteSS w B v ls) (hB : B ≤ B') : R_ByteSS w B' v ls := by
  obtain ⟨ss, rfl, h1, h2⟩ := h
  exact ⟨ss, rfl, h1.more hB, fun s hs => (h2 s hs).more hB⟩
theorem R_ByteSS.nil {w : World} {B : Nat} : R_ByteSS w B (.slice none 0 0) [] := ⟨[], rfl, RdS.nil, by simp⟩
theorem O_ByteSS.nil {w : World} {lo hi : Nat} (A : Option Addr) : O_ByteSS w lo hi (.slice A 0 0) [] := ⟨[], rfl, OwnS.nil A, by simp, List.Pairwise.nil⟩
theorem R_ByteSS.len {w : World} {B : Nat} {v : Value} {ls : List (List UInt8)} (h : R_ByteSS w B v ls) : ls.length ≤ 9223372036854775807 := by
  obtain ⟨ss, rfl, ⟨A, n, c, _, rfl, h1, h2, _⟩, _⟩ := h
  unfold maxLen at h2
  rw [List.length_map]
  omega

/-- How many bytes. -/
def tot (ls : List (List UInt8)) : Nat := (ls.map List.length).sum
theorem tot_append (a b : List (List UInt8)) : tot (a ++ b) = tot a + tot b := by simp [tot]
theorem tot_snoc {ls : List (List UInt8)} {k : Nat} {x : List UInt8} (hx : ls[k]? = some x) : tot (ls.take (k + 1)) = tot (ls.take k) + x.length := by
  rw [take_snoc hx, tot_append]
  simp [tot]
theorem tot_take_le (ls : List (List UInt8)) (k : Nat) : tot (ls.take k) ≤ tot ls := by
  have h := tot_append (ls.take k) (ls.drop k)
  rw [List.take_append_drop] at h
  omega
theorem len_le_tot {ls : List (List UInt8)} {x : List UInt8} (hx : x ∈ ls) : x.length ≤ tot ls := by
  induction ls with
  | nil => cases hx
  | cons a ls ih =>
    simp only [tot, List.map_cons, List.sum_cons] at ih ⊢
    rcases List.mem_cons.1 hx with rfl | h
    · omega
    · have := ih h
      omega
def NK_ByteSS (ls : List (List UInt8)) : Nat := tot ls
def szBB (ls : List (List UInt8)) : Nat := ls.length + tot ls
def MK_ByteSS (k : Int) (ls : List (List UInt8)) : List (List UInt8) := ls.mapIdx fun i l => marksByte (k + (tot (ls.take i) : Nat)) l.length

theorem szByteS_ok (v : Value) (l : List UInt8) (left : Int) (w : World) (B : Nat) (h : R_ByteS w B v l) (h1 : (l.length : Int) ≤ left) (h2 : left ≤ 1048576) :
    Calls Try.prog 62 #[v, .int .i64 left] w fun e w' => e = .returned (.int .i64 (left - l.length)) ∧ w = w' := by
  obtain ⟨A, n, c, rfl, hl, _, _, _⟩ := h
  rw [hl] at h1 ⊢
  clear hl
  go_enter Try.func62, Try.ntmps62
  go_wp2
  go_ret
  exact ⟨rfl, rfl⟩
theorem szByteS_no (v : Value) (l : List UInt8) (left : Int) (w : World) (B : Nat) (h : R_ByteS w B v l) (h1 : left < (l.length : Int)) (h0 : 0 ≤ left) (h2 : left ≤ 1048576) :
    Calls Try.prog 62 #[v, .int .i64 left] w fun e w' => e = .returned (.int .i64 (-1)) ∧ w = w' := by
  have hm := h.len
  obtain ⟨A, n, c, rfl, hl, _, _, _⟩ := h
  rw [hl] at h1 hm
  clear hl
  go_enter Try.func62, Try.ntmps62
  go_wp2
  go_ret
  exact ⟨rfl, rfl⟩

set_option maxRecDepth 100000 in
set_option maxHeartbeats 1000000 in
theorem szByteSS_ok (v : Value) (ls : List (List UInt8)) (left : Int) (w : World) (B : Nat) (h : R_ByteSS w B v ls) (h1 : (szBB ls : Int) ≤ left) (h2 : left ≤ 1048576) :
    Calls Try.prog 39 #[v, .int .i64 left] w fun e w' => e = .returned (.int .i64 (left - szBB ls)) ∧ Ext w w' := by
  obtain ⟨ss, rfl, ⟨A, n, c, rfl, hl, _, _, hr⟩, hg⟩ := h
  unfold szBB at *
  rw [List.length_map, hl] at h1 ⊢
  have ht := tot_take_le (ss.map (·.l))
  have Hl := Lib.hid hl
  have Hg := Lib.hid hg
  clear hl hg
  have h3 : (n : Int) ≤ left := by omega
  generalize hT : tot (ss.map (·.l)) = T at *
  have HT := Lib.hid hT
  clear hT
  go_enter Try.func39, Try.ntmps39
  go_wp2
  go_loopw [1, 5] (fun lv iv wr => ∃ (k m : Nat), k ≤ n ∧ iv = .int .i64 k ∧ lv = .int .i64 (left - n - m) ∧ Hid (tot ((ss.map (·.l)).take k) = m) ∧ m ≤ T ∧ Still w wr) (fun _ iv _ => n - (intOf iv).toNat)
  case atStart => exact ⟨0, 0, by omega, rfl, by go_num, rfl, by omega, Still.refl _⟩
  case round =>
    obtain ⟨k, m, hk, rfl, rfl, hm, hmT, hst⟩ := hrel
    by_cases hlt : k < n
    · obtain ⟨b, off, x, rfl, _, hx1, hc⟩ := (hst.rd hr).sl Hl.out hlt
      have hx2 : (ss.map (·.l))[k]? = some x.l := by rw [List.getElem?_map, hx1]; rfl
      have hs := tot_snoc hx2
      have hs2 := ht (k + 1)
      have hgx : x.Good wr B := by
        obtain ⟨q, rfl⟩ := hst
        exact (Hg.out x (List.mem_of_getElem? hx1)).keep (fun _ _ => rfl)
      rw [hm.out] at hs
      have Hs := Lib.hid hs
      have hle : m + x.l.length ≤ T := by omega
      clear hx1 hx2 hs hs2
      go_wp2_with fail
      refine (szByteS_ok _ _ _ _ B hgx.r (by omega) (by omega)).mono ?_
      rintro e w1 ⟨rfl, rfl⟩
      generalize x.l.length = xl at *
      go_wp2
      go_roundw
      case rel => exact ⟨k + 1, m + xl, by omega, by go_num, by go_num, Hs.out, by omega, by repeat' (first | with_reducible exact Still.refl _ | with_reducible assumption | with_reducible refine Still.drewN ?_ _ | with_reducible refine Still.drew ?_ | with_reducible refine Still.trans ?_ (by with_reducible assumption))⟩
      case measure => simp [intOf]; omega
    · obtain rfl : k = n := by omega
      have hmt : m = T := by
        rw [← hm.out, ← HT.out, List.take_of_length_le (by rw [List.length_map, Hl.out]; omega)]
      subst hmt
      go_wp2
      go_ret
      exact ⟨ret_int (by omega), hst.ext⟩

set_option maxRecDepth 100000 in
set_option maxHeartbeats 1000000 in
theorem szByteSS_no (v : Value) (ls : List (List UInt8)) (left : Int) (w : World) (B : Nat) (h : R_ByteSS w B v ls) (h1 : left < (szBB ls : Int)) (h0 : 0 ≤ left) (h2 : left ≤ 1048576) :
    Calls Try.prog 39 #[v, .int .i64 left] w fun e w' => e = .returned (.int .i64 (-1)) ∧ Ext w w' := by
  have hmm := h.len
  obtain ⟨ss, rfl, ⟨A, n, c, rfl, hl, _, _, hr⟩, hg⟩ := h
  unfold szBB at *
  rw [List.length_map, hl] at h1 hmm
  have ht := tot_take_le (ss.map (·.l))
  have Hl := Lib.hid hl
  have Hg := Lib.hid hg
  clear hl hg
  by_cases h3 : (n : Int) ≤ left
  · generalize hT : tot (ss.map (·.l)) = T at *
    have HT := Lib.hid hT
    clear hT
    go_enter Try.func39, Try.ntmps39
    go_wp2
    go_loopw [1, 5] (fun lv iv wr => ∃ (k m : Nat), k ≤ n ∧ iv = .int .i64 k ∧ lv = .int .i64 (left - n - m) ∧ Hid (tot ((ss.map (·.l)).take k) = m) ∧ (n : Int) + m ≤ left ∧ Still w wr) (fun _ iv _ => n - (intOf iv).toNat)
    case atStart => exact ⟨0, 0, by omega, rfl, by go_num, rfl, by omega, Still.refl _⟩
    case round =>
      obtain ⟨k, m, hk, rfl, rfl, hm, hmT, hst⟩ := hrel
      by_cases hlt : k < n
      · obtain ⟨b, off, x, rfl, _, hx1, hc⟩ := (hst.rd hr).sl Hl.out hlt
        have hx2 : (ss.map (·.l))[k]? = some x.l := by rw [List.getElem?_map, hx1]; rfl
        have hs := tot_snoc hx2
        have hs2 := ht (k + 1)
        have hgx : x.Good wr B := by
          obtain ⟨q, rfl⟩ := hst
          exact (Hg.out x (List.mem_of_getElem? hx1)).keep (fun _ _ => rfl)
        rw [hm.out] at hs
        have Hs := Lib.hid hs
        clear hx1 hx2 hs hs2
        by_cases hle : (n : Int) + m + x.l.length ≤ left
        · go_wp2_with fail
          refine (szByteS_ok _ _ _ _ B hgx.r (by omega) (by omega)).mono ?_
          rintro e w1 ⟨rfl, rfl⟩
          generalize x.l.length = xl at *
          go_wp2
          go_roundw
          case rel => exact ⟨k + 1, m + xl, by omega, by go_num, by go_num, Hs.out, by omega, by repeat' (first | with_reducible exact Still.refl _ | with_reducible assumption | with_reducible refine Still.drewN ?_ _ | with_reducible refine Still.drew ?_ | with_reducible refine Still.trans ?_ (by with_reducible assumption))⟩
          case measure => simp [intOf]; omega
        · go_wp2_with fail
          refine (szByteS_no _ _ _ _ B hgx.r (by omega) (by omega) (by omega)).mono ?_
          rintro e w1 ⟨rfl, rfl⟩
          go_wp2
          go_ret
          exact ⟨rfl, by have := hst.ext; repeat' (first | with_reducible exact Ext.refl _ | with_reducible assumption | with_reducible refine Ext.set ?_ ?_ _ _ | with_reducible refine Ext.alloc ?_ _ | with_reducible refine Ext.drew ?_ | with_reducible refine Ext.drewN ?_ _ | with_reducible refine Ext.trans ?_ (by with_reducible assumption) | omega | (simp; done) | (simp; omega))⟩
      · exfalso
        obtain rfl : k = n := by omega
        have hmt : m = T := by
          rw [← hm.out, ← HT.out, List.take_of_length_le (by rw [List.length_map, Hl.out]; omega)]
        omega
  · go_enter Try.func39, Try.ntmps39
    go_wp2
    go_ret
    exact ⟨rfl, Ext.refl _⟩

set_option maxRecDepth 100000 in
set_option maxHeartbeats 1000000 in
theorem toByteSS_v (v : Value) (ls : List (List UInt8)) (w : World) (B : Nat) (h : R_ByteSS w B v ls) (hB : B ≤ w.heap.size) (hn : szBB ls ≤ 2097152) :
    Calls Try.prog 41 #[v] w fun e w' => ∃ v', e = .returned v' ∧ O_ByteSS w' w.heap.size w'.heap.size v' ls ∧ Ext w w' := by
  obtain ⟨ss, rfl, ⟨A, n, c, rfl, hl, _, _, hr⟩, hg⟩ := h
  unfold szBB at hn
  rw [List.length_map, hl] at hn
  obtain ⟨i0, hi0, hz0, hz1, hz2⟩ := info_parts info_ByteL
  have hmk := fun W => run_make_rows (P := Try.prog) 46 22 i0 _ Try.underlying46 hi0 hz0 .i64 .i64 n (by rw [hz2]; omega) (by omega) W
  rw [hz1] at hmk
  have hT : ∀ x ∈ ss, x.l.length ≤ tot (ss.map (·.l)) := fun x hx => len_le_tot (List.mem_map.2 ⟨x, hx, rfl⟩)
  have HT := Lib.hid hT
  have Hl := Lib.hid hl
  have Hg := Lib.hid hg
  generalize tot (ss.map (·.l)) = T at *
  clear hl hg hT
  go_enter Try.func41, Try.ntmps41
  go_wp2
  go_loopw [4] (fun i wr => ∃ (k : Nat) (rest : List Value) (os : List SlD), k ≤ n ∧ i = .int .i64 k ∧ Own wr w.heap.size (w.heap.size + 1) 22 1 (.slice (some ⟨w.heap.size, 0, none⟩) n n) n (os.flatMap eS ++ rest) ∧ Hid (os.length = k) ∧ Hid (os.map (·.l) = (ss.map (·.l)).take k) ∧ Hid (∀ s ∈ os, s.Mine wr (w.heap.size + 1) wr.heap.size) ∧ Hid (Parted os) ∧ Ext w wr ∧ w.heap.size < wr.heap.size) (fun i _ => n - (intOf i).toNat)
  case atStart =>
    obtain ⟨rest, h⟩ := own_start w (madeCells #[.slice none 0 0] n) n 22 1 (by unfold maxLen; omega) (by simp [size_madeCells])
    exact ⟨0, rest, [], by omega, rfl, by simpa using h, rfl, rfl, by simp [Hid], List.Pairwise.nil, by repeat' (first | with_reducible exact Ext.refl _ | with_reducible assumption | with_reducible refine Ext.set ?_ ?_ _ _ | with_reducible refine Ext.alloc ?_ _ | with_reducible refine Ext.drew ?_ | with_reducible refine Ext.drewN ?_ _ | with_reducible refine Ext.trans ?_ (by with_reducible assumption) | omega | (simp; done) | (simp; omega)), by simp⟩
  case round =>
    obtain ⟨k, rest, os, hk, rfl, hown, hol, hom, hos, hpa, hext, hsz⟩ := hrel
    by_cases hlt : k < n
    · obtain ⟨b, off, x, rfl, hb, hx, hc⟩ := (hext.rd hr hB).sl Hl.out hlt
      have hgx := ((Hg.out x (List.mem_of_getElem? hx)).keep (keepE' hext hB)).r
      have hxT := HT.out x (List.mem_of_getElem? hx)
      have Hx := Lib.hid hx
      clear hx
      go_wp2_with fail
      refine (toByteS_v _ _ _ B hgx (by omega) (by omega)).mono ?_
      rintro e w1 ⟨v1, rfl, o1, hE1⟩
      have hz := hE1.size
      obtain ⟨A1, n1, c1, rfl, hl1, -⟩ := id o1
      have ho0 := hE1.own hown (by omega)
      obtain ⟨⟨v0, hs0⟩, hf0⟩ := ho0.spot (j := k) (by omega)
      obtain ⟨rest', ho1⟩ := ho0.put1 (m := k) (by rw [flat_length eS_len, hol.out]; omega) (by omega) (.slice A1 n1 c1)
      have hE := hext.trans hE1
      clear hown ho0
      go_wp2
      go_roundw
      case rel =>
        refine ⟨k + 1, rest', os ++ [⟨A1, n1, c1, x.l⟩], by omega, by go_num, ?_, ?_, ?_, ?_, ?_, by repeat' (first | with_reducible exact Ext.refl _ | with_reducible assumption | with_reducible refine Ext.set ?_ ?_ _ _ | with_reducible refine Ext.alloc ?_ _ | with_reducible refine Ext.drew ?_ | with_reducible refine Ext.drewN ?_ _ | with_reducible refine Ext.trans ?_ (by with_reducible assumption) | omega | (simp; done) | (simp; omega)), by simp; omega⟩
        · rw [List.flatMap_append]
          simpa [eS] using ho1
        · show _ = _
          rw [List.length_append, hol.out]
          rfl
        · show _ = _
          rw [List.map_append, hom.out, take_snoc (l := ss.map (·.l)) (x := x.l) (by rw [List.getElem?_map, Hx.out]; rfl)]
          rfl
        · intro s hs
          rcases List.mem_append.1 hs with hs | hs
          · refine (((hos.out s hs).keep (keepE hE1 (Nat.le_refl _))).wide (Nat.le_refl _) hz).keep (w' := w1.setCell ⟨w.heap.size, k, none⟩ (.slice A1 n1 c1)) ?_ |>.wide (Nat.le_refl _) (by simp)
            intro q h1 _
            exact Below.heap_setCell w1 ⟨w.heap.size, k, none⟩ _ q (by show q ≠ w.heap.size; omega)
          · simp only [List.mem_singleton] at hs
            subst hs
            refine (SlD.Mine.keep (w' := w1.setCell ⟨w.heap.size, k, none⟩ (.slice A1 n1 c1)) (s := ⟨A1, n1, c1, x.l⟩) o1 ?_).wide (by omega) (by simp)
            intro q h1 _
            exact Below.heap_setCell w1 ⟨w.heap.size, k, none⟩ _ q (by show q ≠ w.heap.size; omega)
        · exact Parted.snoc hpa.out hos.out (s := ⟨A1, n1, c1, x.l⟩) o1
      case measure => simp [intOf]; omega
    · obtain rfl : k = n := by omega
      go_wp2
      go_ret
      have hm := hom.out
      rw [List.take_of_length_le (by rw [List.length_map, Hl.out]; omega)] at hm
      have ho := hown.full (by rw [flat_length eS_len, hol.out])
      exact ⟨_, rfl, ⟨os, hm.symm, OwnS.of (ho.wide (Nat.le_refl _) hsz) hol.out, fun s hs => (hos.out s hs).wide (by omega) (Nat.le_refl _), hpa.out⟩, hext⟩

set_option maxRecDepth 100000 in
set_option maxHeartbeats 1000000 in
theorem eqByteSS_v (u v : Value) (x y : List (List UInt8)) (w : World) (X Y : Nat) (hu : R_ByteSS w X u x) (hX : X ≤ w.heap.size) (hv : R_ByteSS w Y v y) (hY : Y ≤ w.heap.size) :
    Calls Try.prog 43 #[u, v] w fun e w' => e = .returned (.bool (decide (x = y))) ∧ Ext w w' := by
  have hm1 := hu.len
  have hm2 := hv.len
  obtain ⟨xs, rfl, ⟨A, n, c, rfl, hxl, _, _, hx⟩, hgx⟩ := hu
  obtain ⟨ys, rfl, ⟨A', m, d, rfl, hyl, _, _, hy⟩, hgy⟩ := hv
  rw [List.length_map, hxl] at hm1
  rw [List.length_map, hyl] at hm2
  by_cases hnm : n = m
  · subst hnm
    have Hx := Lib.hid hxl
    have Hy := Lib.hid hyl
    have Gx := Lib.hid hgx
    have Gy := Lib.hid hgy
    clear hxl hyl hgx hgy
    go_enter Try.func43, Try.ntmps43
    go_wp2
    go_loopw [5] (fun i wr => ∃ k : Nat, k ≤ n ∧ i = .int .i64 k ∧ Hid ((xs.map (·.l)).take k = (ys.map (·.l)).take k) ∧ Ext w wr) (fun i _ => n - (intOf i).toNat)
    case atStart => exact ⟨0, by omega, rfl, by simp [Hid], Ext.refl _⟩
    case round =>
      obtain ⟨k, hk, rfl, hpre, hst⟩ := hrel
      by_cases hlt : k < n
      · obtain ⟨b, off, x, rfl, _, hx1, hc⟩ := (hst.rd hx hX).sl Hx.out hlt
        obtain ⟨b', off', y, rfl, _, hy1, hc'⟩ := (hst.rd hy hY).sl Hy.out hlt
        have gx := ((Gx.out x (List.mem_of_getElem? hx1)).keep (keepE' hst hX)).r
        have gy := ((Gy.out y (List.mem_of_getElem? hy1)).keep (keepE' hst hY)).r
        have hx2 : (xs.map (·.l))[k]? = some x.l := by rw [List.getElem?_map, hx1]; rfl
        have hy2 : (ys.map (·.l))[k]? = some y.l := by rw [List.getElem?_map, hy1]; rfl
        have Hx1 := Lib.hid hx2
        have Hy1 := Lib.hid hy2
        have hsz := hst.size
        have hlt' : (k : Int) < (n : Int) := by omega
        clear hx1 hy1 hx2 hy2 hx hy
        go_wp2
        go_still_tail 8, (by kernel_rfl)
        have hst1 := hst.drew
        replace gx : R_ByteS wr.drew X _ x.l := gx
        replace gy : R_ByteS wr.drew Y _ y.l := gy
        change wpList _ _ _ _ _ wr.drew
        generalize wr.drew = w2 at hst1 gx gy ⊢
        have hsz2 := hst1.size
        go_wp2_with fail
        refine (eqByteS_v _ _ _ _ _ X Y gx (by omega) gy (by omega)).mono ?_
        rintro e w3 ⟨rfl, hb3⟩
        have hst3 := hst1.trans hb3
        by_cases he : x.l = y.l
        · have hd : decide (x.l = y.l) = true := decide_eq_true he
          rw [hd]
          have He := Lib.hid he
          clear he hd gx gy
          go_wp2
          go_roundw
          case rel => exact ⟨k + 1, by omega, by go_num, by
            show _ = _
            rw [take_snoc Hx1.out, take_snoc Hy1.out, hpre.out, He.out], hst3⟩
          case measure => simp [intOf]; omega
        · have hd : decide (x.l = y.l) = false := decide_eq_false he
          rw [hd]
          have He := Lib.hid he
          clear he hd gx gy
          go_wp2
          go_ret
          refine ⟨?_, hst3⟩
          rw [decide_eq_false]
          · rfl
          · intro heq
            have h1 := Hx1.out
            rw [heq, Hy1.out] at h1
            injection h1 with h1
            exact He.out h1.symm
      · go_wp2
        go_ret
        obtain rfl : k = n := by omega
        have h := hpre.out
        rw [List.take_of_length_le (by rw [List.length_map, Hx.out]; omega), List.take_of_length_le (by rw [List.length_map, Hy.out]; omega)] at h
        exact ⟨by simp [h], hst⟩
  · have hne : Hid (¬ xs.map (·.l) = ys.map (·.l)) := by
      intro h
      have := congrArg List.length h
      rw [List.length_map, List.length_map] at this
      omega
    clear hxl hyl hgx hgy
    go_enter Try.func43, Try.ntmps43
    go_wp2
    go_ret
    refine ⟨?_, Ext.refl _⟩
    rw [decide_eq_false hne.out]
    rfl

set_option maxRecDepth 100000 in
set_option maxHeartbeats 1000000 in
theorem markByteSS_v (v : Value) (ls : List (List UInt8)) (k0 : Int) (lo hi : Nat) (w : World) (ho : O_ByteSS w lo hi v ls) (hhi : hi ≤ w.heap.size) (h0 : 0 ≤ k0) (hn : k0 + (NK_ByteSS ls : Nat) ≤ 4611686018427387904) :
    Calls Try.prog 44 #[v, .int .i64 k0] w fun e w' => e = .returned (.int .i64 (k0 + (NK_ByteSS ls : Nat))) ∧ O_ByteSS w' lo hi v (MK_ByteSS k0 ls) ∧ Fr lo hi w w' := by
  have hmm := ho.rd.len
  obtain ⟨ss, rfl, ⟨A, n, c, rfl, hl, ho⟩, hm, hp⟩ := ho
  rw [List.length_map, hl] at hmm
  unfold NK_ByteSS at *
  have ht := tot_take_le (ss.map (·.l))
  have Hl := Lib.hid hl
  have Hm : Hid (∀ i s, ss[i]? = some s → O_ByteS w lo hi s.v (if i < 0 then marksByte (k0 + (tot ((ss.map (·.l)).take i) : Nat)) s.l.length else s.l)) := by
    intro i s hs
    rw [if_neg (by omega)]
    exact hm s (List.mem_of_getElem? hs)
  have Hp := Lib.hid hp
  have HT : Hid (tot ((ss.map (·.l)).take n) = tot (ss.map (·.l))) := by
    show _ = _
    rw [List.take_of_length_le (by rw [List.length_map, hl]; omega)]
  generalize tot (ss.map (·.l)) = T at *
  clear hl hm hp
  go_enter Try.func44, Try.ntmps44
  go_wp2
  go_loopw [1, 5] (fun q i wr => ∃ (j m : Nat), j ≤ n ∧ i = .int .i64 j ∧ q = .int .i64 (k0 + m) ∧ Hid (tot ((ss.map (·.l)).take j) = m) ∧ m ≤ T ∧ Own wr lo hi 22 1 (.slice A n c) n (ss.flatMap eS) ∧ Hid (∀ i s, ss[i]? = some s → O_ByteS wr lo hi s.v (if i < j then marksByte (k0 + (tot ((ss.map (·.l)).take i) : Nat)) s.l.length else s.l)) ∧ Fr lo hi w wr) (fun _ i _ => n - (intOf i).toNat)
  case atStart => exact ⟨0, 0, by omega, rfl, by go_num, rfl, by omega, ho, Hm, Fr.of_below (Below.refl _ _)⟩
  case round =>
    obtain ⟨j, m, hj, rfl, rfl, htm, hmT, ho0, hms, hfr⟩ := hrel
    by_cases hlt : j < n
    · obtain ⟨b, off, x, rfl, hb, hx1, hc⟩ := (ho0.rd.2.2.2).sl Hl.out hlt
      have hx2 : (ss.map (·.l))[j]? = some x.l := by rw [List.getElem?_map, hx1]; rfl
      have hs := tot_snoc hx2
      have hs2 := ht (j + 1)
      rw [htm.out] at hs
      have Hs := Lib.hid hs
      have ox := hms.out j x hx1
      rw [if_neg (by omega)] at ox
      have hle : m + x.l.length ≤ T := by omega
      have Hx := Lib.hid hx1
      obtain ⟨A1, n1, c1, hv1, hl1, o1⟩ := ox
      injection hv1 with e1 e2 e3
      subst e1 e2 e3
      have Hl1 := Lib.hid hl1
      rw [hl1] at hle
      clear hx1 hx2 hs hs2 hl1
      have ho0' := Lib.hid ho0
      clear ho0 ho
      go_wp2_with fail
      refine (markByteS_any _ _ _ x.l _ lo hi _ o1 (by omega) (by omega)).mono ?_
      rintro e w1 ⟨rfl, o2, hf1, hg1⟩
      have ho1 := ho0'.out.apart o1 (by decide) hg1
      go_wp2
      go_roundw
      case rel =>
        refine ⟨j + 1, m + x.n, by omega, by go_num, by go_num, ?_, by omega, ho1, ?_, hfr.trans hf1⟩
        · show _ = _
          rw [Hs.out, Hl1.out]
        · intro i s hsi
          by_cases hij : i = j
          · subst hij
            rw [Hx.out] at hsi
            injection hsi with hsi
            subst hsi
            rw [if_pos (by omega), htm.out, Hl1.out]
            exact OwnS.of o2 (marksByte_length _ _)
          · have h1 := hms.out i s hsi
            have h2 : (if i < j then marksByte (k0 + (tot ((ss.map (·.l)).take i) : Nat)) s.l.length else s.l) = (if i < j + 1 then marksByte (k0 + (tot ((ss.map (·.l)).take i) : Nat)) s.l.length else s.l) := by
              by_cases h : i < j
              · rw [if_pos h, if_pos (by omega)]
              · rw [if_neg h, if_neg (by omega)]
            rw [h2] at h1
            obtain ⟨A2, n2, c2, hv2, hl2, o3⟩ := h1
            refine ⟨A2, n2, c2, hv2, hl2, o3.spare hg1 ?_⟩
            intro g hg he
            have hxj := Hx.out
            have hpw := List.pairwise_iff_getElem.1 Hp.out
            have hi' : i < ss.length := (List.getElem?_eq_some_iff.1 hsi).1
            have hj' : j < ss.length := (List.getElem?_eq_some_iff.1 hxj).1
            have ei : ss[i] = s := (List.getElem?_eq_some_iff.1 hsi).2
            have ej : ss[j] = x := (List.getElem?_eq_some_iff.1 hxj).2
            rcases Nat.lt_or_gt_of_ne hij with h | h
            · have := hpw i j hi' hj' h g (by rw [ei, hv2]; rw [hv2] at he; exact he)
              rw [ej] at this
              exact this hg
            · have := hpw j i hj' hi' h g (by rw [ej]; exact hg)
              rw [ei] at this
              exact this he
      case measure => simp [intOf]; omega
    · obtain rfl : j = n := by omega
      go_wp2
      go_ret
      have hmt : m = T := by rw [← htm.out, ← HT.out]
      subst hmt
      refine ⟨rfl, ⟨ss.mapIdx fun i s => ⟨s.A, s.n, s.c, marksByte (k0 + (tot ((ss.map (·.l)).take i) : Nat)) s.l.length⟩, ?_, ?_, ?_, ?_⟩, hfr⟩
      · unfold MK_ByteSS
        apply List.ext_getElem?
        intro i
        simp only [List.getElem?_mapIdx, List.getElem?_map, Option.map_map]
        cases ss[i]? <;> rfl
      · refine OwnS.of ?_ (by rw [List.length_mapIdx, Hl.out])
        have : (ss.mapIdx fun i s => (⟨s.A, s.n, s.c, marksByte (k0 + (tot ((ss.map (·.l)).take i) : Nat)) s.l.length⟩ : SlD)).flatMap eS = ss.flatMap eS := by
          rw [List.flatMap_def, List.flatMap_def]
          congr 1
          apply List.ext_getElem?
          intro i
          simp only [List.getElem?_map, List.getElem?_mapIdx, Option.map_map]
          cases ss[i]? <;> rfl
        rw [this]
        exact ho0
      · intro s hs
        obtain ⟨i, hi', hsi⟩ := List.mem_iff_getElem.1 hs
        rw [List.getElem_mapIdx] at hsi
        subst hsi
        rw [List.length_mapIdx] at hi'
        have := hms.out i ss[i] (List.getElem?_eq_getElem hi')
        rw [if_pos (by rw [Hl.out] at hi'; omega)] at this
        exact this
      · rw [Parted, List.pairwise_iff_getElem]
        intro i j' hi' hj' hij
        rw [List.length_mapIdx] at hi' hj'
        have := List.pairwise_iff_getElem.1 Hp.out i j' hi' hj' hij
        rw [List.getElem_mapIdx, List.getElem_mapIdx]
        exact this

set_option maxRecDepth 100000 in
set_option maxHeartbeats 1000000 in
theorem heldByteSS_v (v : Value) (ls : List (List UInt8)) (k0 : Int) (B : Nat) (w : World) (h : R_ByteSS w B v (MK_ByteSS k0 ls)) (hB : B ≤ w.heap.size) (h0 : 0 ≤ k0) (hn : k0 + (NK_ByteSS ls : Nat) ≤ 4611686018427387904) :
    Calls Try.prog 47 #[v, .int .i64 k0] w fun e w' => e = .returned (.int .i64 (k0 + (NK_ByteSS ls : Nat))) ∧ Ext w w' := by
  have hmm := h.len
  obtain ⟨ss, hms, ⟨A, n, c, rfl, hl, _, _, hr⟩, hg⟩ := h
  rw [hms, List.length_map, hl] at hmm
  unfold NK_ByteSS at *
  have hll : ls.length = n := by
    have := congrArg List.length hms
    rw [List.length_map, hl, MK_ByteSS, List.length_mapIdx] at this
    exact this
  have ht := tot_take_le ls
  have Hl := Lib.hid hl
  have Hg := Lib.hid hg
  have Hms := Lib.hid hms
  have Hll := Lib.hid hll
  have HT : Hid (tot (ls.take n) = tot ls) := by
    show _ = _
    rw [List.take_of_length_le (by omega)]
  generalize tot ls = T at *
  clear hl hg hms hll
  go_enter Try.func47, Try.ntmps47
  go_wp2
  go_loopw [1, 5] (fun q i wr => ∃ (j m : Nat), j ≤ n ∧ i = .int .i64 j ∧ q = .int .i64 (k0 + m) ∧ Hid (tot (ls.take j) = m) ∧ m ≤ T ∧ Ext w wr) (fun _ i _ => n - (intOf i).toNat)
  case atStart => exact ⟨0, 0, by omega, rfl, by go_num, rfl, by omega, Ext.refl _⟩
  case round =>
    obtain ⟨j, m, hj, rfl, rfl, htm, hmT, hst⟩ := hrel
    by_cases hlt : j < n
    · obtain ⟨b, off, x, rfl, _, hx1, hc⟩ := (hst.rd hr hB).sl Hl.out hlt
      obtain ⟨y, hy⟩ := some_of_lt (l := ls) (k := j) (by rw [Hll.out]; exact hlt)
      have hxl : x.l = MK_ByteS (k0 + m) y := by
        have h1 : (ss.map (·.l))[j]? = some x.l := by rw [List.getElem?_map, hx1]; rfl
        rw [← Hms.out, MK_ByteSS, List.getElem?_mapIdx, hy, htm.out] at h1
        injection h1 with h1
        exact h1.symm
      have gx := ((Hg.out x (List.mem_of_getElem? hx1)).keep (keepE' hst hB)).r
      rw [hxl] at gx
      have hs := tot_snoc hy
      have hs2 := ht (j + 1)
      rw [htm.out] at hs
      have Hs := Lib.hid hs
      have hle : m + y.length ≤ T := by omega
      have hsz := hst.size
      clear hx1 hy hs hs2 hxl
      go_wp2_with fail
      refine (heldByteS_v _ y _ B _ gx (by omega) (by omega) (by unfold NK_ByteS; omega)).mono ?_
      unfold NK_ByteS
      rintro e w1 ⟨rfl, hE1⟩
      generalize y.length = yl at *
      go_wp2
      go_roundw
      case rel => exact ⟨j + 1, m + yl, by omega, by go_num, by go_num, Hs.out, by omega, by repeat' (first | with_reducible exact Ext.refl _ | with_reducible assumption | with_reducible refine Ext.set ?_ ?_ _ _ | with_reducible refine Ext.alloc ?_ _ | with_reducible refine Ext.drew ?_ | with_reducible refine Ext.drewN ?_ _ | with_reducible refine Ext.trans ?_ (by with_reducible assumption) | omega | (simp; done) | (simp; omega))⟩
      case measure => simp [intOf]; omega
    · obtain rfl : j = n := by omega
      have hmt : m = T := by rw [← htm.out, ← HT.out]
      subst hmt
      go_wp2
      go_ret
      exact ⟨rfl, hst⟩

end Go.Proofs.Ytpemnpoclahfnaa
