/-
  Frame, the program's and the reference's, walked; slices.Grow of nil and slices.Concat of byte lists.
-/
import Derived.Test.YtikkfkomieedmaaNums
import Derived.Test.YtikkfkomieedmaaCrc
namespace Go.Proofs.Ytikkfkomieedmaa
open Go.RowKit

/-- A slice of bytes as a cell of a slice of slices. -/
structure SlD where
  A : Option Addr
  n : Nat
  c : Nat
  l : List UInt8
def eS (s : SlD) : List Value := [.slice s.A s.n s.c]
theorem eS_len (s : SlD) : (eS s).length = 1 := rfl
/-- It reads as its list. -/
def SlD.Good (w : World) (B : Nat) (s : SlD) : Prop := s.l.length = s.n ∧ s.n ≤ s.c ∧ s.c ≤ maxLen ∧ Rd w B 1 s.A s.n (s.l.flatMap eB)
theorem SlD.Good.keep {w w' : World} {B : Nat} {s : SlD} (h : s.Good w B) (hk : ∀ k, k < B → w'.heap[k]? = w.heap[k]?) : s.Good w' B :=
  ⟨h.1, h.2.1, h.2.2.1, h.2.2.2.keep fun p hp => World.cell?_of_block (hk p.block hp)⟩
theorem SlD.Good.more {w : World} {B B' : Nat} {s : SlD} (h : s.Good w B) (hB : B ≤ B') : s.Good w B' := ⟨h.1, h.2.1, h.2.2.1, h.2.2.2.more hB⟩
theorem Rd.sl {w : World} {B n : Nat} {A : Option Addr} {l : List SlD} (h : Rd w B 1 A n (l.flatMap eS)) (hn : l.length = n) {k : Nat} (hk : k < n) :
    ∃ b off x, A = some ⟨b, off, none⟩ ∧ b < B ∧ l[k]? = some x ∧ w.cell? ⟨b, off + k, none⟩ = some (.slice x.A x.n x.c) := by
  obtain ⟨b, off, x, e, hb, hx, hc⟩ := h.elem eS_len hn hk
  have := hc 0 (by omega)
  exact ⟨b, off, x, e, hb, hx, by simpa [eS] using this⟩

section
variable {P : Program} (w : World)
/-- 'append(nil, make([]T, n)...)': a row with room for n. -/
theorem run_app_zeros (t u ty e : TypeId) (i : TypeInfo) (z : Value) (ht : P.underlying t = some (.slice e)) (hu : P.underlying u = some (.int .i64)) (hi : P.info? e = some i) (hz : i.zero = some z)
    (hs : i.size = 1) (hb : i.bytes = 1) (hzs : z.cells.size = 1) (n : Nat) (h0 : 0 < n) (hn : n ≤ 1073741824) :
    ∃ cap w', (Builtin.append_ #[t, u] ty #[.slice none 0 0, .int .i64 (n : Int)]).run P w = .ok (.slice (some ⟨w.heap.size, 0, none⟩) n cap) w' ∧ n ≤ cap ∧
      Own w' w.heap.size w'.heap.size e 1 (.slice (some ⟨w.heap.size, 0, none⟩) 0 cap) 0 [] ∧ Ext w w' := by
  have hwr : IntKind.i64.wrap (n : Int) = n := IntWalk.i64_in _ (by omega)
  have h1 : ¬ ((n : Int) < 0) := by omega
  have h2 : ¬ ((281474976710656 : Int) < (n : Int)) := by omega
  have h4 : ¬ (9223372036854775807 < (n : Int)) := by omega
  have h5 : ¬ (281474976710656 < Builtin.nextslicecap n 0) := by rw [nextslicecap_zero h0]; omega
  have h6 : n ≠ 0 := by omega
  have hge := grownCap_ge w n 0 e
  have hcm : grownCap w n 0 e ≤ maxLen := grownCap_le_maxLen w n 0 e (by unfold maxLen; omega)
  refine ⟨grownCap w n 0 e, w.drew.alloc (.cells (Builtin.zeroCells z.cells n ++ Builtin.zeroCells z.cells (grownCap w n 0 e - n)) e), ?_, hge, ?_, ?_⟩
  · simp [Builtin.append_, run_underlying ht, run_underlying hu, sizeOf, typeInfo, zeroValue, hi, hz, hs, hb, asInt, asIntOf, hwr, h1, h2, h4, h5, h6, Question.forced, newRow, grownCap, Builtin.firstCells]
  · refine ⟨rfl, .inr ⟨w.heap.size, _, _, rfl, Nat.le_refl _, by simp, heap_alloc_new w.drew _, Nat.zero_le _, hcm, ?_, by simp⟩⟩
    simp only [Array.size_append, size_zeroCells, hzs]
    omega
  · exact ((Ext.refl w).drew).alloc _

theorem wpList_app0 {ops : Array Oper} {rest : List Oper} {o : Oper} {a : Act} {Q : Exit → Act → World → Prop} (hgd : o.guard = none) (s x : Operand) (t u : TypeId)
    (ho : o.op = .call { callee := .builtin .append, args := #[s, x], argTypes := #[t, u] })
    (e : TypeId) (i : TypeInfo) (z : Value) (ht : P.underlying t = some (.slice e)) (hu : P.underlying u = some (.int .i64)) (hi : P.info? e = some i) (hz : i.zero = some z)
    (hsz : i.size = 1) (hb : i.bytes = 1) (hzs : z.cells.size = 1) (n : Nat) (h0 : 0 < n) (hn : n ≤ 1073741824)
    (hs : a.eval s = .slice none 0 0) (hx : a.eval x = .int .i64 (n : Int))
    (h : ∀ c' w', n ≤ c' → Own w' w.heap.size w'.heap.size e 1 (.slice (some ⟨w.heap.size, 0, none⟩) 0 c') 0 [] → Ext w w' → wpList P ops Q rest (a.put o.dst (.slice (some ⟨w.heap.size, 0, none⟩) n c')) w') : wpList P ops Q (o :: rest) a w :=
  wpList_plain hgd fun _ hK => by
    obtain ⟨c', w', hrun, h1, h2, h3⟩ := run_app_zeros (P := P) w t u o.type e i z ht hu hi hz hsz hb hzs n h0 hn
    unfold Oper.wp execOp
    simp only [ho, resolve, invoke, builtin, Sem.run_bind, Sem.run_pure, Result.andThen_ok, List.map_toArray, List.map_cons, List.map_nil, hs, hx, hrun]
    exact hK _ _ (h c' w' h1 h2 h3)
end

set_option maxRecDepth 100000 in
set_option maxHeartbeats 1000000 in
theorem grow_any (n : Nat) (w : World) (hn : n ≤ 1073741824) :
    Calls Try.prog 38 #[.slice none 0 0, .int .i64 n] w fun e w' => ∃ A c, e = .returned (.slice A 0 c) ∧ Own w' w.heap.size w'.heap.size 5 1 (.slice A 0 c) 0 [] ∧ Ext w w' := by
  obtain ⟨i0, hi0, hz0, hz1, hz2⟩ := info_parts info_Byte
  by_cases h0 : 0 < n
  · go_enter Try.func38, Try.ntmps38
    go_wp2_with (at_builtin; refine wpList_app0 _ rfl _ _ 22 3 rfl 5 i0 _ Try.underlying22 Try.underlying3 hi0 hz0 hz1 hz2 rfl n h0 hn rfl rfl ?_)
    intro c1 w1 hc1 ho hE
    go_wp2
    go_ret
    exact ⟨_, _, rfl, ho, hE⟩
  · obtain rfl : n = 0 := by omega
    go_enter Try.func38, Try.ntmps38
    go_wp2
    go_ret
    exact ⟨_, _, rfl, Own.nil _ _ _ _ _ _, Ext.refl _⟩

/-- The lists of a slice of slices, joined. -/
def joined (ss : List SlD) : List UInt8 := ss.flatMap (·.l)
theorem joined_take_le (ss : List SlD) (k : Nat) : (joined (ss.take k)).length ≤ (joined ss).length := by
  have h := congrArg (fun l => (joined l).length) (List.take_append_drop k ss)
  simp only [joined, List.flatMap_append, List.length_append] at h ⊢
  omega
theorem joined_snoc {ss : List SlD} {k : Nat} {x : SlD} (hx : ss[k]? = some x) : joined (ss.take (k + 1)) = joined (ss.take k) ++ x.l := by
  rw [take_snoc hx]
  simp [joined]

set_option maxRecDepth 100000 in
set_option maxHeartbeats 1000000 in
theorem concat_any (A : Option Addr) (n c : Nat) (ss : List SlD) (w : World) (B : Nat) (hr : Rd w B 1 A n (ss.flatMap eS)) (hl : ss.length = n) (hB : B ≤ w.heap.size) (hg : ∀ s ∈ ss, s.Good w w.heap.size) (hn : n ≤ 1048576) (ht : (joined ss).length ≤ 1073741824) :
    Calls Try.prog 29 #[.slice A n c] w fun e w' => ∃ v', e = .returned v' ∧ O_ByteS w' w.heap.size w'.heap.size v' (joined ss) ∧ Ext w w' := by
  obtain ⟨i0, hi0, hz0, hz1, hz2⟩ := info_parts info_Byte
  have Hl := Lib.hid hl
  have Hg := Lib.hid hg
  have Ht := Lib.hid ht
  clear hl hg ht
  go_enter Try.func29, Try.ntmps29
  go_wp2
  go_loopw [3, 11] (fun sv iv wr => ∃ (k m : Nat), k ≤ n ∧ iv = .int .i64 k ∧ sv = .int .i64 m ∧ Hid ((joined (ss.take k)).length = m) ∧ w = wr) (fun _ iv _ => n - (intOf iv).toNat)
  case atStart => exact ⟨0, 0, by omega, rfl, rfl, rfl, rfl⟩
  case round =>
    obtain ⟨k, m, hk, rfl, rfl, hm, rfl⟩ := hrel
    by_cases hlt : k < n
    · obtain ⟨b, off, x, rfl, _, hx1, hc⟩ := hr.sl Hl.out hlt
      have Hx1 := Lib.hid hx1
      have hj := joined_take_le ss (k + 1)
      rw [joined_snoc hx1, List.length_append, hm.out, (Hg.out x (List.mem_of_getElem? hx1)).1] at hj
      have hb := Ht.out
      have hj2 : m + x.n ≤ 1073741824 := by omega
      have hjn : Hid ((joined (ss.take (k + 1))).length = m + x.n) := by
        show _ = _
        rw [joined_snoc hx1, List.length_append, hm.out, (Hg.out x (List.mem_of_getElem? hx1)).1]
      clear hx1 hj hb
      go_wp2
      go_roundw
      case rel => exact ⟨k + 1, m + x.n, by omega, by go_num, by go_num, hjn, trivial⟩
      case measure => simp [intOf]; omega
    · obtain rfl : n = k := by omega
      have hmt : m ≤ 1073741824 := by
        have h1 := hm.out
        rw [List.take_of_length_le (by rw [Hl.out]; omega)] at h1
        have := Ht.out
        omega
      clear hm
      go_wp2_with (go_at_call 38; refine (grow_any _ _ hmt).mono ?_; rintro e w1 ⟨A1, c1, rfl, o1, hE1⟩)
      have z1 := hE1.size
      go_loopw [6, 27] (fun sv iv wr => ∃ (k m' : Nat) (A' : Option Addr) (c' : Nat), k ≤ n ∧ iv = .int .i64 k ∧ sv = .slice A' m' c' ∧ Hid ((joined (ss.take k)).length = m') ∧ Own wr w.heap.size wr.heap.size 5 1 (.slice A' m' c') m' ((joined (ss.take k)).flatMap eB) ∧ Ext w wr) (fun _ iv _ => n - (intOf iv).toNat)
      case atStart => exact ⟨0, 0, _, _, by omega, rfl, rfl, rfl, o1, hE1⟩
      case round =>
        obtain ⟨k, m', A', c', hk, rfl, rfl, hm, ho, hE⟩ := hrel
        have zr := hE.size
        by_cases hlt : k < n
        · obtain ⟨b, off, x, rfl, hbb, hx1, hc⟩ := (hE.rd hr hB).sl Hl.out hlt
          have hgx := ((Hg.out x (List.mem_of_getElem? hx1)).keep (keepE' hE (Nat.le_refl _)))
          have hj := joined_take_le ss (k + 1)
          rw [joined_snoc hx1, List.length_append, hm.out, hgx.1] at hj
          have hb := Ht.out
          have hj2 : m' + x.n ≤ 1073741824 := by omega
          have hjn : Hid ((joined (ss.take (k + 1))).length = m' + x.n) := by
            show _ = _
            rw [joined_snoc hx1, List.length_append, hm.out, hgx.1]
          have hjs := joined_snoc hx1
          clear hj hb
          obtain ⟨xA, xn, xc, xl⟩ := x
          obtain ⟨hx2, hx3, hx4, hxr⟩ := hgx
          replace hj2 : m' + xn ≤ 1073741824 := hj2
          replace hx3 : xn ≤ xc := hx3
          replace hxr : Rd wr w.heap.size 1 xA xn (xl.flatMap eB) := hxr
          have Hx2 := Lib.hid hx2
          clear hx1 hx2
          go_wp2_with (at_builtin; go_loud (refine wpList_app _ rfl _ _ 22 rfl 5 i0 _ 1 1 Try.underlying22 hi0 hz0 hz1 hz2 rfl (by omega) w.heap.size wr.heap.size (.slice A' m' c') m' ((joined (ss.take k)).flatMap eB) rfl ho (by omega) (by omega) w.heap.size xA xn xc (xl.flatMap eB) rfl hxr (oneCell_B _) (by unfold maxLen; omega) (by omega) ?_))
          intro A2 c2 w2 ho2 hb2
          have hE2 : Ext w w2 := hE.grown hb2 (fun g hg => (ho.lt g hg).1)
          go_wp2
          go_roundw
          case rel => exact ⟨k + 1, m' + xn, A2, c2, by omega, by go_num, by go_num, hjn, by rw [hjs, List.flatMap_append]; exact ho2, hE2⟩
          case measure => simp [intOf]; omega
        · obtain rfl : n = k := by omega
          go_wp2
          go_ret
          rw [List.take_of_length_le (by rw [Hl.out]; omega)] at hm ho
          exact ⟨_, rfl, OwnS.of ho hm.out, hE⟩

end Go.Proofs.Ytikkfkomieedmaa
