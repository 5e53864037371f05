/-
  Votes: sized, copied into the program's type, compared.
-/
import Derived.Test.YtbfbdhjeoknjkaaSameLog
import Derived.Test.YtbfbdhjeoknjkaaBlk
import Derived.Test.YtbfbdhjeoknjkaaWhole
import Derived.Test.YtbfbdhjeoknjkaaBig
import Derived.Deep.DeepCutAuto
import Derived.Deep.QuietTactic
import Derived.Deep.RegionHeld3
import Derived.IntWalk
namespace Go.Proofs.Ytbfbdhjeoknjkaa
open Go.RowKit

structure VoteD where
  kind : Int
  frm : Int
  view : Int
  normal : Int
  op : Int
  commit : Int
  log : LogD
deriving DecidableEq
structure VoteE where
  u : Value
  s : Value
  t : Value
  d : VoteD
def eV (x : VoteE) : List Value := [.int .i64 x.d.kind, .int .i64 x.d.frm, .int .i64 x.d.view, .int .i64 x.d.normal, .int .i64 x.d.op, .int .i64 x.d.commit, .int .i64 x.d.log.base, x.u, x.s, x.t]
theorem eV_len (x : VoteE) : (eV x).length = 10 := rfl
def R_Vote (w : World) (B : Nat) (v : Value) (m : VoteD) : Prop := ∃ u s t, v = .agg #[.int .i64 m.kind, .int .i64 m.frm, .int .i64 m.view, .int .i64 m.normal, .int .i64 m.op, .int .i64 m.commit, .int .i64 m.log.base, u, s, t] ∧ R_CellS w B u m.log.image.cells ∧ R_SeatS w B s m.log.image.seats ∧ R_EntryS w B t m.log.entries
def O_Vote (w : World) (lo hi : Nat) (v : Value) (m : VoteD) : Prop := ∃ u s t, v = .agg #[.int .i64 m.kind, .int .i64 m.frm, .int .i64 m.view, .int .i64 m.normal, .int .i64 m.op, .int .i64 m.commit, .int .i64 m.log.base, u, s, t] ∧ O_CellS w lo hi u m.log.image.cells ∧ O_SeatS w lo hi s m.log.image.seats ∧ O_EntryS w lo hi t m.log.entries
def VoteE.Good (x : VoteE) (w : World) (B : Nat) : Prop := R_CellS w B x.u x.d.log.image.cells ∧ R_SeatS w B x.s x.d.log.image.seats ∧ R_EntryS w B x.t x.d.log.entries
def VoteE.Mine (x : VoteE) (w : World) (lo hi : Nat) : Prop := O_CellS w lo hi x.u x.d.log.image.cells ∧ O_SeatS w lo hi x.s x.d.log.image.seats ∧ O_EntryS w lo hi x.t x.d.log.entries
theorem R_Vote.keep {w w' : World} {B : Nat} {v : Value} {l : VoteD} (h : R_Vote w B v l) (hk : ∀ k, k < B → w'.heap[k]? = w.heap[k]?) : R_Vote w' B v l := by
  obtain ⟨u, s, t, rfl, h1, h2, h3⟩ := h
  exact ⟨u, s, t, rfl, h1.keep hk, h2.keep hk, h3.keep hk⟩
theorem VoteE.Good.keep {x : VoteE} {w w' : World} {B : Nat} (h : x.Good w B) (hk : ∀ k, k < B → w'.heap[k]? = w.heap[k]?) : x.Good w' B := ⟨h.1.keep hk, h.2.1.keep hk, h.2.2.keep hk⟩
theorem VoteE.Good.more {x : VoteE} {w : World} {B B' : Nat} (h : x.Good w B) (hB : B ≤ B') : x.Good w B' := ⟨h.1.more hB, h.2.1.more hB, h.2.2.more hB⟩
theorem VoteE.Mine.good {x : VoteE} {w : World} {lo hi : Nat} (h : x.Mine w lo hi) : x.Good w hi := ⟨h.1.rd, h.2.1.rd, h.2.2.rd⟩
theorem VoteE.Mine.keep {x : VoteE} {w w' : World} {lo hi : Nat} (h : x.Mine w lo hi) (hk : ∀ k, lo ≤ k → k < hi → w'.heap[k]? = w.heap[k]?) : x.Mine w' lo hi := ⟨h.1.keep hk, h.2.1.keep hk, h.2.2.keep hk⟩
theorem VoteE.Mine.wide {x : VoteE} {w : World} {lo hi lo' hi' : Nat} (h : x.Mine w lo hi) (h1 : lo' ≤ lo) (h2 : hi ≤ hi') : x.Mine w lo' hi' := ⟨h.1.wide h1 h2, h.2.1.wide h1 h2, h.2.2.wide h1 h2⟩
def R_VoteS (w : World) (B : Nat) (v : Value) (ls : List VoteD) : Prop := ∃ ss : List VoteE, ls = ss.map (·.d) ∧ RdS w B 10 eV v ss ∧ ∀ x ∈ ss, x.Good w B
def O_VoteS (w : World) (lo hi : Nat) (v : Value) (ls : List VoteD) : Prop := ∃ ss : List VoteE, ls = ss.map (·.d) ∧ OwnS w lo hi 119 10 eV v ss ∧ ∀ x ∈ ss, x.Mine w lo hi
theorem R_VoteS.keep {w w' : World} {B : Nat} {v : Value} {ls : List VoteD} (h : R_VoteS w B v ls) (hk : ∀ k, k < B → w'.heap[k]? = w.heap[k]?) : R_VoteS w' B v ls := by
  obtain ⟨ss, rfl, h1, h2⟩ := h
  exact ⟨ss, rfl, h1.keep hk, fun s hs => (h2 s hs).keep hk⟩
theorem R_VoteS.form {w : World} {B : Nat} {v : Value} {ls : List VoteD} (h : R_VoteS w B v ls) : ∃ A n c, v = .slice A n c := by
  obtain ⟨ss, -, ⟨A, n, c, hv, -⟩, -⟩ := h
  exact ⟨A, n, c, hv⟩
theorem O_VoteS.keep {w w' : World} {lo hi : Nat} {v : Value} {ls : List VoteD} (h : O_VoteS w lo hi v ls) (hk : ∀ k, lo ≤ k → k < hi → w'.heap[k]? = w.heap[k]?) : O_VoteS w' lo hi v ls := by
  obtain ⟨ss, rfl, h1, h2⟩ := h
  exact ⟨ss, rfl, h1.keep hk, fun s hs => (h2 s hs).keep hk⟩
theorem O_VoteS.form {w : World} {lo hi : Nat} {v : Value} {ls : List VoteD} (h : O_VoteS w lo hi v ls) : ∃ A n c, v = .slice A n c := by
  obtain ⟨ss, -, ⟨A, n, c, hv, -⟩, -⟩ := h
  exact ⟨A, n, c, hv⟩
theorem O_VoteS.rd {w : World} {lo hi : Nat} {v : Value} {ls : List VoteD} (h : O_VoteS w lo hi v ls) : R_VoteS w hi v ls := by
  obtain ⟨ss, rfl, h1, h2⟩ := h
  exact ⟨ss, rfl, h1.rd, fun s hs => (h2 s hs).good⟩
theorem O_VoteS.wide {w : World} {lo hi lo' hi' : Nat} {v : Value} {ls : List VoteD} (h : O_VoteS w lo hi v ls) (h1 : lo' ≤ lo) (h2 : hi ≤ hi') : O_VoteS w lo' hi' v ls := by
  obtain ⟨ss, rfl, h3, h4⟩ := h
  exact ⟨ss, rfl, h3.wide h1 h2, fun s hs => (h4 s hs).wide h1 h2⟩
theorem R_VoteS.nil {w : World} {B : Nat} : R_VoteS w B (.slice none 0 0) [] := ⟨[], rfl, RdS.nil, by simp⟩
theorem R_VoteS.len {w : World} {B : Nat} {v : Value} {ls : List VoteD} (h : R_VoteS w B v ls) : ls.length ≤ 9223372036854775807 := by
  obtain ⟨ss, rfl, ⟨A, n, c, _, rfl, h1, h2, _⟩, _⟩ := h
  unfold maxLen at h2
  rw [List.length_map]
  omega
/-- How much the votes' logs take. -/
def totV (ls : List VoteD) : Nat := (ls.map fun v => szL v.log).sum
theorem totV_snoc {ls : List VoteD} {k : Nat} {x : VoteD} (hx : ls[k]? = some x) : totV (ls.take (k + 1)) = totV (ls.take k) + szL x.log := by
  rw [take_snoc hx]
  simp [totV]
theorem totV_take_le (ls : List VoteD) (k : Nat) : totV (ls.take k) ≤ totV ls := by
  have h : totV (ls.take k ++ ls.drop k) = totV (ls.take k) + totV (ls.drop k) := by
    unfold totV
    rw [List.map_append, List.sum_append]
  rw [List.take_append_drop] at h
  omega
theorem le_totV {ls : List VoteD} {x : VoteD} (hx : x ∈ ls) : szL x.log ≤ totV ls := by
  obtain ⟨k, hk, rfl⟩ := List.getElem_of_mem hx
  have h1 := totV_snoc (ls := ls) (k := k) (x := ls[k]) (List.getElem?_eq_getElem hk)
  have h2 := totV_take_le ls (k + 1)
  omega
def szV (ls : List VoteD) : Nat := ls.length + totV ls
theorem votes_at {w W : World} {B B2 n : Nat} {A : Option Addr} {l : List VoteE} (h : Rd w B 10 A n (l.flatMap eV)) (hn : l.length = n) (hg : ∀ x ∈ l, x.Good W B2) {k : Nat} (hk : k < n) :
    ∃ b off x A0 n0 c0 A1 n1 c1 A2 n2 c2, A = some ⟨b, off, none⟩ ∧ b < B ∧ l[k]? = some x ∧ R_Vote W B2 (.agg #[.int .i64 x.d.kind, .int .i64 x.d.frm, .int .i64 x.d.view, .int .i64 x.d.normal, .int .i64 x.d.op, .int .i64 x.d.commit, .int .i64 x.d.log.base, .slice A0 n0 c0, .slice A1 n1 c1, .slice A2 n2 c2]) x.d ∧ w.cell? ⟨b, off + k * 10, none⟩ = some (.int .i64 x.d.kind) ∧ w.cell? ⟨b, off + k * 10 + 1, none⟩ = some (.int .i64 x.d.frm) ∧ w.cell? ⟨b, off + k * 10 + 2, none⟩ = some (.int .i64 x.d.view) ∧ w.cell? ⟨b, off + k * 10 + 3, none⟩ = some (.int .i64 x.d.normal) ∧ w.cell? ⟨b, off + k * 10 + 4, none⟩ = some (.int .i64 x.d.op) ∧ w.cell? ⟨b, off + k * 10 + 5, none⟩ = some (.int .i64 x.d.commit) ∧ w.cell? ⟨b, off + k * 10 + 6, none⟩ = some (.int .i64 x.d.log.base) ∧ w.cell? ⟨b, off + k * 10 + 7, none⟩ = some (.slice A0 n0 c0) ∧ w.cell? ⟨b, off + k * 10 + 8, none⟩ = some (.slice A1 n1 c1) ∧ w.cell? ⟨b, off + k * 10 + 9, none⟩ = some (.slice A2 n2 c2) := by
  obtain ⟨b, off, x, e, hb, hx, hc⟩ := h.elem eV_len hn hk
  have g := hg x (List.mem_of_getElem? hx)
  obtain ⟨A0, n0, c0, hu, -⟩ := id g.1
  obtain ⟨A1, n1, c1, hs, -⟩ := id g.2.1
  obtain ⟨A2, n2, c2, ht, -⟩ := id g.2.2
  refine ⟨b, off, x, A0, n0, c0, A1, n1, c1, A2, n2, c2, e, hb, hx, ⟨_, _, _, rfl, hu ▸ g.1, hs ▸ g.2.1, ht ▸ g.2.2⟩, ?_, ?_, ?_, ?_, ?_, ?_, ?_, ?_, ?_, ?_⟩
  · have h := hc 0 (by omega); rw [← Nat.add_assoc] at h; simpa [eV] using h
  · have h := hc 1 (by omega); rw [← Nat.add_assoc] at h; simpa [eV] using h
  · have h := hc 2 (by omega); rw [← Nat.add_assoc] at h; simpa [eV] using h
  · have h := hc 3 (by omega); rw [← Nat.add_assoc] at h; simpa [eV] using h
  · have h := hc 4 (by omega); rw [← Nat.add_assoc] at h; simpa [eV] using h
  · have h := hc 5 (by omega); rw [← Nat.add_assoc] at h; simpa [eV] using h
  · have h := hc 6 (by omega); rw [← Nat.add_assoc] at h; simpa [eV] using h
  · have h := hc 7 (by omega); rw [← Nat.add_assoc] at h; simpa [eV, hu] using h
  · have h := hc 8 (by omega); rw [← Nat.add_assoc] at h; simpa [eV, hs] using h
  · have h := hc 9 (by omega); rw [← Nat.add_assoc] at h; simpa [eV, ht] using h
set_option maxRecDepth 100000 in
set_option maxHeartbeats 2000000 in
theorem szVote_ok (v : Value) (m : VoteD) (left : Int) (w : World) (B0 : Nat) (h : R_Vote w B0 v m) (hB : B0 ≤ w.heap.size) (h1 : (szL m.log : Int) ≤ left) (h2 : left ≤ 1048576) :
    Calls Try.prog 115 #[v, .int .i64 left] w fun e w' => e = .returned (.int .i64 (left - szL m.log)) ∧ Ext w w' := by
  obtain ⟨u0, s0, t0, rfl, h0u, h0s, h0t⟩ := h
  obtain ⟨A0, n0, c0, hv0, -⟩ := id h0u
  obtain ⟨A1, n1, c1, hv1, -⟩ := id h0s
  obtain ⟨A2, n2, c2, hv2, -⟩ := id h0t
  subst hv0 hv1 hv2
  have hl0 : R_Log w B0 (.agg #[.int .i64 m.log.base, .slice A0 n0 c0, .slice A1 n1 c1, .slice A2 n2 c2]) m.log := ⟨_, _, _, rfl, h0u, h0s, h0t⟩
  clear h0u h0s h0t
  have hW0 : Ext w (w.alloc (.cells #[.int .i64 m.kind, .int .i64 m.frm, .int .i64 m.view, .int .i64 m.normal, .int .i64 m.op, .int .i64 m.commit, .int .i64 m.log.base, .slice A0 n0 c0, .slice A1 n1 c1, .slice A2 n2 c2] 149)) := by repeat' (first | with_reducible exact Ext.refl _ | with_reducible assumption | with_reducible refine Ext.set ?_ ?_ _ _ | with_reducible refine Ext.alloc ?_ _ | with_reducible refine Ext.drew ?_ | with_reducible refine Ext.drewN ?_ _ | with_reducible refine Ext.trans ?_ (by with_reducible assumption) | omega | (simp; done) | (simp; omega))
  have zW0 : w.heap.size + 1 ≤ (w.alloc (.cells #[.int .i64 m.kind, .int .i64 m.frm, .int .i64 m.view, .int .i64 m.normal, .int .i64 m.op, .int .i64 m.commit, .int .i64 m.log.base, .slice A0 n0 c0, .slice A1 n1 c1, .slice A2 n2 c2] 149)).heap.size := by simp
  have x : Blk (w.alloc (.cells #[.int .i64 m.kind, .int .i64 m.frm, .int .i64 m.view, .int .i64 m.normal, .int .i64 m.op, .int .i64 m.commit, .int .i64 m.log.base, .slice A0 n0 c0, .slice A1 n1 c1, .slice A2 n2 c2] 149)) w.heap.size 149 [.int .i64 m.kind, .int .i64 m.frm, .int .i64 m.view, .int .i64 m.normal, .int .i64 m.op, .int .i64 m.commit, .int .i64 m.log.base, .slice A0 n0 c0, .slice A1 n1 c1, .slice A2 n2 c2] := (Blk.new w #[.int .i64 m.kind, .int .i64 m.frm, .int .i64 m.view, .int .i64 m.normal, .int .i64 m.op, .int .i64 m.commit, .int .i64 m.log.base, .slice A0 n0 c0, .slice A1 n1 c1, .slice A2 n2 c2] 149 (by first | rfl | simp))
  go_enter Try.func115, Try.ntmps115
  go_upto_region 1 with (fail)
  generalize (w.alloc (.cells #[.int .i64 m.kind, .int .i64 m.frm, .int .i64 m.view, .int .i64 m.normal, .int .i64 m.op, .int .i64 m.commit, .int .i64 m.log.base, .slice A0 n0 c0, .slice A1 n1 c1, .slice A2 n2 c2] 149)) = W0 at *
  obtain ⟨x_p6, x_f6⟩ := x.at 6 _ rfl
  obtain ⟨x_p7, x_f7⟩ := x.at 7 _ rfl
  obtain ⟨x_p8, x_f8⟩ := x.at 8 _ rfl
  obtain ⟨x_p9, x_f9⟩ := x.at 9 _ rfl
  go_wp2_with fail
  refine (szLog_ok _ m.log _ _ B0 (by exact hl0.keep (keepE' (by repeat' (first | with_reducible exact Ext.refl _ | with_reducible assumption | with_reducible refine Ext.set ?_ ?_ _ _ | with_reducible refine Ext.alloc ?_ _ | with_reducible refine Ext.drew ?_ | with_reducible refine Ext.drewN ?_ _ | with_reducible refine Ext.trans ?_ (by with_reducible assumption) | omega | (simp; done) | (simp; omega))) hB)) (by omega) (by omega) (by omega)).mono ?_
  rintro e w1 ⟨rfl, hE1⟩
  go_wp2
  go_ret
  exact ⟨ret_int (by omega), by repeat' (first | with_reducible exact Ext.refl _ | with_reducible assumption | with_reducible refine Ext.set ?_ ?_ _ _ | with_reducible refine Ext.alloc ?_ _ | with_reducible refine Ext.drew ?_ | with_reducible refine Ext.drewN ?_ _ | with_reducible refine Ext.trans ?_ (by with_reducible assumption) | omega | (simp; done) | (simp; omega))⟩
set_option maxRecDepth 100000 in
set_option maxHeartbeats 2000000 in
theorem szVote_no (v : Value) (m : VoteD) (left : Int) (w : World) (B0 : Nat) (h : R_Vote w B0 v m) (hB : B0 ≤ w.heap.size) (h1 : left < (szL m.log : Int)) (h0 : 0 ≤ left) (h2 : left ≤ 1048576) :
    Calls Try.prog 115 #[v, .int .i64 left] w fun e w' => e = .returned (.int .i64 (-1)) ∧ Ext w w' := by
  obtain ⟨u0, s0, t0, rfl, h0u, h0s, h0t⟩ := h
  obtain ⟨A0, n0, c0, hv0, -⟩ := id h0u
  obtain ⟨A1, n1, c1, hv1, -⟩ := id h0s
  obtain ⟨A2, n2, c2, hv2, -⟩ := id h0t
  subst hv0 hv1 hv2
  have hl0 : R_Log w B0 (.agg #[.int .i64 m.log.base, .slice A0 n0 c0, .slice A1 n1 c1, .slice A2 n2 c2]) m.log := ⟨_, _, _, rfl, h0u, h0s, h0t⟩
  clear h0u h0s h0t
  have hW0 : Ext w (w.alloc (.cells #[.int .i64 m.kind, .int .i64 m.frm, .int .i64 m.view, .int .i64 m.normal, .int .i64 m.op, .int .i64 m.commit, .int .i64 m.log.base, .slice A0 n0 c0, .slice A1 n1 c1, .slice A2 n2 c2] 149)) := by repeat' (first | with_reducible exact Ext.refl _ | with_reducible assumption | with_reducible refine Ext.set ?_ ?_ _ _ | with_reducible refine Ext.alloc ?_ _ | with_reducible refine Ext.drew ?_ | with_reducible refine Ext.drewN ?_ _ | with_reducible refine Ext.trans ?_ (by with_reducible assumption) | omega | (simp; done) | (simp; omega))
  have zW0 : w.heap.size + 1 ≤ (w.alloc (.cells #[.int .i64 m.kind, .int .i64 m.frm, .int .i64 m.view, .int .i64 m.normal, .int .i64 m.op, .int .i64 m.commit, .int .i64 m.log.base, .slice A0 n0 c0, .slice A1 n1 c1, .slice A2 n2 c2] 149)).heap.size := by simp
  have x : Blk (w.alloc (.cells #[.int .i64 m.kind, .int .i64 m.frm, .int .i64 m.view, .int .i64 m.normal, .int .i64 m.op, .int .i64 m.commit, .int .i64 m.log.base, .slice A0 n0 c0, .slice A1 n1 c1, .slice A2 n2 c2] 149)) w.heap.size 149 [.int .i64 m.kind, .int .i64 m.frm, .int .i64 m.view, .int .i64 m.normal, .int .i64 m.op, .int .i64 m.commit, .int .i64 m.log.base, .slice A0 n0 c0, .slice A1 n1 c1, .slice A2 n2 c2] := (Blk.new w #[.int .i64 m.kind, .int .i64 m.frm, .int .i64 m.view, .int .i64 m.normal, .int .i64 m.op, .int .i64 m.commit, .int .i64 m.log.base, .slice A0 n0 c0, .slice A1 n1 c1, .slice A2 n2 c2] 149 (by first | rfl | simp))
  go_enter Try.func115, Try.ntmps115
  go_upto_region 1 with (fail)
  generalize (w.alloc (.cells #[.int .i64 m.kind, .int .i64 m.frm, .int .i64 m.view, .int .i64 m.normal, .int .i64 m.op, .int .i64 m.commit, .int .i64 m.log.base, .slice A0 n0 c0, .slice A1 n1 c1, .slice A2 n2 c2] 149)) = W0 at *
  obtain ⟨x_p6, x_f6⟩ := x.at 6 _ rfl
  obtain ⟨x_p7, x_f7⟩ := x.at 7 _ rfl
  obtain ⟨x_p8, x_f8⟩ := x.at 8 _ rfl
  obtain ⟨x_p9, x_f9⟩ := x.at 9 _ rfl
  go_wp2_with fail
  refine (szLog_no _ m.log _ _ B0 (by exact hl0.keep (keepE' (by repeat' (first | with_reducible exact Ext.refl _ | with_reducible assumption | with_reducible refine Ext.set ?_ ?_ _ _ | with_reducible refine Ext.alloc ?_ _ | with_reducible refine Ext.drew ?_ | with_reducible refine Ext.drewN ?_ _ | with_reducible refine Ext.trans ?_ (by with_reducible assumption) | omega | (simp; done) | (simp; omega))) hB)) (by omega) (by omega) (by omega) (by omega)).mono ?_
  rintro e w1 ⟨rfl, hE1⟩
  go_wp2
  go_ret
  exact ⟨rfl, by repeat' (first | with_reducible exact Ext.refl _ | with_reducible assumption | with_reducible refine Ext.set ?_ ?_ _ _ | with_reducible refine Ext.alloc ?_ _ | with_reducible refine Ext.drew ?_ | with_reducible refine Ext.drewN ?_ _ | with_reducible refine Ext.trans ?_ (by with_reducible assumption) | omega | (simp; done) | (simp; omega))⟩
set_option maxRecDepth 100000 in
set_option maxHeartbeats 2000000 in
theorem szVoteS_ok (v : Value) (ls : List VoteD) (left : Int) (w : World) (B : Nat) (h : R_VoteS w B v ls) (hB : B ≤ w.heap.size) (h1 : (szV ls : Int) ≤ left) (h2 : left ≤ 1048576) :
    Calls Try.prog 70 #[v, .int .i64 left] w fun e w' => e = .returned (.int .i64 (left - szV ls)) ∧ Ext w w' := by
  obtain ⟨ss, rfl, ⟨A, n, c, rfl, hl, _, _, hr⟩, hg⟩ := h
  unfold szV at *
  rw [List.length_map, hl] at h1 ⊢
  have ht := totV_take_le (ss.map (·.d))
  have Hl := Lib.hid hl
  have Hg := Lib.hid hg
  clear hl hg
  have h3 : (n : Int) ≤ left := by omega
  generalize hT : totV (ss.map (·.d)) = T at *
  have HT := Lib.hid hT
  clear hT
  go_enter Try.func70, Try.ntmps70
  go_wp2
  go_loopw [1, 5] (fun lv iv wr => ∃ (k m : Nat), k ≤ n ∧ iv = .int .i64 k ∧ lv = .int .i64 (left - n - m) ∧ Hid (totV ((ss.map (·.d)).take k) = m) ∧ m ≤ T ∧ Ext w wr) (fun _ iv _ => n - (intOf iv).toNat)
  case atStart => exact ⟨0, 0, by omega, rfl, by go_num, rfl, by omega, Ext.refl _⟩
  case round =>
    obtain ⟨k, m, hk, rfl, rfl, hm, hmT, hst⟩ := hrel
    have hzr := hst.size
    by_cases hlt : k < n
    · obtain ⟨b, off, x, A0, n0, c0, A1, n1, c1, A2, n2, c2, rfl, _, hx1, hR, hc0, hc1, hc2, hc3, hc4, hc5, hc6, hc7, hc8, hc9⟩ := votes_at (hst.rd hr hB) Hl.out (fun x hx => (Hg.out x hx).keep (keepE' hst hB)) hlt
      have hx2 : (ss.map (·.d))[k]? = some x.d := by rw [List.getElem?_map, hx1]; rfl
      have hs := totV_snoc hx2
      have hs2 := ht (k + 1)
      rw [hm.out] at hs
      have Hs := Lib.hid hs
      have hle : m + szL x.d.log ≤ T := by omega
      clear hx1 hx2 hs hs2
      go_wp2_with fail
      refine (szVote_ok _ _ _ _ B hR (by omega) (by omega) (by omega)).mono ?_
      rintro e w1 ⟨rfl, hE1⟩
      generalize szL x.d.log = xl at *
      go_wp2
      go_roundw
      case rel => exact ⟨k + 1, m + xl, by omega, by go_num, by go_num, Hs.out, by omega, by repeat' (first | with_reducible exact Ext.refl _ | with_reducible assumption | with_reducible refine Ext.set ?_ ?_ _ _ | with_reducible refine Ext.alloc ?_ _ | with_reducible refine Ext.drew ?_ | with_reducible refine Ext.drewN ?_ _ | with_reducible refine Ext.trans ?_ (by with_reducible assumption) | omega | (simp; done) | (simp; omega))⟩
      case measure => simp [intOf]; omega
    · obtain rfl : k = n := by omega
      have hmt : m = T := by
        rw [← hm.out, ← HT.out, List.take_of_length_le (by rw [List.length_map, Hl.out]; omega)]
      subst hmt
      go_wp2
      go_ret
      exact ⟨ret_int (by omega), hst⟩
set_option maxRecDepth 100000 in
set_option maxHeartbeats 2000000 in
theorem szVoteS_no (v : Value) (ls : List VoteD) (left : Int) (w : World) (B : Nat) (h : R_VoteS w B v ls) (hB : B ≤ w.heap.size) (h1 : left < (szV ls : Int)) (h0 : 0 ≤ left) (h2 : left ≤ 1048576) :
    Calls Try.prog 70 #[v, .int .i64 left] w fun e w' => e = .returned (.int .i64 (-1)) ∧ Ext w w' := by
  have hmm := h.len
  obtain ⟨ss, rfl, ⟨A, n, c, rfl, hl, _, _, hr⟩, hg⟩ := h
  unfold szV at *
  rw [List.length_map, hl] at h1 hmm
  have ht := totV_take_le (ss.map (·.d))
  have Hl := Lib.hid hl
  have Hg := Lib.hid hg
  clear hl hg
  by_cases h3 : (n : Int) ≤ left
  · generalize hT : totV (ss.map (·.d)) = T at *
    have HT := Lib.hid hT
    clear hT
    go_enter Try.func70, Try.ntmps70
    go_wp2
    go_loopw [1, 5] (fun lv iv wr => ∃ (k m : Nat), k ≤ n ∧ iv = .int .i64 k ∧ lv = .int .i64 (left - n - m) ∧ Hid (totV ((ss.map (·.d)).take k) = m) ∧ (n : Int) + m ≤ left ∧ Ext w wr) (fun _ iv _ => n - (intOf iv).toNat)
    case atStart => exact ⟨0, 0, by omega, rfl, by go_num, rfl, by omega, Ext.refl _⟩
    case round =>
      obtain ⟨k, m, hk, rfl, rfl, hm, hmT, hst⟩ := hrel
      have hzr := hst.size
      by_cases hlt : k < n
      · obtain ⟨b, off, x, A0, n0, c0, A1, n1, c1, A2, n2, c2, rfl, _, hx1, hR, hc0, hc1, hc2, hc3, hc4, hc5, hc6, hc7, hc8, hc9⟩ := votes_at (hst.rd hr hB) Hl.out (fun x hx => (Hg.out x hx).keep (keepE' hst hB)) hlt
        have hx2 : (ss.map (·.d))[k]? = some x.d := by rw [List.getElem?_map, hx1]; rfl
        have hs := totV_snoc hx2
        have hs2 := ht (k + 1)
        rw [hm.out] at hs
        have Hs := Lib.hid hs
        clear hx1 hx2 hs hs2
        by_cases hle : (n : Int) + m + szL x.d.log ≤ left
        · go_wp2_with fail
          refine (szVote_ok _ _ _ _ B hR (by omega) (by omega) (by omega)).mono ?_
          rintro e w1 ⟨rfl, hE1⟩
          generalize szL x.d.log = xl at *
          go_wp2
          go_roundw
          case rel => exact ⟨k + 1, m + xl, by omega, by go_num, by go_num, Hs.out, by omega, by repeat' (first | with_reducible exact Ext.refl _ | with_reducible assumption | with_reducible refine Ext.set ?_ ?_ _ _ | with_reducible refine Ext.alloc ?_ _ | with_reducible refine Ext.drew ?_ | with_reducible refine Ext.drewN ?_ _ | with_reducible refine Ext.trans ?_ (by with_reducible assumption) | omega | (simp; done) | (simp; omega))⟩
          case measure => simp [intOf]; omega
        · go_wp2_with fail
          refine (szVote_no _ _ _ _ B hR (by omega) (by omega) (by omega) (by omega)).mono ?_
          rintro e w1 ⟨rfl, hE1⟩
          go_wp2
          go_ret
          exact ⟨rfl, by repeat' (first | with_reducible exact Ext.refl _ | with_reducible assumption | with_reducible refine Ext.set ?_ ?_ _ _ | with_reducible refine Ext.alloc ?_ _ | with_reducible refine Ext.drew ?_ | with_reducible refine Ext.drewN ?_ _ | with_reducible refine Ext.trans ?_ (by with_reducible assumption) | omega | (simp; done) | (simp; omega))⟩
      · exfalso
        obtain rfl : k = n := by omega
        have hmt : m = T := by
          rw [← hm.out, ← HT.out, List.take_of_length_le (by rw [List.length_map, Hl.out]; omega)]
        omega
  · go_enter Try.func70, Try.ntmps70
    go_wp2
    go_ret
    exact ⟨rfl, Ext.refl _⟩
set_option maxRecDepth 100000 in
set_option maxHeartbeats 8000000 in
theorem toVote_v (v : Value) (m : VoteD) (w : World) (B0 : Nat) (h : R_Vote w B0 v m) (hB : B0 ≤ w.heap.size) (hn : szL m.log ≤ 2097152) :
    Calls Try.prog 117 #[v] w fun e w' => ∃ v', e = .returned v' ∧ O_Vote w' w.heap.size w'.heap.size v' m ∧ Ext w w' := by
  obtain ⟨u0, s0, t0, rfl, h0u, h0s, h0t⟩ := h
  obtain ⟨A0, n0, c0, hv0, -⟩ := id h0u
  obtain ⟨A1, n1, c1, hv1, -⟩ := id h0s
  obtain ⟨A2, n2, c2, hv2, -⟩ := id h0t
  subst hv0 hv1 hv2
  have hl0 : R_Log w B0 (.agg #[.int .i64 m.log.base, .slice A0 n0 c0, .slice A1 n1 c1, .slice A2 n2 c2]) m.log := ⟨_, _, _, rfl, h0u, h0s, h0t⟩
  clear h0u h0s h0t
  have hW0 : Ext w (((w.alloc (.cells #[.int .i64 m.kind, .int .i64 m.frm, .int .i64 m.view, .int .i64 m.normal, .int .i64 m.op, .int .i64 m.commit, .int .i64 m.log.base, .slice A0 n0 c0, .slice A1 n1 c1, .slice A2 n2 c2] 149)).alloc (.cells #[.int .i64 0, .int .i64 0, .int .i64 0, .int .i64 0, .int .i64 0, .int .i64 0, .int .i64 0, .slice none 0 0, .slice none 0 0, .slice none 0 0] 119)).alloc (.cells #[.int .i64 0, .int .i64 0, .int .i64 0, .int .i64 0, .int .i64 0, .int .i64 0, .int .i64 0, .slice none 0 0, .slice none 0 0, .slice none 0 0] 119)) := by repeat' (first | with_reducible exact Ext.refl _ | with_reducible assumption | with_reducible refine Ext.set ?_ ?_ _ _ | with_reducible refine Ext.alloc ?_ _ | with_reducible refine Ext.drew ?_ | with_reducible refine Ext.drewN ?_ _ | with_reducible refine Ext.trans ?_ (by with_reducible assumption) | omega | (simp; done) | (simp; omega))
  have zW0 : w.heap.size + 3 ≤ (((w.alloc (.cells #[.int .i64 m.kind, .int .i64 m.frm, .int .i64 m.view, .int .i64 m.normal, .int .i64 m.op, .int .i64 m.commit, .int .i64 m.log.base, .slice A0 n0 c0, .slice A1 n1 c1, .slice A2 n2 c2] 149)).alloc (.cells #[.int .i64 0, .int .i64 0, .int .i64 0, .int .i64 0, .int .i64 0, .int .i64 0, .int .i64 0, .slice none 0 0, .slice none 0 0, .slice none 0 0] 119)).alloc (.cells #[.int .i64 0, .int .i64 0, .int .i64 0, .int .i64 0, .int .i64 0, .int .i64 0, .int .i64 0, .slice none 0 0, .slice none 0 0, .slice none 0 0] 119)).heap.size := by simp
  have x : Blk (((w.alloc (.cells #[.int .i64 m.kind, .int .i64 m.frm, .int .i64 m.view, .int .i64 m.normal, .int .i64 m.op, .int .i64 m.commit, .int .i64 m.log.base, .slice A0 n0 c0, .slice A1 n1 c1, .slice A2 n2 c2] 149)).alloc (.cells #[.int .i64 0, .int .i64 0, .int .i64 0, .int .i64 0, .int .i64 0, .int .i64 0, .int .i64 0, .slice none 0 0, .slice none 0 0, .slice none 0 0] 119)).alloc (.cells #[.int .i64 0, .int .i64 0, .int .i64 0, .int .i64 0, .int .i64 0, .int .i64 0, .int .i64 0, .slice none 0 0, .slice none 0 0, .slice none 0 0] 119)) w.heap.size 149 [.int .i64 m.kind, .int .i64 m.frm, .int .i64 m.view, .int .i64 m.normal, .int .i64 m.op, .int .i64 m.commit, .int .i64 m.log.base, .slice A0 n0 c0, .slice A1 n1 c1, .slice A2 n2 c2] := (((Blk.new w #[.int .i64 m.kind, .int .i64 m.frm, .int .i64 m.view, .int .i64 m.normal, .int .i64 m.op, .int .i64 m.commit, .int .i64 m.log.base, .slice A0 n0 c0, .slice A1 n1 c1, .slice A2 n2 c2] 149 (by first | rfl | simp)).alloc (.cells #[.int .i64 0, .int .i64 0, .int .i64 0, .int .i64 0, .int .i64 0, .int .i64 0, .int .i64 0, .slice none 0 0, .slice none 0 0, .slice none 0 0] 119)).alloc (.cells #[.int .i64 0, .int .i64 0, .int .i64 0, .int .i64 0, .int .i64 0, .int .i64 0, .int .i64 0, .slice none 0 0, .slice none 0 0, .slice none 0 0] 119))
  have y : Blk (((w.alloc (.cells #[.int .i64 m.kind, .int .i64 m.frm, .int .i64 m.view, .int .i64 m.normal, .int .i64 m.op, .int .i64 m.commit, .int .i64 m.log.base, .slice A0 n0 c0, .slice A1 n1 c1, .slice A2 n2 c2] 149)).alloc (.cells #[.int .i64 0, .int .i64 0, .int .i64 0, .int .i64 0, .int .i64 0, .int .i64 0, .int .i64 0, .slice none 0 0, .slice none 0 0, .slice none 0 0] 119)).alloc (.cells #[.int .i64 0, .int .i64 0, .int .i64 0, .int .i64 0, .int .i64 0, .int .i64 0, .int .i64 0, .slice none 0 0, .slice none 0 0, .slice none 0 0] 119)) (w.heap.size + 1) 119 [.int .i64 0, .int .i64 0, .int .i64 0, .int .i64 0, .int .i64 0, .int .i64 0, .int .i64 0, .slice none 0 0, .slice none 0 0, .slice none 0 0] := ((Blk.new (w.alloc (.cells #[.int .i64 m.kind, .int .i64 m.frm, .int .i64 m.view, .int .i64 m.normal, .int .i64 m.op, .int .i64 m.commit, .int .i64 m.log.base, .slice A0 n0 c0, .slice A1 n1 c1, .slice A2 n2 c2] 149)) #[.int .i64 0, .int .i64 0, .int .i64 0, .int .i64 0, .int .i64 0, .int .i64 0, .int .i64 0, .slice none 0 0, .slice none 0 0, .slice none 0 0] 119 (by first | rfl | simp)).alloc (.cells #[.int .i64 0, .int .i64 0, .int .i64 0, .int .i64 0, .int .i64 0, .int .i64 0, .int .i64 0, .slice none 0 0, .slice none 0 0, .slice none 0 0] 119))
  have f : Blk (((w.alloc (.cells #[.int .i64 m.kind, .int .i64 m.frm, .int .i64 m.view, .int .i64 m.normal, .int .i64 m.op, .int .i64 m.commit, .int .i64 m.log.base, .slice A0 n0 c0, .slice A1 n1 c1, .slice A2 n2 c2] 149)).alloc (.cells #[.int .i64 0, .int .i64 0, .int .i64 0, .int .i64 0, .int .i64 0, .int .i64 0, .int .i64 0, .slice none 0 0, .slice none 0 0, .slice none 0 0] 119)).alloc (.cells #[.int .i64 0, .int .i64 0, .int .i64 0, .int .i64 0, .int .i64 0, .int .i64 0, .int .i64 0, .slice none 0 0, .slice none 0 0, .slice none 0 0] 119)) (w.heap.size + 2) 119 [.int .i64 0, .int .i64 0, .int .i64 0, .int .i64 0, .int .i64 0, .int .i64 0, .int .i64 0, .slice none 0 0, .slice none 0 0, .slice none 0 0] := (Blk.new ((w.alloc (.cells #[.int .i64 m.kind, .int .i64 m.frm, .int .i64 m.view, .int .i64 m.normal, .int .i64 m.op, .int .i64 m.commit, .int .i64 m.log.base, .slice A0 n0 c0, .slice A1 n1 c1, .slice A2 n2 c2] 149)).alloc (.cells #[.int .i64 0, .int .i64 0, .int .i64 0, .int .i64 0, .int .i64 0, .int .i64 0, .int .i64 0, .slice none 0 0, .slice none 0 0, .slice none 0 0] 119)) #[.int .i64 0, .int .i64 0, .int .i64 0, .int .i64 0, .int .i64 0, .int .i64 0, .int .i64 0, .slice none 0 0, .slice none 0 0, .slice none 0 0] 119 (by first | rfl | simp))
  replace f : Blk _ (w.heap.size + 1 + 1) _ _ := f
  go_enter Try.func117, Try.ntmps117
  go_upto_region 2 with (fail)
  generalize (((w.alloc (.cells #[.int .i64 m.kind, .int .i64 m.frm, .int .i64 m.view, .int .i64 m.normal, .int .i64 m.op, .int .i64 m.commit, .int .i64 m.log.base, .slice A0 n0 c0, .slice A1 n1 c1, .slice A2 n2 c2] 149)).alloc (.cells #[.int .i64 0, .int .i64 0, .int .i64 0, .int .i64 0, .int .i64 0, .int .i64 0, .int .i64 0, .slice none 0 0, .slice none 0 0, .slice none 0 0] 119)).alloc (.cells #[.int .i64 0, .int .i64 0, .int .i64 0, .int .i64 0, .int .i64 0, .int .i64 0, .int .i64 0, .slice none 0 0, .slice none 0 0, .slice none 0 0] 119)) = W0 at *
  have hX : Ext w W0 := hW0
  have hz : w.heap.size + 3 ≤ W0.heap.size := zW0
  clear hW0 zW0
  obtain ⟨xp, -⟩ := x.at 0 _ rfl
  obtain ⟨fp, ff⟩ := f.at 0 _ rfl
  go_upto_region 3 with (fail)
  clear xp fp ff
  have f1 := (f.set 0 (.int .i64 m.kind))
  have hF : Fr (w.heap.size + 1 + 1) (w.heap.size + 1 + 1 + 1) W0 (W0.setCell ⟨w.heap.size + 1 + 1, 0, none⟩ (.int .i64 m.kind)) := fr_one _
  have hzn : W0.heap.size ≤ (W0.setCell ⟨w.heap.size + 1 + 1, 0, none⟩ (.int .i64 m.kind)).heap.size := hF.size
  replace f := (show Blk _ _ _ [.int .i64 m.kind, .int .i64 0, .int .i64 0, .int .i64 0, .int .i64 0, .int .i64 0, .int .i64 0, .slice none 0 0, .slice none 0 0, .slice none 0 0] from f1)
  replace x := x.fr hF (.inl (by omega))
  replace y := y.fr hF (.inl (by omega))
  replace hX := hX.fr hF (by omega)
  clear hF f1
  generalize (W0.setCell ⟨w.heap.size + 1 + 1, 0, none⟩ (.int .i64 m.kind)) = V1 at *
  replace hz : w.heap.size + 3 ≤ V1.heap.size := by omega
  obtain ⟨xp, -⟩ := x.at 1 _ rfl
  obtain ⟨fp, ff⟩ := f.at 1 _ rfl
  go_upto_region 4 with (fail)
  clear xp fp ff
  have f1 := (f.set 1 (.int .i64 m.frm))
  have hF : Fr (w.heap.size + 1 + 1) (w.heap.size + 1 + 1 + 1) V1 (V1.setCell ⟨w.heap.size + 1 + 1, 1, none⟩ (.int .i64 m.frm)) := fr_one _
  have hzn : V1.heap.size ≤ (V1.setCell ⟨w.heap.size + 1 + 1, 1, none⟩ (.int .i64 m.frm)).heap.size := hF.size
  replace f := (show Blk _ _ _ [.int .i64 m.kind, .int .i64 m.frm, .int .i64 0, .int .i64 0, .int .i64 0, .int .i64 0, .int .i64 0, .slice none 0 0, .slice none 0 0, .slice none 0 0] from f1)
  replace x := x.fr hF (.inl (by omega))
  replace y := y.fr hF (.inl (by omega))
  replace hX := hX.fr hF (by omega)
  clear hF f1
  generalize (V1.setCell ⟨w.heap.size + 1 + 1, 1, none⟩ (.int .i64 m.frm)) = V2 at *
  replace hz : w.heap.size + 3 ≤ V2.heap.size := by omega
  obtain ⟨xp, -⟩ := x.at 2 _ rfl
  obtain ⟨fp, ff⟩ := f.at 2 _ rfl
  go_upto_region 5 with (fail)
  clear xp fp ff
  have f1 := (f.set 2 (.int .i64 m.view))
  have hF : Fr (w.heap.size + 1 + 1) (w.heap.size + 1 + 1 + 1) V2 (V2.setCell ⟨w.heap.size + 1 + 1, 2, none⟩ (.int .i64 m.view)) := fr_one _
  have hzn : V2.heap.size ≤ (V2.setCell ⟨w.heap.size + 1 + 1, 2, none⟩ (.int .i64 m.view)).heap.size := hF.size
  replace f := (show Blk _ _ _ [.int .i64 m.kind, .int .i64 m.frm, .int .i64 m.view, .int .i64 0, .int .i64 0, .int .i64 0, .int .i64 0, .slice none 0 0, .slice none 0 0, .slice none 0 0] from f1)
  replace x := x.fr hF (.inl (by omega))
  replace y := y.fr hF (.inl (by omega))
  replace hX := hX.fr hF (by omega)
  clear hF f1
  generalize (V2.setCell ⟨w.heap.size + 1 + 1, 2, none⟩ (.int .i64 m.view)) = V3 at *
  replace hz : w.heap.size + 3 ≤ V3.heap.size := by omega
  obtain ⟨xp, -⟩ := x.at 3 _ rfl
  obtain ⟨fp, ff⟩ := f.at 3 _ rfl
  go_upto_region 6 with (fail)
  clear xp fp ff
  have f1 := (f.set 3 (.int .i64 m.normal))
  have hF : Fr (w.heap.size + 1 + 1) (w.heap.size + 1 + 1 + 1) V3 (V3.setCell ⟨w.heap.size + 1 + 1, 3, none⟩ (.int .i64 m.normal)) := fr_one _
  have hzn : V3.heap.size ≤ (V3.setCell ⟨w.heap.size + 1 + 1, 3, none⟩ (.int .i64 m.normal)).heap.size := hF.size
  replace f := (show Blk _ _ _ [.int .i64 m.kind, .int .i64 m.frm, .int .i64 m.view, .int .i64 m.normal, .int .i64 0, .int .i64 0, .int .i64 0, .slice none 0 0, .slice none 0 0, .slice none 0 0] from f1)
  replace x := x.fr hF (.inl (by omega))
  replace y := y.fr hF (.inl (by omega))
  replace hX := hX.fr hF (by omega)
  clear hF f1
  generalize (V3.setCell ⟨w.heap.size + 1 + 1, 3, none⟩ (.int .i64 m.normal)) = V4 at *
  replace hz : w.heap.size + 3 ≤ V4.heap.size := by omega
  obtain ⟨xp, -⟩ := x.at 4 _ rfl
  obtain ⟨fp, ff⟩ := f.at 4 _ rfl
  go_upto_region 7 with (fail)
  clear xp fp ff
  have f1 := (f.set 4 (.int .i64 m.op))
  have hF : Fr (w.heap.size + 1 + 1) (w.heap.size + 1 + 1 + 1) V4 (V4.setCell ⟨w.heap.size + 1 + 1, 4, none⟩ (.int .i64 m.op)) := fr_one _
  have hzn : V4.heap.size ≤ (V4.setCell ⟨w.heap.size + 1 + 1, 4, none⟩ (.int .i64 m.op)).heap.size := hF.size
  replace f := (show Blk _ _ _ [.int .i64 m.kind, .int .i64 m.frm, .int .i64 m.view, .int .i64 m.normal, .int .i64 m.op, .int .i64 0, .int .i64 0, .slice none 0 0, .slice none 0 0, .slice none 0 0] from f1)
  replace x := x.fr hF (.inl (by omega))
  replace y := y.fr hF (.inl (by omega))
  replace hX := hX.fr hF (by omega)
  clear hF f1
  generalize (V4.setCell ⟨w.heap.size + 1 + 1, 4, none⟩ (.int .i64 m.op)) = V5 at *
  replace hz : w.heap.size + 3 ≤ V5.heap.size := by omega
  obtain ⟨xp, -⟩ := x.at 5 _ rfl
  obtain ⟨fp, ff⟩ := f.at 5 _ rfl
  go_upto_region 8 with (fail)
  clear xp fp ff
  have f1 := (f.set 5 (.int .i64 m.commit))
  have hF : Fr (w.heap.size + 1 + 1) (w.heap.size + 1 + 1 + 1) V5 (V5.setCell ⟨w.heap.size + 1 + 1, 5, none⟩ (.int .i64 m.commit)) := fr_one _
  have hzn : V5.heap.size ≤ (V5.setCell ⟨w.heap.size + 1 + 1, 5, none⟩ (.int .i64 m.commit)).heap.size := hF.size
  replace f := (show Blk _ _ _ [.int .i64 m.kind, .int .i64 m.frm, .int .i64 m.view, .int .i64 m.normal, .int .i64 m.op, .int .i64 m.commit, .int .i64 0, .slice none 0 0, .slice none 0 0, .slice none 0 0] from f1)
  replace x := x.fr hF (.inl (by omega))
  replace y := y.fr hF (.inl (by omega))
  replace hX := hX.fr hF (by omega)
  clear hF f1
  generalize (V5.setCell ⟨w.heap.size + 1 + 1, 5, none⟩ (.int .i64 m.commit)) = V6 at *
  replace hz : w.heap.size + 3 ≤ V6.heap.size := by omega
  obtain ⟨xp0, -⟩ := x.at 6 _ rfl
  obtain ⟨xp1, -⟩ := x.at 7 _ rfl
  obtain ⟨xp2, -⟩ := x.at 8 _ rfl
  obtain ⟨xp3, -⟩ := x.at 9 _ rfl
  have hzl6 := hz
  go_wp2_with fail
  clear xp0 xp1 xp2 xp3
  refine (toLog_v _ m.log _ B0 (by exact hl0.keep (keepE' hX hB)) (by omega) (by omega)).mono ?_
  rintro e wc6 ⟨v, rfl, oL, hE⟩
  obtain ⟨A5, n5, c5, B5, k5, d5, C5, m5, e5, rfl, -, -, -⟩ := oL.form
  replace x := x.ext hE
  replace y := y.ext hE
  replace f := f.ext hE
  have hzE := hE.size
  replace hX := hX.trans hE
  clear hE
  obtain ⟨fp0, ff0⟩ := f.at 6 _ rfl
  obtain ⟨fp1, ff1⟩ := f.at 7 _ rfl
  obtain ⟨fp2, ff2⟩ := f.at 8 _ rfl
  obtain ⟨fp3, ff3⟩ := f.at 9 _ rfl
  go_upto_region 9 with (fail)
  clear fp0 ff0 fp1 ff1 fp2 ff2 fp3 ff3
  have f1 := ((((f.set 6 (.int .i64 m.log.base)).set 7 (.slice A5 n5 c5)).set 8 (.slice B5 k5 d5)).set 9 (.slice C5 m5 e5))
  have hF : Fr (w.heap.size + 1 + 1) (w.heap.size + 1 + 1 + 1) wc6 ((((wc6.setCell ⟨w.heap.size + 1 + 1, 6, none⟩ (.int .i64 m.log.base)).setCell ⟨w.heap.size + 1 + 1, 7, none⟩ (.slice A5 n5 c5)).setCell ⟨w.heap.size + 1 + 1, 8, none⟩ (.slice B5 k5 d5)).setCell ⟨w.heap.size + 1 + 1, 9, none⟩ (.slice C5 m5 e5)) := (((fr_one _).trans (fr_one _)).trans (fr_one _)).trans (fr_one _)
  have hzn : wc6.heap.size ≤ ((((wc6.setCell ⟨w.heap.size + 1 + 1, 6, none⟩ (.int .i64 m.log.base)).setCell ⟨w.heap.size + 1 + 1, 7, none⟩ (.slice A5 n5 c5)).setCell ⟨w.heap.size + 1 + 1, 8, none⟩ (.slice B5 k5 d5)).setCell ⟨w.heap.size + 1 + 1, 9, none⟩ (.slice C5 m5 e5)).heap.size := hF.size
  replace f := (show Blk _ _ _ [.int .i64 m.kind, .int .i64 m.frm, .int .i64 m.view, .int .i64 m.normal, .int .i64 m.op, .int .i64 m.commit, .int .i64 m.log.base, .slice A5 n5 c5, .slice B5 k5 d5, .slice C5 m5 e5] from f1)
  replace x := x.fr hF (.inl (by omega))
  replace y := y.fr hF (.inl (by omega))
  replace hX := hX.fr hF (by omega)
  replace oL := oL.keep (keepF hF (by omega) (.inr (by omega)))
  clear hF f1
  generalize ((((wc6.setCell ⟨w.heap.size + 1 + 1, 6, none⟩ (.int .i64 m.log.base)).setCell ⟨w.heap.size + 1 + 1, 7, none⟩ (.slice A5 n5 c5)).setCell ⟨w.heap.size + 1 + 1, 8, none⟩ (.slice B5 k5 d5)).setCell ⟨w.heap.size + 1 + 1, 9, none⟩ (.slice C5 m5 e5)) = V7 at *
  replace hz : w.heap.size + 3 ≤ V7.heap.size := by omega
  refine region_copy (e := 119) (d := _) rfl rfl rfl rfl rfl f rfl rfl y rfl Try.underlying119 rfl (by kernel_rfl) (by intro v hv; simp at hv; rcases hv with rfl | rfl | rfl | rfl | rfl | rfl | rfl | rfl | rfl | rfl <;> rfl) ?_
  have y1 := y.whole [.int .i64 m.kind, .int .i64 m.frm, .int .i64 m.view, .int .i64 m.normal, .int .i64 m.op, .int .i64 m.commit, .int .i64 m.log.base, .slice A5 n5 c5, .slice B5 k5 d5, .slice C5 m5 e5] rfl
  have hF := fr_cells (w.heap.size + 1) [.int .i64 m.kind, .int .i64 m.frm, .int .i64 m.view, .int .i64 m.normal, .int .i64 m.op, .int .i64 m.commit, .int .i64 m.log.base, .slice A5 n5 c5, .slice B5 k5 d5, .slice C5 m5 e5] 0 V7
  have hzn := hF.size
  replace hX := hX.fr hF (by omega)
  replace oL := oL.keep (keepF hF (by omega) (.inr (by omega)))
  clear x y f hF
  generalize V7.setCells (w.heap.size + 1) 0 [.int .i64 m.kind, .int .i64 m.frm, .int .i64 m.view, .int .i64 m.normal, .int .i64 m.op, .int .i64 m.commit, .int .i64 m.log.base, .slice A5 n5 c5, .slice B5 k5 d5, .slice C5 m5 e5] = VZ at *
  obtain ⟨y1_p0, y1_f0⟩ := y1.at 0 _ rfl
  obtain ⟨y1_p1, y1_f1⟩ := y1.at 1 _ rfl
  obtain ⟨y1_p2, y1_f2⟩ := y1.at 2 _ rfl
  obtain ⟨y1_p3, y1_f3⟩ := y1.at 3 _ rfl
  obtain ⟨y1_p4, y1_f4⟩ := y1.at 4 _ rfl
  obtain ⟨y1_p5, y1_f5⟩ := y1.at 5 _ rfl
  obtain ⟨y1_p6, y1_f6⟩ := y1.at 6 _ rfl
  obtain ⟨y1_p7, y1_f7⟩ := y1.at 7 _ rfl
  obtain ⟨y1_p8, y1_f8⟩ := y1.at 8 _ rfl
  obtain ⟨y1_p9, y1_f9⟩ := y1.at 9 _ rfl
  obtain ⟨u3, s3, t3, e3, k1, k2, k3⟩ := oL
  injection e3 with e3
  simp only [Array.mk.injEq, List.cons.injEq, and_true, true_and] at e3
  obtain ⟨e31, e32, e33⟩ := e3
  subst e31 e32 e33
  go_wp2
  exact bodyPost_ret (v := .agg #[.int .i64 m.kind, .int .i64 m.frm, .int .i64 m.view, .int .i64 m.normal, .int .i64 m.op, .int .i64 m.commit, .int .i64 m.log.base, .slice A5 n5 c5, .slice B5 k5 d5, .slice C5 m5 e5]) (by simp [results, Try.results117, go_sem, y1_p0, y1_p1, y1_p2, y1_p3, y1_p4, y1_p5, y1_p6, y1_p7, y1_p8, y1_p9]) rfl ⟨_, rfl, ⟨_, _, _, rfl, k1.wide (by omega) (by omega), k2.wide (by omega) (by omega), k3.wide (by omega) (by omega)⟩, hX⟩
theorem info_VoteL : (Try.prog.info? 119).map (fun i => (i.zero, i.size, i.bytes)) = some (some (.agg #[.int .i64 0, .int .i64 0, .int .i64 0, .int .i64 0, .int .i64 0, .int .i64 0, .int .i64 0, .slice none 0 0, .slice none 0 0, .slice none 0 0]), 10, 128) := by kernel_rfl
set_option maxRecDepth 100000 in
set_option maxHeartbeats 8000000 in
theorem toVoteS_v (v : Value) (ls : List VoteD) (w : World) (B : Nat) (h : R_VoteS w B v ls) (hB : B ≤ w.heap.size) (hn : szV ls ≤ 2097152) :
    Calls Try.prog 75 #[v] w fun e w' => ∃ v', e = .returned v' ∧ O_VoteS w' w.heap.size w'.heap.size v' ls ∧ Ext w w' := by
  obtain ⟨ss, rfl, ⟨A, n, c, rfl, hl, _, _, hr⟩, hg⟩ := h
  unfold szV at hn
  rw [List.length_map, hl] at hn
  obtain ⟨i0, hi0, hz0, hz1, hz2⟩ := info_parts info_VoteL
  have hmk := fun W => run_make_rows (P := Try.prog) 69 119 i0 _ Try.underlying69 hi0 hz0 .i64 .i64 n (by rw [hz2]; omega) (by omega) W
  rw [hz1] at hmk
  have hT : ∀ x ∈ ss, szL x.d.log ≤ totV (ss.map (·.d)) := fun x hx => le_totV (List.mem_map.2 ⟨x, hx, rfl⟩)
  have HT := Lib.hid hT
  have Hl := Lib.hid hl
  have Hg := Lib.hid hg
  generalize totV (ss.map (·.d)) = T at *
  clear hl hg hT
  go_enter Try.func75, Try.ntmps75
  go_wp2
  go_loopw [4] (fun i wr => ∃ (k : Nat) (rest : List Value) (os : List VoteE), k ≤ n ∧ i = .int .i64 k ∧ Own wr w.heap.size (w.heap.size + 1) 119 10 (.slice (some ⟨w.heap.size, 0, none⟩) n n) n (os.flatMap eV ++ rest) ∧ Hid (os.length = k) ∧ Hid (os.map (·.d) = (ss.map (·.d)).take k) ∧ Hid (∀ s ∈ os, s.Mine wr (w.heap.size + 1) wr.heap.size) ∧ Ext w wr ∧ w.heap.size < wr.heap.size) (fun i _ => n - (intOf i).toNat)
  case atStart =>
    obtain ⟨rest, h⟩ := own_start w (madeCells #[.int .i64 0, .int .i64 0, .int .i64 0, .int .i64 0, .int .i64 0, .int .i64 0, .int .i64 0, .slice none 0 0, .slice none 0 0, .slice none 0 0] (n * 10)) n 119 10 (by unfold maxLen; omega) (by simp [size_madeCells])
    exact ⟨0, rest, [], by omega, rfl, by simpa using h, rfl, rfl, by simp [Hid], by repeat' (first | with_reducible exact Ext.refl _ | with_reducible assumption | with_reducible refine Ext.set ?_ ?_ _ _ | with_reducible refine Ext.alloc ?_ _ | with_reducible refine Ext.drew ?_ | with_reducible refine Ext.drewN ?_ _ | with_reducible refine Ext.trans ?_ (by with_reducible assumption) | omega | (simp; done) | (simp; omega)), by simp⟩
  case round =>
    obtain ⟨k, rest, os, hk, rfl, hown, hol, hom, hos, hext, hsz⟩ := hrel
    by_cases hlt : k < n
    · obtain ⟨b, off, x, A0, n0, c0, A1, n1, c1, A2, n2, c2, rfl, hb, hx, hR, hc0, hc1, hc2, hc3, hc4, hc5, hc6, hc7, hc8, hc9⟩ := votes_at (hext.rd hr hB) Hl.out (fun x hx => (Hg.out x hx).keep (keepE' hext hB)) hlt
      have hxT := HT.out x (List.mem_of_getElem? hx)
      have Hx := Lib.hid hx
      clear hx
      go_wp2_with fail
      refine (toVote_v _ x.d _ B hR (by omega) (by omega)).mono ?_
      rintro e w1 ⟨v1, rfl, o1, hE1⟩
      have hz := hE1.size
      obtain ⟨xu, xs, xt, rfl, k1, k2, k3⟩ := o1
      obtain ⟨A3, n3, c3, hv3, -⟩ := id k1
      obtain ⟨A4, n4, c4, hv4, -⟩ := id k2
      obtain ⟨A5, n5, c5, hv5, -⟩ := id k3
      subst hv3 hv4 hv5
      have ho0 := hE1.own hown (by omega)
      obtain ⟨⟨v0, hs0⟩, hf0⟩ := ho0.spot (j := k * 10) (by omega)
      obtain ⟨⟨v1, hs1⟩, hf1⟩ := ho0.spot (j := k * 10 + 1) (by omega)
      obtain ⟨⟨v2, hs2⟩, hf2⟩ := ho0.spot (j := k * 10 + 2) (by omega)
      obtain ⟨⟨v3, hs3⟩, hf3⟩ := ho0.spot (j := k * 10 + 3) (by omega)
      obtain ⟨⟨v4, hs4⟩, hf4⟩ := ho0.spot (j := k * 10 + 4) (by omega)
      obtain ⟨⟨v5, hs5⟩, hf5⟩ := ho0.spot (j := k * 10 + 5) (by omega)
      obtain ⟨⟨v6, hs6⟩, hf6⟩ := ho0.spot (j := k * 10 + 6) (by omega)
      obtain ⟨⟨v7, hs7⟩, hf7⟩ := ho0.spot (j := k * 10 + 7) (by omega)
      obtain ⟨⟨v8, hs8⟩, hf8⟩ := ho0.spot (j := k * 10 + 8) (by omega)
      obtain ⟨⟨v9, hs9⟩, hf9⟩ := ho0.spot (j := k * 10 + 9) (by omega)
      obtain ⟨rest1, ho1⟩ := ho0.put1 (m := k * 10) (by simp only [List.length_append, List.length_singleton, flat_length eV_len, hol.out]) (by omega) (.int .i64 x.d.kind)
      obtain ⟨rest2, ho2⟩ := ho1.put1 (m := k * 10 + 1) (by simp only [List.length_append, List.length_singleton, flat_length eV_len, hol.out]) (by omega) (.int .i64 x.d.frm)
      obtain ⟨rest3, ho3⟩ := ho2.put1 (m := k * 10 + 2) (by simp only [List.length_append, List.length_singleton, flat_length eV_len, hol.out]) (by omega) (.int .i64 x.d.view)
      obtain ⟨rest4, ho4⟩ := ho3.put1 (m := k * 10 + 3) (by simp only [List.length_append, List.length_singleton, flat_length eV_len, hol.out]) (by omega) (.int .i64 x.d.normal)
      obtain ⟨rest5, ho5⟩ := ho4.put1 (m := k * 10 + 4) (by simp only [List.length_append, List.length_singleton, flat_length eV_len, hol.out]) (by omega) (.int .i64 x.d.op)
      obtain ⟨rest6, ho6⟩ := ho5.put1 (m := k * 10 + 5) (by simp only [List.length_append, List.length_singleton, flat_length eV_len, hol.out]) (by omega) (.int .i64 x.d.commit)
      obtain ⟨rest7, ho7⟩ := ho6.put1 (m := k * 10 + 6) (by simp only [List.length_append, List.length_singleton, flat_length eV_len, hol.out]) (by omega) (.int .i64 x.d.log.base)
      obtain ⟨rest8, ho8⟩ := ho7.put1 (m := k * 10 + 7) (by simp only [List.length_append, List.length_singleton, flat_length eV_len, hol.out]) (by omega) (.slice A3 n3 c3)
      obtain ⟨rest9, ho9⟩ := ho8.put1 (m := k * 10 + 8) (by simp only [List.length_append, List.length_singleton, flat_length eV_len, hol.out]) (by omega) (.slice A4 n4 c4)
      obtain ⟨rest10, ho10⟩ := ho9.put1 (m := k * 10 + 9) (by simp only [List.length_append, List.length_singleton, flat_length eV_len, hol.out]) (by omega) (.slice A5 n5 c5)
      have hF : Fr w.heap.size (w.heap.size + 1) w1 ((((((((((w1.setCell ⟨w.heap.size, k * 10, none⟩ (.int .i64 x.d.kind)).setCell ⟨w.heap.size, k * 10 + 1, none⟩ (.int .i64 x.d.frm)).setCell ⟨w.heap.size, k * 10 + 2, none⟩ (.int .i64 x.d.view)).setCell ⟨w.heap.size, k * 10 + 3, none⟩ (.int .i64 x.d.normal)).setCell ⟨w.heap.size, k * 10 + 4, none⟩ (.int .i64 x.d.op)).setCell ⟨w.heap.size, k * 10 + 5, none⟩ (.int .i64 x.d.commit)).setCell ⟨w.heap.size, k * 10 + 6, none⟩ (.int .i64 x.d.log.base)).setCell ⟨w.heap.size, k * 10 + 7, none⟩ (.slice A3 n3 c3)).setCell ⟨w.heap.size, k * 10 + 8, none⟩ (.slice A4 n4 c4)).setCell ⟨w.heap.size, k * 10 + 9, none⟩ (.slice A5 n5 c5)) := (((((((((fr_one _).trans (fr_one _)).trans (fr_one _)).trans (fr_one _)).trans (fr_one _)).trans (fr_one _)).trans (fr_one _)).trans (fr_one _)).trans (fr_one _)).trans (fr_one _)
      have hzF := hF.size
      have hE : Ext w ((((((((((w1.setCell ⟨w.heap.size, k * 10, none⟩ (.int .i64 x.d.kind)).setCell ⟨w.heap.size, k * 10 + 1, none⟩ (.int .i64 x.d.frm)).setCell ⟨w.heap.size, k * 10 + 2, none⟩ (.int .i64 x.d.view)).setCell ⟨w.heap.size, k * 10 + 3, none⟩ (.int .i64 x.d.normal)).setCell ⟨w.heap.size, k * 10 + 4, none⟩ (.int .i64 x.d.op)).setCell ⟨w.heap.size, k * 10 + 5, none⟩ (.int .i64 x.d.commit)).setCell ⟨w.heap.size, k * 10 + 6, none⟩ (.int .i64 x.d.log.base)).setCell ⟨w.heap.size, k * 10 + 7, none⟩ (.slice A3 n3 c3)).setCell ⟨w.heap.size, k * 10 + 8, none⟩ (.slice A4 n4 c4)).setCell ⟨w.heap.size, k * 10 + 9, none⟩ (.slice A5 n5 c5)) := (hext.trans hE1).fr hF (Nat.le_refl _)
      clear hown ho0 ho1 ho2 ho3 ho4 ho5 ho6 ho7 ho8 ho9
      go_wp2
      go_roundw
      case rel =>
        refine ⟨k + 1, rest10, os ++ [⟨.slice A3 n3 c3, .slice A4 n4 c4, .slice A5 n5 c5, x.d⟩], by omega, by go_num, ?_, ?_, ?_, ?_, hE, by omega⟩
        · rw [List.flatMap_append]
          simpa [eV] using ho10
        · show _ = _
          rw [List.length_append, hol.out]
          rfl
        · show _ = _
          rw [List.map_append, hom.out, take_snoc (l := ss.map (·.d)) (x := x.d) (by rw [List.getElem?_map, Hx.out]; rfl)]
          rfl
        · intro s hs
          rcases List.mem_append.1 hs with hs | hs
          · exact (((hos.out s hs).keep (keepE hE1 (Nat.le_refl _))).wide (Nat.le_refl _) hz |>.keep (keepF hF (Nat.le_refl _) (.inr (Nat.le_refl _)))).wide (Nat.le_refl _) hzF
          · simp only [List.mem_singleton] at hs
            subst hs
            have hm : VoteE.Mine ⟨.slice A3 n3 c3, .slice A4 n4 c4, .slice A5 n5 c5, x.d⟩ w1 wr.heap.size w1.heap.size := ⟨k1, k2, k3⟩
            exact (hm.keep (keepF hF (Nat.le_refl _) (.inr (by omega)))).wide (by omega) hzF
      case measure => simp [intOf]; omega
    · obtain rfl : k = n := by omega
      go_wp2
      go_ret
      have hm := hom.out
      rw [List.take_of_length_le (by rw [List.length_map, Hl.out]; omega)] at hm
      have ho := hown.full (by rw [flat_length eV_len, hol.out])
      exact ⟨_, rfl, ⟨os, hm.symm, OwnS.of (ho.wide (Nat.le_refl _) hsz) hol.out, fun s hs => (hos.out s hs).wide (by omega) (Nat.le_refl _)⟩, hext⟩
set_option maxRecDepth 100000 in
set_option maxHeartbeats 4000000 in
theorem eqVote_same (u v : Value) (m : VoteD) (w : World) (B0 B3 : Nat) (hu : R_Vote w B0 u m) (hX : B0 ≤ w.heap.size) (hv : R_Vote w B3 v m) (hY : B3 ≤ w.heap.size) :
    Calls Try.prog 120 #[u, v] w fun e w' => e = .returned (.bool true) ∧ Ext w w' := by
  obtain ⟨u0, s0, t0, rfl, h0u, h0s, h0t⟩ := hu
  obtain ⟨A0, n0, c0, hv0, -⟩ := id h0u
  obtain ⟨A1, n1, c1, hv1, -⟩ := id h0s
  obtain ⟨A2, n2, c2, hv2, -⟩ := id h0t
  subst hv0 hv1 hv2
  have hl0 : R_Log w B0 (.agg #[.int .i64 m.log.base, .slice A0 n0 c0, .slice A1 n1 c1, .slice A2 n2 c2]) m.log := ⟨_, _, _, rfl, h0u, h0s, h0t⟩
  clear h0u h0s h0t
  obtain ⟨u3, s3, t3, rfl, h3u, h3s, h3t⟩ := hv
  obtain ⟨A3, n3, c3, hv3, -⟩ := id h3u
  obtain ⟨A4, n4, c4, hv4, -⟩ := id h3s
  obtain ⟨A5, n5, c5, hv5, -⟩ := id h3t
  subst hv3 hv4 hv5
  have hl3 : R_Log w B3 (.agg #[.int .i64 m.log.base, .slice A3 n3 c3, .slice A4 n4 c4, .slice A5 n5 c5]) m.log := ⟨_, _, _, rfl, h3u, h3s, h3t⟩
  clear h3u h3s h3t
  have hW0 : Ext w ((w.alloc (.cells #[.int .i64 m.kind, .int .i64 m.frm, .int .i64 m.view, .int .i64 m.normal, .int .i64 m.op, .int .i64 m.commit, .int .i64 m.log.base, .slice A0 n0 c0, .slice A1 n1 c1, .slice A2 n2 c2] 119)).alloc (.cells #[.int .i64 m.kind, .int .i64 m.frm, .int .i64 m.view, .int .i64 m.normal, .int .i64 m.op, .int .i64 m.commit, .int .i64 m.log.base, .slice A3 n3 c3, .slice A4 n4 c4, .slice A5 n5 c5] 119)) := by repeat' (first | with_reducible exact Ext.refl _ | with_reducible assumption | with_reducible refine Ext.set ?_ ?_ _ _ | with_reducible refine Ext.alloc ?_ _ | with_reducible refine Ext.drew ?_ | with_reducible refine Ext.drewN ?_ _ | with_reducible refine Ext.trans ?_ (by with_reducible assumption) | omega | (simp; done) | (simp; omega))
  have zW0 : w.heap.size + 2 ≤ ((w.alloc (.cells #[.int .i64 m.kind, .int .i64 m.frm, .int .i64 m.view, .int .i64 m.normal, .int .i64 m.op, .int .i64 m.commit, .int .i64 m.log.base, .slice A0 n0 c0, .slice A1 n1 c1, .slice A2 n2 c2] 119)).alloc (.cells #[.int .i64 m.kind, .int .i64 m.frm, .int .i64 m.view, .int .i64 m.normal, .int .i64 m.op, .int .i64 m.commit, .int .i64 m.log.base, .slice A3 n3 c3, .slice A4 n4 c4, .slice A5 n5 c5] 119)).heap.size := by simp
  have x : Blk ((w.alloc (.cells #[.int .i64 m.kind, .int .i64 m.frm, .int .i64 m.view, .int .i64 m.normal, .int .i64 m.op, .int .i64 m.commit, .int .i64 m.log.base, .slice A0 n0 c0, .slice A1 n1 c1, .slice A2 n2 c2] 119)).alloc (.cells #[.int .i64 m.kind, .int .i64 m.frm, .int .i64 m.view, .int .i64 m.normal, .int .i64 m.op, .int .i64 m.commit, .int .i64 m.log.base, .slice A3 n3 c3, .slice A4 n4 c4, .slice A5 n5 c5] 119)) w.heap.size 119 [.int .i64 m.kind, .int .i64 m.frm, .int .i64 m.view, .int .i64 m.normal, .int .i64 m.op, .int .i64 m.commit, .int .i64 m.log.base, .slice A0 n0 c0, .slice A1 n1 c1, .slice A2 n2 c2] := ((Blk.new w #[.int .i64 m.kind, .int .i64 m.frm, .int .i64 m.view, .int .i64 m.normal, .int .i64 m.op, .int .i64 m.commit, .int .i64 m.log.base, .slice A0 n0 c0, .slice A1 n1 c1, .slice A2 n2 c2] 119 (by first | rfl | simp)).alloc (.cells #[.int .i64 m.kind, .int .i64 m.frm, .int .i64 m.view, .int .i64 m.normal, .int .i64 m.op, .int .i64 m.commit, .int .i64 m.log.base, .slice A3 n3 c3, .slice A4 n4 c4, .slice A5 n5 c5] 119))
  have y : Blk ((w.alloc (.cells #[.int .i64 m.kind, .int .i64 m.frm, .int .i64 m.view, .int .i64 m.normal, .int .i64 m.op, .int .i64 m.commit, .int .i64 m.log.base, .slice A0 n0 c0, .slice A1 n1 c1, .slice A2 n2 c2] 119)).alloc (.cells #[.int .i64 m.kind, .int .i64 m.frm, .int .i64 m.view, .int .i64 m.normal, .int .i64 m.op, .int .i64 m.commit, .int .i64 m.log.base, .slice A3 n3 c3, .slice A4 n4 c4, .slice A5 n5 c5] 119)) (w.heap.size + 1) 119 [.int .i64 m.kind, .int .i64 m.frm, .int .i64 m.view, .int .i64 m.normal, .int .i64 m.op, .int .i64 m.commit, .int .i64 m.log.base, .slice A3 n3 c3, .slice A4 n4 c4, .slice A5 n5 c5] := (Blk.new (w.alloc (.cells #[.int .i64 m.kind, .int .i64 m.frm, .int .i64 m.view, .int .i64 m.normal, .int .i64 m.op, .int .i64 m.commit, .int .i64 m.log.base, .slice A0 n0 c0, .slice A1 n1 c1, .slice A2 n2 c2] 119)) #[.int .i64 m.kind, .int .i64 m.frm, .int .i64 m.view, .int .i64 m.normal, .int .i64 m.op, .int .i64 m.commit, .int .i64 m.log.base, .slice A3 n3 c3, .slice A4 n4 c4, .slice A5 n5 c5] 119 (by first | rfl | simp))
  go_enter Try.func120, Try.ntmps120
  go_upto_region 1 with (fail)
  generalize ((w.alloc (.cells #[.int .i64 m.kind, .int .i64 m.frm, .int .i64 m.view, .int .i64 m.normal, .int .i64 m.op, .int .i64 m.commit, .int .i64 m.log.base, .slice A0 n0 c0, .slice A1 n1 c1, .slice A2 n2 c2] 119)).alloc (.cells #[.int .i64 m.kind, .int .i64 m.frm, .int .i64 m.view, .int .i64 m.normal, .int .i64 m.op, .int .i64 m.commit, .int .i64 m.log.base, .slice A3 n3 c3, .slice A4 n4 c4, .slice A5 n5 c5] 119)) = W0 at *
  obtain ⟨x_p0, x_f0⟩ := x.at 0 _ rfl
  obtain ⟨x_p1, x_f1⟩ := x.at 1 _ rfl
  obtain ⟨x_p2, x_f2⟩ := x.at 2 _ rfl
  obtain ⟨x_p3, x_f3⟩ := x.at 3 _ rfl
  obtain ⟨x_p4, x_f4⟩ := x.at 4 _ rfl
  obtain ⟨x_p5, x_f5⟩ := x.at 5 _ rfl
  obtain ⟨x_p6, x_f6⟩ := x.at 6 _ rfl
  obtain ⟨x_p7, x_f7⟩ := x.at 7 _ rfl
  obtain ⟨x_p8, x_f8⟩ := x.at 8 _ rfl
  obtain ⟨x_p9, x_f9⟩ := x.at 9 _ rfl
  obtain ⟨y_p0, y_f0⟩ := y.at 0 _ rfl
  obtain ⟨y_p1, y_f1⟩ := y.at 1 _ rfl
  obtain ⟨y_p2, y_f2⟩ := y.at 2 _ rfl
  obtain ⟨y_p3, y_f3⟩ := y.at 3 _ rfl
  obtain ⟨y_p4, y_f4⟩ := y.at 4 _ rfl
  obtain ⟨y_p5, y_f5⟩ := y.at 5 _ rfl
  obtain ⟨y_p6, y_f6⟩ := y.at 6 _ rfl
  obtain ⟨y_p7, y_f7⟩ := y.at 7 _ rfl
  obtain ⟨y_p8, y_f8⟩ := y.at 8 _ rfl
  obtain ⟨y_p9, y_f9⟩ := y.at 9 _ rfl
  go_wp2_with fail
  refine (eqLog_v _ _ m.log m.log _ B0 B3 (by exact hl0.keep (keepE' hW0 hX)) (by omega) (by exact hl3.keep (keepE' hW0 hY)) (by omega)).mono ?_
  rw [decide_eq_true (rfl : m.log = m.log)]
  rintro e w2 ⟨rfl, hE2⟩
  have hX2 := hW0.trans hE2
  go_wp2
  go_ret
  exact ⟨rfl, hX2⟩
set_option maxRecDepth 100000 in
set_option maxHeartbeats 4000000 in
theorem eqVoteS_same (u v : Value) (ls : List VoteD) (w : World) (X Y : Nat) (hu : R_VoteS w X u ls) (hX : X ≤ w.heap.size) (hv : R_VoteS w Y v ls) (hY : Y ≤ w.heap.size) :
    Calls Try.prog 84 #[u, v] w fun e w' => e = .returned (.bool true) ∧ Ext w w' := by
  have hm1 := hu.len
  obtain ⟨xs, rfl, ⟨A, n, c, rfl, hxl, _, _, hx⟩, hgx⟩ := hu
  obtain ⟨ys, hxy, ⟨A', m, d, rfl, hyl, _, _, hy⟩, hgy⟩ := hv
  rw [List.length_map, hxl] at hm1
  obtain rfl : n = m := by
    have := congrArg List.length hxy
    rw [List.length_map, List.length_map] at this
    omega
  have Hx := Lib.hid hxl
  have Hy := Lib.hid hyl
  have Gx := Lib.hid hgx
  have Gy := Lib.hid hgy
  have Hxy := Lib.hid hxy
  clear hxl hyl hgx hgy hxy
  go_enter Try.func84, Try.ntmps84
  go_wp2
  go_loopw [5] (fun i wr => ∃ k : Nat, k ≤ n ∧ i = .int .i64 k ∧ Ext w wr) (fun i _ => n - (intOf i).toNat)
  case atStart => exact ⟨0, by omega, rfl, Ext.refl _⟩
  case round =>
    obtain ⟨k, hk, rfl, hst⟩ := hrel
    by_cases hlt : k < n
    · obtain ⟨b, off, x, A0, n0, c0, A1, n1, c1, A2, n2, c2, rfl, _, hx1, hR, hc0, hc1, hc2, hc3, hc4, hc5, hc6, hc7, hc8, hc9⟩ := votes_at (hst.rd hx hX) Hx.out (fun x hx => (Gx.out x hx).keep (keepE' hst hX)) hlt
      obtain ⟨b', off', y, A3, n3, c3, A4, n4, c4, A5, n5, c5, rfl, _, hy1, hR', hd0, hd1, hd2, hd3, hd4, hd5, hd6, hd7, hd8, hd9⟩ := votes_at (hst.rd hy hY) Hy.out (fun x hx => (Gy.out x hx).keep (keepE' hst hY)) hlt
      have hd : y.d = x.d := by
        have h1 : (xs.map (·.d))[k]? = some x.d := by rw [List.getElem?_map, hx1]; rfl
        have h2 : (ys.map (·.d))[k]? = some y.d := by rw [List.getElem?_map, hy1]; rfl
        rw [Hxy.out, h2] at h1
        injection h1
      rw [hd] at hR' hd0 hd1 hd2 hd3 hd4 hd5 hd6
      have hsz := hst.size
      have hlt' : (k : Int) < (n : Int) := by omega
      clear hx1 hy1 hx hy hd
      generalize x.d = xd at *
      go_wp2
      go_still_tail 8, (by kernel_rfl)
      have hst1 := hst.drew
      replace hR : R_Vote wr.drew X _ xd := hR
      replace hR' : R_Vote wr.drew Y _ xd := hR'
      change wpList _ _ _ _ _ wr.drew
      generalize wr.drew = w2 at hst1 hR hR' ⊢
      have hsz2 := hst1.size
      go_wp2_with fail
      refine (eqVote_same _ _ xd _ X Y hR (by omega) hR' (by omega)).mono ?_
      rintro e w3 ⟨rfl, hb3⟩
      have hst3 := hst1.trans hb3
      clear hR hR'
      go_wp2
      go_roundw
      case rel => exact ⟨k + 1, by omega, by go_num, hst3⟩
      case measure => simp [intOf]; omega
    · go_wp2
      go_ret
      exact ⟨rfl, hst⟩

end Go.Proofs.Ytbfbdhjeoknjkaa
