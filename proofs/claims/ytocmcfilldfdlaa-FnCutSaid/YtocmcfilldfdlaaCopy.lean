/-
  slices.Clone, slices.Delete and slices.Insert of the program's rows of records, walked.
-/
import Derived.Test.YtocmcfilldfdlaaRowC
import Derived.Test.YtocmcfilldfdlaaCells
import Derived.Test.YtocmcfilldfdlaaSeats
import Derived.Test.YtocmcfilldfdlaaEntries
import Derived.Lib.SliceRun
import Derived.Deep.RegionLaw
namespace Go.Proofs.Ytocmcfilldfdlaa
open Go.RowKit

set_option maxRecDepth 100000 in
set_option maxHeartbeats 1000000 in
theorem cloneCell_any (v : Value) (l : List CellD) (w : World) (B : Nat) (hr : R_CellS w B v l) (hB : B ≤ w.heap.size) (hn : l.length ≤ 1073741824) :
    Calls Try.prog 98 #[v] w fun e w' => ∃ v', e = .returned v' ∧ O_CellS w' w.heap.size w'.heap.size v' l ∧ Ext w w' := by
  obtain ⟨A, n, c, rfl, hl, hnc, hcm, hr⟩ := hr
  obtain ⟨i0, hi0, hz0, hz1, hz2⟩ := info_parts info_Cell
  rw [hl] at hn
  have Hl := Lib.hid hl
  have qT : ∀ (w : World) (A : Option Addr) (n c : Nat), (binOp .eql 31 (.slice A n c) (.slice none 0 0)).run Try.prog w = .ok (.bool A.isNone) w := fun w A n c => Lib.run_eql_slice_nil w _ _ A n c 0 0 Try.underlying31
  cases A with
  | none =>
    have h0 : n = 0 := by
      rcases Nat.eq_zero_or_pos n with h | h
      · exact h
      · obtain ⟨b, off, h1, _⟩ := hr.at_ h
        cases h1
    subst h0
    have hl0 : l = [] := List.eq_nil_of_length_eq_zero hl
    subst hl0
    clear hl
    go_enter Try.func98, Try.ntmps98
    go_wp2
    go_ret
    exact ⟨_, rfl, OwnS.nil _, Ext.refl _⟩
  | some a =>
    clear hl
    go_enter Try.func98, Try.ntmps98
    go_wp2_with (at_builtin; refine wpList_app _ rfl _ _ 31 rfl 87 i0 _ 2 16 Try.underlying31 hi0 hz0 hz1 hz2 rfl (by omega) (w.heap.size + 1) (w.heap.size + 1) (.slice (some ⟨w.heap.size, 0, none⟩) 0 0) 0 [] rfl (Own.nil _ _ _ _ _ _) (by simp) (by simp) B (some a) n c _ rfl (((Ext.refl w).alloc _).rd hr hB) (oneCell_Cell _) (by unfold maxLen; omega) (by omega) ?_)
    intro A3 c3 w3 o3 hb3
    have hE3 : Ext w w3 := ((Ext.refl w).alloc _).grown hb3 (fun g h => by simp [blk] at h)
    try simp only [Nat.zero_add, List.nil_append] at o3
    go_wp2
    go_ret
    exact ⟨_, rfl, OwnS.of (o3.wide (by omega) (Nat.le_refl _)) Hl.out, hE3⟩



set_option maxRecDepth 100000 in
set_option maxHeartbeats 1000000 in
theorem cloneSeat_any (v : Value) (l : List SeatD) (w : World) (B : Nat) (hr : R_SeatS w B v l) (hB : B ≤ w.heap.size) (hn : l.length ≤ 1073741824) :
    Calls Try.prog 99 #[v] w fun e w' => ∃ v', e = .returned v' ∧ O_SeatS w' w.heap.size w'.heap.size v' l ∧ Ext w w' := by
  obtain ⟨A, n, c, rfl, hl, hnc, hcm, hr⟩ := hr
  obtain ⟨i0, hi0, hz0, hz1, hz2⟩ := info_parts info_Seat
  rw [hl] at hn
  have Hl := Lib.hid hl
  have qT : ∀ (w : World) (A : Option Addr) (n c : Nat), (binOp .eql 32 (.slice A n c) (.slice none 0 0)).run Try.prog w = .ok (.bool A.isNone) w := fun w A n c => Lib.run_eql_slice_nil w _ _ A n c 0 0 Try.underlying32
  cases A with
  | none =>
    have h0 : n = 0 := by
      rcases Nat.eq_zero_or_pos n with h | h
      · exact h
      · obtain ⟨b, off, h1, _⟩ := hr.at_ h
        cases h1
    subst h0
    have hl0 : l = [] := List.eq_nil_of_length_eq_zero hl
    subst hl0
    clear hl
    go_enter Try.func99, Try.ntmps99
    go_wp2
    go_ret
    exact ⟨_, rfl, OwnS.nil _, Ext.refl _⟩
  | some a =>
    clear hl
    go_enter Try.func99, Try.ntmps99
    go_wp2_with (at_builtin; refine wpList_app _ rfl _ _ 32 rfl 89 i0 _ 3 24 Try.underlying32 hi0 hz0 hz1 hz2 rfl (by omega) (w.heap.size + 1) (w.heap.size + 1) (.slice (some ⟨w.heap.size, 0, none⟩) 0 0) 0 [] rfl (Own.nil _ _ _ _ _ _) (by simp) (by simp) B (some a) n c _ rfl (((Ext.refl w).alloc _).rd hr hB) (oneCell_Seat _) (by unfold maxLen; omega) (by omega) ?_)
    intro A3 c3 w3 o3 hb3
    have hE3 : Ext w w3 := ((Ext.refl w).alloc _).grown hb3 (fun g h => by simp [blk] at h)
    try simp only [Nat.zero_add, List.nil_append] at o3
    go_wp2
    go_ret
    exact ⟨_, rfl, OwnS.of (o3.wide (by omega) (Nat.le_refl _)) Hl.out, hE3⟩



set_option maxRecDepth 100000 in
set_option maxHeartbeats 1000000 in
theorem cloneEntry_any (v : Value) (l : List EntryD) (w : World) (B : Nat) (hr : R_EntryS w B v l) (hB : B ≤ w.heap.size) (hn : l.length ≤ 1073741824) :
    Calls Try.prog 58 #[v] w fun e w' => ∃ v', e = .returned v' ∧ O_EntryS w' w.heap.size w'.heap.size v' l ∧ Ext w w' := by
  obtain ⟨A, n, c, rfl, hl, hnc, hcm, hr⟩ := hr
  obtain ⟨i0, hi0, hz0, hz1, hz2⟩ := info_parts info_Entry
  rw [hl] at hn
  have Hl := Lib.hid hl
  have qT : ∀ (w : World) (A : Option Addr) (n c : Nat), (binOp .eql 35 (.slice A n c) (.slice none 0 0)).run Try.prog w = .ok (.bool A.isNone) w := fun w A n c => Lib.run_eql_slice_nil w _ _ A n c 0 0 Try.underlying35
  cases A with
  | none =>
    have h0 : n = 0 := by
      rcases Nat.eq_zero_or_pos n with h | h
      · exact h
      · obtain ⟨b, off, h1, _⟩ := hr.at_ h
        cases h1
    subst h0
    have hl0 : l = [] := List.eq_nil_of_length_eq_zero hl
    subst hl0
    clear hl
    go_enter Try.func58, Try.ntmps58
    go_wp2
    go_ret
    exact ⟨_, rfl, OwnS.nil _, Ext.refl _⟩
  | some a =>
    clear hl
    go_enter Try.func58, Try.ntmps58
    go_wp2_with (at_builtin; refine wpList_app _ rfl _ _ 35 rfl 46 i0 _ 5 40 Try.underlying35 hi0 hz0 hz1 hz2 rfl (by omega) (w.heap.size + 1) (w.heap.size + 1) (.slice (some ⟨w.heap.size, 0, none⟩) 0 0) 0 [] rfl (Own.nil _ _ _ _ _ _) (by simp) (by simp) B (some a) n c _ rfl (((Ext.refl w).alloc _).rd hr hB) (oneCell_Entry _) (by unfold maxLen; omega) (by omega) ?_)
    intro A3 c3 w3 o3 hb3
    have hE3 : Ext w w3 := ((Ext.refl w).alloc _).grown hb3 (fun g h => by simp [blk] at h)
    try simp only [Nat.zero_add, List.nil_append] at o3
    go_wp2
    go_ret
    exact ⟨_, rfl, OwnS.of (o3.wide (by omega) (Nat.le_refl _)) Hl.out, hE3⟩






end Go.Proofs.Ytocmcfilldfdlaa
