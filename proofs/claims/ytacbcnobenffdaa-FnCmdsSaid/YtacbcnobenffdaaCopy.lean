/-
  slices.Clone, slices.Delete and slices.Insert of the program's rows of records, walked.
-/
import Derived.Test.YtacbcnobenffdaaRowC
import Derived.Test.YtacbcnobenffdaaCells
import Derived.Test.YtacbcnobenffdaaSeats
import Derived.Lib.SliceRun
import Derived.Deep.RegionLaw
namespace Go.Proofs.Ytacbcnobenffdaa
open Go.RowKit

set_option maxRecDepth 100000 in
set_option maxHeartbeats 1000000 in
theorem cloneCell_any (v : Value) (l : List CellD) (w : World) (B : Nat) (hr : R_CellS w B v l) (hB : B ≤ w.heap.size) (hn : l.length ≤ 1073741824) :
    Calls Try.prog 76 #[v] w fun e w' => ∃ v', e = .returned v' ∧ O_CellS w' w.heap.size w'.heap.size v' l ∧ Ext w w' := by
  obtain ⟨A, n, c, rfl, hl, hnc, hcm, hr⟩ := hr
  obtain ⟨i0, hi0, hz0, hz1, hz2⟩ := info_parts info_Cell
  rw [hl] at hn
  have Hl := Lib.hid hl
  have qT : ∀ (w : World) (A : Option Addr) (n c : Nat), (binOp .eql 29 (.slice A n c) (.slice none 0 0)).run Try.prog w = .ok (.bool A.isNone) w := fun w A n c => Lib.run_eql_slice_nil w _ _ A n c 0 0 Try.underlying29
  cases A with
  | none =>
    have h0 : n = 0 := by
      rcases Nat.eq_zero_or_pos n with h | h
      · exact h
      · obtain ⟨b, off, h1, _⟩ := hr.at_ h
        cases h1
    subst h0
    have hl0 : l = [] := List.eq_nil_of_length_eq_zero hl
    subst hl0
    clear hl
    go_enter Try.func76, Try.ntmps76
    go_wp2
    go_ret
    exact ⟨_, rfl, OwnS.nil _, Ext.refl _⟩
  | some a =>
    clear hl
    go_enter Try.func76, Try.ntmps76
    go_wp2_with (at_builtin; refine wpList_app _ rfl _ _ 29 rfl 48 i0 _ 2 16 Try.underlying29 hi0 hz0 hz1 hz2 rfl (by omega) (w.heap.size + 1) (w.heap.size + 1) (.slice (some ⟨w.heap.size, 0, none⟩) 0 0) 0 [] rfl (Own.nil _ _ _ _ _ _) (by simp) (by simp) B (some a) n c _ rfl (((Ext.refl w).alloc _).rd hr hB) (oneCell_Cell _) (by unfold maxLen; omega) (by omega) ?_)
    intro A3 c3 w3 o3 hb3
    have hE3 : Ext w w3 := ((Ext.refl w).alloc _).grown hb3 (fun g h => by simp [blk] at h)
    try simp only [Nat.zero_add, List.nil_append] at o3
    go_wp2
    go_ret
    exact ⟨_, rfl, OwnS.of (o3.wide (by omega) (Nat.le_refl _)) Hl.out, hE3⟩

set_option maxRecDepth 100000 in
set_option maxHeartbeats 1000000 in
theorem deleteCell_any (A : Option Addr) (n c i : Nat) (l : List CellD) (w : World) (lo hiB : Nat) (ho : Own w lo hiB 48 2 (.slice A n c) n (l.flatMap eCell)) (hl : l.length = n) (hi : i < n) (hn : n ≤ 2097152) :
    Calls Try.prog 81 #[.slice A n c, .int .i64 i, .int .i64 (i + 1)] w fun e w' => e = .returned (.slice A (n - 1) c) ∧ Own w' lo hiB 48 2 (.slice A (n - 1) c) (n - 1) ((l.take i ++ l.drop (i + 1)).flatMap eCell) ∧ w.grownBy w' (blk (.slice A n c)) := by
  obtain ⟨g, cap, cur, hv, hb, h1, h2, h3, h4, h5, h6, h7⟩ := ho.block (by omega)
  injection hv with hv _ hv3
  subst hv hv3
  obtain ⟨i0, hi0, hz0, hz1, hz2⟩ := info_parts info_Cell
  rw [blk_row (by omega)]
  have hc63 : c ≤ 9223372036854775807 := by unfold maxLen at h4; omega
  obtain ⟨news, hnews⟩ : ∃ news, news = (l.drop (i + 1)).flatMap eCell := ⟨_, rfl⟩
  have hlen : news.length = (n - (i + 1)) * 2 := by rw [hnews, flat_length eCell_len, List.length_drop, hl]
  have hcell : ∀ j, w.cell? ⟨g, j, none⟩ = cur[j]? := fun j => cell_of_row w g j cur _ (0, 0) hb
  have hfro : ∀ j, w.frozen? ⟨g, j, none⟩ = false := fun j => frozen_of_row w g j cur _ hb
  have hget : ∀ t u, news[t]? = some u → cur[(i + 1) * 2 + t]? = some u := by
    intro t u hu
    have ht : t < (n - (i + 1)) * 2 := by rw [← hlen]; exact (List.getElem?_eq_some_iff.1 hu).1
    rw [h7 _ (by omega), ← hu, hnews, ← flat_drop eCell_len, List.getElem?_drop]
  obtain ⟨A0, hA0, hsrc⟩ : ∃ A0 : Addr, (if c = i + 1 then some (⟨g, 0, none⟩ : Addr) else some ⟨g, (i + 1) * 2, none⟩) = some A0 ∧ Hid (∀ t u, news[t]? = some u → w.drew.cell? (A0.add t) = some u) := by
    by_cases h : c = i + 1
    · refine ⟨⟨g, 0, none⟩, by simp [h], fun t u hu => ?_⟩
      have h0 : news.length = 0 := by rw [hlen]; omega
      rw [List.length_eq_zero_iff.1 h0] at hu
      simp at hu
    · refine ⟨⟨g, (i + 1) * 2, none⟩, by simp [h], fun t u hu => ?_⟩
      rw [addr_add]
      exact (hcell _).trans (hget t u hu)
  have s1 : Hid (news.length = (n - (i + 1)) * 2) := hlen
  have s2 : Hid (∀ u ∈ news, u.oneCell' = true) := by rw [hnews]; exact oneCell_Cell _
  have s3 : Hid (∀ t, t < news.length → (w.drew.cell? ⟨g, 0 + i * 2 + t, none⟩).isSome = true ∧ w.drew.frozen? ⟨g, 0 + i * 2 + t, none⟩ = false) := by
    intro t ht
    refine ⟨?_, hfro _⟩
    show (w.cell? _).isSome = true
    rw [hcell, Array.getElem?_eq_getElem (by omega)]
    rfl
  obtain ⟨W1, hW1⟩ : ∃ W1, W1 = w.drew.setCells g (0 + i * 2) news := ⟨_, rfl⟩
  have hb1 : w.drew.heap[g]? = some (.cells cur 48 (0, 0)) := hb
  obtain ⟨c1, b1, z1, g1, -⟩ := setCells_row news (0 + i * 2) w.drew cur hb1
  rw [← hW1] at b1
  obtain ⟨zs, hzs⟩ : ∃ zs, zs = (Builtin.zeroCells (Value.cells (.agg #[.int .i64 0, .int .i64 0])) 1).toList := ⟨_, rfl⟩
  have hzl : zs.length = 2 := by rw [hzs]; simp [Builtin.zeroCells, Value.cells]
  have hcl : ∀ ty cp, (Builtin.clear_ #[29] ty #[.slice (some ⟨g, (n - 1) * 2, none⟩) 1 cp]).run Try.prog W1 = .ok (.tuple #[]) (W1.setCells g ((n - 1) * 2) zs) := by
    intro ty cp
    rw [hzs]
    exact run_clear_rows W1 _ _ ty _ Try.underlying29 Try.zeroValue48 (by simp [Value.cells, Value.oneCell']) (by simp [Value.cells]) g _ _ _ (by omega) (fun j hj => by rw [cell_of_row W1 g _ c1 _ (0, 0) b1, Array.getElem?_eq_getElem (by simp [Value.cells] at hj; omega)]; rfl) (fun j hj => frozen_of_row W1 g _ c1 _ b1)
  have hdr := Lib.hid (del_row eCell_len (by omega) hl hi (w := w.drew) (lo := lo) (hi' := hiB) (g := g) (cap := c) ho zs hzl)
  have hW := Lib.hid hW1
  have hN := Lib.hid hnews
  have hic : i ≤ c := by omega
  have hjc : i + 1 ≤ c := by omega
  have hin : i + 1 ≤ n := by omega
  have hp1 : (0 : Int) ≤ (i : Int) + 1 := by omega
  have hp2 : (i : Int) + 1 ≤ (n : Int) := by omega
  have hm1 : i + (n - (i + 1)) = n - 1 := by omega
  have hm2 : n - (n - 1) = 1 := by omega
  clear hzs hW1 hnews hlen hget hcell hfro hb hb1 b1 g1 h7 ho hl
  go_enter Try.func81, Try.ntmps81
  go_wp2_with fail
  go_region_law (refine step_append_room rfl (.tmp 22) (.tmp 25) 29 rfl 48 i0 2 Try.underlying29 hi0 hz1 g 0 i c (by simp [Act.eval, Act.put]) A0 (n - (i + 1)) (c - (i + 1)) news (by simp [Act.eval, Act.put]) s1.out hsrc.out s2.out (by omega) s3.out ?_; rw [← hW.out])
  go_wp2
  go_ret
  rw [hW.out, hN.out, Nat.zero_add]
  obtain ⟨d1, d2⟩ := hdr.out
  exact ⟨by first | rfl | (rw [hm1]; rfl), d1, ⟨d2.os, d2.tape, d2.output, d2.size, d2.block⟩⟩

set_option maxRecDepth 100000 in
set_option maxHeartbeats 2000000 in
theorem insertCell_any (A : Option Addr) (n c i vb : Nat) (l : List CellD) (x : CellD) (w : World) (lo hiB : Nat) (ho : Own w lo hiB 48 2 (.slice A n c) n (l.flatMap eCell)) (hl : l.length = n) (hi : i ≤ n) (hn : n ≤ 2097152) (hlo : lo ≤ w.heap.size) (hvb : hiB ≤ vb) (hx : w.heap[vb]? = some (.cells (eCell x).toArray 48 (0, 0))) :
    Calls Try.prog 82 #[.slice A n c, .int .i64 i, .slice (some ⟨vb, 0, none⟩) 1 1] w fun e w' => ∃ A' c', e = .returned (.slice A' (n + 1) c') ∧ Own w' lo w'.heap.size 48 2 (.slice A' (n + 1) c') (n + 1) ((l.take i ++ x :: l.drop i).flatMap eCell) ∧ w.grownBy w' (blk (.slice A n c)) := by
  obtain ⟨i0, hi0, hz0, hz1, hz2⟩ := info_parts info_Cell
  have hbx : vb < w.heap.size := (Array.getElem?_eq_some_iff.1 hx).1
  have hxc : ∀ j, w.cell? ⟨vb, j, none⟩ = (eCell x)[j]? := fun j => by rw [cell_of_row w vb j _ _ (0, 0) hx]; simp
  have hxl : (eCell x).length = 2 := rfl
  have hx1 : ∀ u ∈ eCell x, u.oneCell' = true := fun u hu => oneCell_Cell [x] u (by simpa using hu)
  have hrx : Rd w w.heap.size 2 (some ⟨vb, 0, none⟩) 1 (eCell x) := ⟨by simp [hxl], fun _ => ⟨vb, 0, rfl, hbx, fun j _ => by rw [Nat.zero_add]; exact hxc j⟩⟩
  have hform := ho.rd
  by_cases hin : i = n
  · subst hin
    have h1 : l.take i ++ x :: l.drop i = l ++ [x] := by rw [List.take_of_length_le (by omega), List.drop_of_length_le (by omega)]
    have H1 := Lib.hid h1
    have hc1 := hform.2.1
    have hc2 : c ≤ 9223372036854775807 := by have := hform.2.2.1; unfold maxLen at this; omega
    have Hx := Lib.hid hxl
    clear hl h1 hx hxc hxl hform
    by_cases hci : i = c
    · subst hci
      go_enter Try.func82, Try.ntmps82
      go_wp2_with (at_builtin; refine wpList_app _ rfl _ _ 29 rfl 48 i0 _ 2 16 Try.underlying29 hi0 hz0 hz1 hz2 rfl (by omega) lo hiB (.slice A i _) i _ rfl ho hlo (by omega) w.heap.size (some ⟨vb, 0, none⟩) 1 1 _ rfl hrx hx1 (by unfold maxLen; omega) (by omega) ?_)
      intro A3 c3 w3 o3 hb3
      go_wp2
      go_ret
      refine ⟨_, _, rfl, ?_, hb3⟩
      rw [H1.out, List.flatMap_append]
      simpa using o3
    · have hci2 : ¬ (c = i) := fun h => hci h.symm
      clear hci
      go_enter Try.func82, Try.ntmps82
      go_wp2_with (at_builtin; refine wpList_app _ rfl _ _ 29 rfl 48 i0 _ 2 16 Try.underlying29 hi0 hz0 hz1 hz2 rfl (by omega) lo hiB (.slice A i _) i _ rfl ho hlo (by omega) w.heap.size (some ⟨vb, 0, none⟩) 1 1 _ rfl hrx hx1 (by unfold maxLen; omega) (by omega) ?_)
      intro A3 c3 w3 o3 hb3
      go_wp2
      go_ret
      refine ⟨_, _, rfl, ?_, hb3⟩
      rw [H1.out, List.flatMap_append]
      simpa using o3
  · have hlt : i < n := by omega
    obtain ⟨g, cap, cur, hv, hb, g1, g2, g3, g4, g5, g6, g7⟩ := ho.block (by omega)
    injection hv with hv _ hv3
    subst hv hv3
    have hgw : g < w.heap.size := (Array.getElem?_eq_some_iff.1 hb).1
    rw [blk_row (by omega)]
    have hc63 : c ≤ 9223372036854775807 := by unfold maxLen at g4; omega
    have hcell : ∀ j, w.cell? ⟨g, j, none⟩ = cur[j]? := fun j => cell_of_row w g j cur _ (0, 0) hb
    have hfro : ∀ j, w.frozen? ⟨g, j, none⟩ = false := fun j => frozen_of_row w g j cur _ hb
    have hcs : ∀ j u, (l.flatMap eCell)[j]? = some u → w.cell? ⟨g, j, none⟩ = some u := by
      intro j u hu
      have hj : j < n * 2 := by rw [← g6]; exact (List.getElem?_eq_some_iff.1 hu).1
      rw [hcell, g7 j hj, hu]
    have hdl : ((l.drop i).flatMap eCell).length = (n - i) * 2 := by rw [flat_length eCell_len, List.length_drop, hl]
    have hdc : ∀ j u, ((l.drop i).flatMap eCell)[j]? = some u → w.cell? ⟨g, i * 2 + j, none⟩ = some u := by
      intro j u hu
      rw [← flat_drop eCell_len, List.getElem?_drop] at hu
      exact hcs _ u hu
    have hmix1 : ¬ (c = i) := by omega
    have hi1 : (0 : Int) ≤ (i : Int) + 1 := by omega
    have hi2 : ((i : Int) + 1).toNat = i + 1 := by omega
    have hw1 : IntKind.i64.wrap ((i : Int) + 1) = (i : Int) + 1 := IntWalk.i64_in _ (by omega)
    have hin2 : (i : Int) ≤ (n : Int) := by omega
    have hin3 : (i : Int) + 1 ≤ (n : Int) + 1 := by omega
    have hin4 : (i : Int) ≤ (n : Int) + 1 := by omega
    have hie : ((i : Int) == (n : Int)) = false := by simp; omega
    have hie2 : (i == n) = false := by simp; omega
    by_cases hroom : n + 1 ≤ c
    · -- there is room
      have hne : vb ≠ g := by omega
      have hov : ∀ lb cb, (callFunc 89 #[.slice (some ⟨vb, 0, none⟩) 1 1, .slice (some ⟨g, (i + 1) * 2, none⟩) lb cb]).run Try.prog w = .ok (.value (.bool false)) w := fun lb cb => by
        rw [run_callFunc_extern Try.func89 (by kernel_rfl) (by kernel_rfl) (by kernel_rfl) (e := Extern.SlicesOverlaps.overlaps #[29, 29] #[4]) (by kernel_rfl),
          Lib.run_overlaps_apart w 29 4 48 Try.underlying29 2 Try.sizeOf48 ⟨vb, 0, none⟩ ⟨g, (i + 1) * 2, none⟩ 1 1 lb cb hne 48 48 2 cur.size (by simp [World.shape?, hx, eCell]) (by simp [World.shape?, hb]) (by omega) (frozen_of_row w vb _ _ _ hx) (frozen_of_row w vb _ _ _ hx)]
        rfl
      have hcp1 : ∀ ty dc sc, (Builtin.copy_ #[29, 29] ty #[.slice (some ⟨g, (i + 1) * 2, none⟩) (n - i) dc, .slice (some ⟨g, i * 2, none⟩) (n + 1 - i) sc]).run Try.prog w.drew = .ok (goInt (Nat.min (n + 1 - i) (n - i))) (w.drew.setCells g ((i + 1) * 2) ((l.drop i).flatMap eCell)) := fun ty dc sc =>
        run_copy_rows w.drew _ _ ty 48 i0 2 g _ _ dc ⟨g, i * 2, none⟩ _ sc _ Try.underlying29 hi0 hz1 (by rw [hdl]; congr 1; simp only [Nat.min_def]; split <;> omega)
          (fun j u hu => by rw [addr_add]; exact hdc j u hu) (fun j hj => by show (w.cell? _).isSome = true; rw [hcell, Array.getElem?_eq_getElem (by omega)]; rfl) (fun j _ => hfro _) (oneCell_Cell _)
      obtain ⟨W1, hW1⟩ : ∃ W1, W1 = w.setCells g ((i + 1) * 2) ((l.drop i).flatMap eCell) := ⟨_, rfl⟩
      rw [drew_sets, ← hW1] at hcp1
      have hW1v : W1.heap[vb]? = some (.cells (eCell x).toArray 48 (0, 0)) := by rw [hW1, sets_other g _ _ w cur hb hbx hne]; exact hx
      have hcp2 : ∀ ty dc, (Builtin.copy_ #[29, 29] ty #[.slice (some ⟨g, i * 2, none⟩) (n + 1 - i) dc, .slice (some ⟨vb, 0, none⟩) 1 1]).run Try.prog W1.drew = .ok (goInt (Nat.min 1 (n + 1 - i))) (W1.drew.setCells g (i * 2) (eCell x)) := fun ty dc =>
        run_copy_rows W1.drew _ _ ty 48 i0 2 g _ _ dc ⟨vb, 0, none⟩ 1 1 _ Try.underlying29 hi0 hz1 (by rw [hxl, show Nat.min 1 (n + 1 - i) = 1 from Nat.min_eq_left (by omega)])
          (fun j u hu => by rw [addr_add, Nat.zero_add]; show W1.cell? _ = _; rw [cell_of_row W1 vb j _ _ (0, 0) hW1v]; simpa using hu) (fun j hj => by show (W1.cell? _).isSome = true; rw [hW1]; exact sets_cell g _ _ w cur hb _ (by omega)) (fun j _ => by show W1.frozen? _ = false; rw [hW1]; exact sets_frozen g _ _ w cur hb _) hx1
      rw [drew_sets] at hcp2
      have hfin := Lib.hid (ins_row eCell_len (by omega) hl hlt x (w := w) (lo := lo) (hi' := hiB) (g := g) (cap := c) ho hroom)
      have HW := Lib.hid hW1
      have hgt : decide ((c : Int) < (n : Int) + 1) = false := by simp; omega
      have hgt2 : decide (c < n + 1) = false := by simp; omega
      have hc1 : ¬ (c = i + 1) := by omega
      have hn1 : (n : Int) + 1 ≤ (c : Int) := by omega
      clear hW1 hW1v hl hx hxc hb hcell hfro hcs hdl hdc ho hrx hform g7 hin
      go_enter Try.func82, Try.ntmps82
      go_wp2_with (simp only [hov])
      go_region_law (refine step_cp rfl rfl (by simp [Act.eval, Act.put]) (by simp [Act.eval, Act.put]) (hcp1 _ _ _) ?_)
      go_wp2_with (at_builtin; refine wpList_cp rfl rfl rfl rfl (hcp2 _ _) ?_)
      go_ret
      obtain ⟨f1, f2⟩ := hfin.out
      rw [HW.out]
      exact ⟨_, _, rfl, Own.wide (w := _) f1 (Nat.le_refl _) (by have := f2.size; show hiB ≤ _; exact Nat.le_trans (by omega) this), ⟨f2.os, f2.tape, f2.output, f2.size, f2.block⟩⟩
    · -- there is none: a new row
      obtain rfl : n = c := by omega
      obtain ⟨k, hk⟩ : ∃ k, n + 1 - i = k := ⟨_, rfl⟩
      have hik : i + k = n + 1 := by omega
      have hold : (Builtin.firstCells i0.size i (.slice (some ⟨g, 0, none⟩) i n)).run Try.prog w.drew = .ok ((l.flatMap eCell).take (i * 2)).toArray w.drew := by
        rw [hz1]
        exact run_firstCells_some w.drew 2 i ⟨g, 0, none⟩ i n _ (by rw [List.length_take, g6]; omega) (fun j u hj => by
          rw [addr_add, Nat.zero_add]
          rw [List.getElem?_take] at hj
          split at hj
          · exact hcs j u hj
          · cases hj)
      obtain ⟨G, hG⟩ : ∃ G, G = grownCap w (n + 1) n 48 := ⟨_, rfl⟩
      have hGn : n + 1 ≤ G := by rw [hG]; exact grownCap_ge w _ _ _
      have hGm : G ≤ maxLen := by rw [hG]; exact grownCap_le_maxLen w (n + 1) n 48 (by unfold maxLen; omega)
      have hG63 : G ≤ 9223372036854775807 := by unfold maxLen at hGm; omega
      obtain ⟨ROW, hROW⟩ : ∃ ROW : Array Value, ROW = ((l.flatMap eCell).take (i * 2)).toArray ++ Builtin.zeroCells (Value.cells (.agg #[.int .i64 0, .int .i64 0])) k ++ Builtin.zeroCells (Value.cells (.agg #[.int .i64 0, .int .i64 0])) (G - (n + 1)) := ⟨_, rfl⟩
      have hRs : ROW.size = G * 2 := by
        rw [hROW]
        simp only [Array.size_append, size_zeroCells, List.size_toArray, List.length_take, g6, Value.cells]
        simp
        omega
      have hRt : ∀ j, j < i * 2 → ROW[j]? = (l.flatMap eCell)[j]? := by
        intro j hj
        rw [hROW, Array.append_assoc, Array.getElem?_append_left (by simp only [List.size_toArray, List.length_take, g6]; omega)]
        rw [List.getElem?_toArray, List.getElem?_take, if_pos hj]
      have hrz : ∀ ty, (Builtin.append_ #[29, 3] ty #[.slice (some ⟨g, 0, none⟩) i n, .int .i64 ((n : Int) + 1 - (i : Int))]).run Try.prog w = .ok (.slice (some ⟨w.heap.size, 0, none⟩) (n + 1) G) (w.drew.alloc (.cells ROW 48)) := fun ty => by
        have h := Lib.run_append_grow_zeros w 29 3 ty 48 i0 _ .i64 .i64 Try.underlying29 Try.underlying3 hi0 hz0 (some ⟨g, 0, none⟩) i n _ hold k (by omega) (by omega) (by omega) (by omega) (by rw [hz2]; omega) (by rw [hz2, hik]; exact growslice_fits (by omega) (by omega))
        rw [hik, ← hG, ← hROW, show ((k : Nat) : Int) = (n : Int) + 1 - (i : Int) from by omega] at h
        exact h
      have hN : (w.drew.alloc (.cells ROW 48)).heap[w.heap.size]? = some (.cells ROW 48 (0, 0)) := heap_alloc_new w.drew _
      obtain ⟨W0, hW0⟩ : ∃ W0, W0 = w.drew.alloc (.cells ROW 48) := ⟨_, rfl⟩
      have hE0 : Ext w W0 := by rw [hW0]; exact ((Ext.refl w).drew).alloc _
      rw [← hW0] at hN hrz
      have hxv : W0.heap[vb]? = some (.cells (eCell x).toArray 48 (0, 0)) := hE0.blockAt hx
      have hgv : W0.heap[g]? = some (.cells cur 48 (0, 0)) := hE0.blockAt hb
      have hsz0 : w.heap.size < W0.heap.size := (Array.getElem?_eq_some_iff.1 hN).1
      have hcpA : ∀ ty dc, (Builtin.copy_ #[29, 29] ty #[.slice (some ⟨w.heap.size, i * 2, none⟩) (n + 1 - i) dc, .slice (some ⟨vb, 0, none⟩) 1 1]).run Try.prog W0 = .ok (goInt (Nat.min 1 (n + 1 - i))) (W0.setCells w.heap.size (i * 2) (eCell x)) := fun ty dc =>
        run_copy_rows W0 _ _ ty 48 i0 2 w.heap.size _ _ dc ⟨vb, 0, none⟩ 1 1 _ Try.underlying29 hi0 hz1 (by rw [hxl, show Nat.min 1 (n + 1 - i) = 1 from Nat.min_eq_left (by omega)])
          (fun j u hu => by rw [addr_add, Nat.zero_add, cell_of_row W0 vb j _ _ (0, 0) hxv]; simpa using hu) (fun j hj => by rw [cell_of_row W0 _ _ _ _ (0, 0) hN, Array.getElem?_eq_getElem (by omega)]; rfl) (fun j _ => frozen_of_row W0 _ _ _ _ hN) hx1
      obtain ⟨W1, hW1⟩ : ∃ W1, W1 = W0.setCells w.heap.size (i * 2) (eCell x) := ⟨_, rfl⟩
      rw [← hW1] at hcpA
      have hgv1 : W1.heap[g]? = some (.cells cur 48 (0, 0)) := by rw [hW1, sets_other _ _ _ W0 ROW hN (by omega) (by omega)]; exact hgv
      have hcpB : ∀ ty dc sc, (Builtin.copy_ #[29, 29] ty #[.slice (some ⟨w.heap.size, (i + 1) * 2, none⟩) (n - i) dc, .slice (some ⟨g, i * 2, none⟩) (n - i) sc]).run Try.prog W1.drew = .ok (goInt (Nat.min (n - i) (n - i))) (W1.drew.setCells w.heap.size ((i + 1) * 2) ((l.drop i).flatMap eCell)) := fun ty dc sc =>
        run_copy_rows W1.drew _ _ ty 48 i0 2 w.heap.size _ _ dc ⟨g, i * 2, none⟩ _ sc _ Try.underlying29 hi0 hz1 (by rw [hdl, show Nat.min (n - i) (n - i) = n - i from Nat.min_self _])
          (fun j u hu => by rw [addr_add]; show W1.cell? _ = _; rw [cell_of_row W1 g _ _ _ (0, 0) hgv1, ← hcell]; exact hdc j u hu) (fun j hj => by show (W1.cell? _).isSome = true; rw [hW1]; exact sets_cell _ _ _ W0 ROW hN _ (by omega)) (fun j _ => by show W1.frozen? _ = false; rw [hW1]; exact sets_frozen _ _ _ W0 ROW hN _) (oneCell_Cell _)
      have hfin := Lib.hid (ins_new eCell_len (by omega) hl hlt x (w := W0) (g := w.heap.size) (cap := G) hN hRs hGn hGm hRt)
      rw [drew_sets] at hcpB
      have HW := Lib.hid hW1
      have HE := Lib.hid hE0
      have hgt : decide ((n : Int) < (n : Int) + 1) = true := by simp; omega
      have hgt2 : decide (n < n + 1) = true := by simp
      have hGi : ¬ (G = i) := by omega
      have hGi1 : ¬ (G = i + 1) := by omega
      have hs1 : n + 1 - (i + 1) = n - i := by omega
      clear hW1 hW0 hl hx hxc hb hcell hfro hcs hdl hdc ho hrx hform g7 hin hk hik hold hG hROW hRs hRt hN hE0 hxv hgv hgv1
      go_enter Try.func82, Try.ntmps82
      go_wp2_with (first
        | (at_builtin; refine wpList_ap rfl rfl rfl rfl (hrz _) ?_)
        | (at_builtin; refine wpList_cp rfl rfl rfl rfl (hcpA _ _) ?_))
      go_region_law (refine step_cp rfl rfl (by simp [Act.eval, Act.put]) (by simp [Act.eval, Act.put]) (hcpB _ _ _) ?_)
      go_wp2
      go_ret
      obtain ⟨f1, f2⟩ := hfin.out
      have hB := HE.out.grown f2 (fun b h => by injection h with h; omega)
      rw [HW.out]
      exact ⟨_, _, rfl, Own.wide (w := _) f1 (by omega) (by have := f2.size; show w.heap.size + 1 ≤ _; exact Nat.le_trans hsz0 this), ⟨hB.os, hB.tape, hB.output, hB.size, fun j hj _ => hB.block j hj⟩⟩

set_option maxRecDepth 100000 in
set_option maxHeartbeats 1000000 in
theorem cloneSeat_any (v : Value) (l : List SeatD) (w : World) (B : Nat) (hr : R_SeatS w B v l) (hB : B ≤ w.heap.size) (hn : l.length ≤ 1073741824) :
    Calls Try.prog 77 #[v] w fun e w' => ∃ v', e = .returned v' ∧ O_SeatS w' w.heap.size w'.heap.size v' l ∧ Ext w w' := by
  obtain ⟨A, n, c, rfl, hl, hnc, hcm, hr⟩ := hr
  obtain ⟨i0, hi0, hz0, hz1, hz2⟩ := info_parts info_Seat
  rw [hl] at hn
  have Hl := Lib.hid hl
  have qT : ∀ (w : World) (A : Option Addr) (n c : Nat), (binOp .eql 30 (.slice A n c) (.slice none 0 0)).run Try.prog w = .ok (.bool A.isNone) w := fun w A n c => Lib.run_eql_slice_nil w _ _ A n c 0 0 Try.underlying30
  cases A with
  | none =>
    have h0 : n = 0 := by
      rcases Nat.eq_zero_or_pos n with h | h
      · exact h
      · obtain ⟨b, off, h1, _⟩ := hr.at_ h
        cases h1
    subst h0
    have hl0 : l = [] := List.eq_nil_of_length_eq_zero hl
    subst hl0
    clear hl
    go_enter Try.func77, Try.ntmps77
    go_wp2
    go_ret
    exact ⟨_, rfl, OwnS.nil _, Ext.refl _⟩
  | some a =>
    clear hl
    go_enter Try.func77, Try.ntmps77
    go_wp2_with (at_builtin; refine wpList_app _ rfl _ _ 30 rfl 56 i0 _ 3 24 Try.underlying30 hi0 hz0 hz1 hz2 rfl (by omega) (w.heap.size + 1) (w.heap.size + 1) (.slice (some ⟨w.heap.size, 0, none⟩) 0 0) 0 [] rfl (Own.nil _ _ _ _ _ _) (by simp) (by simp) B (some a) n c _ rfl (((Ext.refl w).alloc _).rd hr hB) (oneCell_Seat _) (by unfold maxLen; omega) (by omega) ?_)
    intro A3 c3 w3 o3 hb3
    have hE3 : Ext w w3 := ((Ext.refl w).alloc _).grown hb3 (fun g h => by simp [blk] at h)
    try simp only [Nat.zero_add, List.nil_append] at o3
    go_wp2
    go_ret
    exact ⟨_, rfl, OwnS.of (o3.wide (by omega) (Nat.le_refl _)) Hl.out, hE3⟩


set_option maxRecDepth 100000 in
set_option maxHeartbeats 2000000 in
theorem insertSeat_any (A : Option Addr) (n c i vb : Nat) (l : List SeatD) (x : SeatD) (w : World) (lo hiB : Nat) (ho : Own w lo hiB 56 3 (.slice A n c) n (l.flatMap eSeat)) (hl : l.length = n) (hi : i ≤ n) (hn : n ≤ 2097152) (hlo : lo ≤ w.heap.size) (hvb : hiB ≤ vb) (hx : w.heap[vb]? = some (.cells (eSeat x).toArray 56 (0, 0))) :
    Calls Try.prog 60 #[.slice A n c, .int .i64 i, .slice (some ⟨vb, 0, none⟩) 1 1] w fun e w' => ∃ A' c', e = .returned (.slice A' (n + 1) c') ∧ Own w' lo w'.heap.size 56 3 (.slice A' (n + 1) c') (n + 1) ((l.take i ++ x :: l.drop i).flatMap eSeat) ∧ w.grownBy w' (blk (.slice A n c)) := by
  obtain ⟨i0, hi0, hz0, hz1, hz2⟩ := info_parts info_Seat
  have hbx : vb < w.heap.size := (Array.getElem?_eq_some_iff.1 hx).1
  have hxc : ∀ j, w.cell? ⟨vb, j, none⟩ = (eSeat x)[j]? := fun j => by rw [cell_of_row w vb j _ _ (0, 0) hx]; simp
  have hxl : (eSeat x).length = 3 := rfl
  have hx1 : ∀ u ∈ eSeat x, u.oneCell' = true := fun u hu => oneCell_Seat [x] u (by simpa using hu)
  have hrx : Rd w w.heap.size 3 (some ⟨vb, 0, none⟩) 1 (eSeat x) := ⟨by simp [hxl], fun _ => ⟨vb, 0, rfl, hbx, fun j _ => by rw [Nat.zero_add]; exact hxc j⟩⟩
  have hform := ho.rd
  by_cases hin : i = n
  · subst hin
    have h1 : l.take i ++ x :: l.drop i = l ++ [x] := by rw [List.take_of_length_le (by omega), List.drop_of_length_le (by omega)]
    have H1 := Lib.hid h1
    have hc1 := hform.2.1
    have hc2 : c ≤ 9223372036854775807 := by have := hform.2.2.1; unfold maxLen at this; omega
    have Hx := Lib.hid hxl
    clear hl h1 hx hxc hxl hform
    by_cases hci : i = c
    · subst hci
      go_enter Try.func60, Try.ntmps60
      go_wp2_with (at_builtin; refine wpList_app _ rfl _ _ 30 rfl 56 i0 _ 3 24 Try.underlying30 hi0 hz0 hz1 hz2 rfl (by omega) lo hiB (.slice A i _) i _ rfl ho hlo (by omega) w.heap.size (some ⟨vb, 0, none⟩) 1 1 _ rfl hrx hx1 (by unfold maxLen; omega) (by omega) ?_)
      intro A3 c3 w3 o3 hb3
      go_wp2
      go_ret
      refine ⟨_, _, rfl, ?_, hb3⟩
      rw [H1.out, List.flatMap_append]
      simpa using o3
    · have hci2 : ¬ (c = i) := fun h => hci h.symm
      clear hci
      go_enter Try.func60, Try.ntmps60
      go_wp2_with (at_builtin; refine wpList_app _ rfl _ _ 30 rfl 56 i0 _ 3 24 Try.underlying30 hi0 hz0 hz1 hz2 rfl (by omega) lo hiB (.slice A i _) i _ rfl ho hlo (by omega) w.heap.size (some ⟨vb, 0, none⟩) 1 1 _ rfl hrx hx1 (by unfold maxLen; omega) (by omega) ?_)
      intro A3 c3 w3 o3 hb3
      go_wp2
      go_ret
      refine ⟨_, _, rfl, ?_, hb3⟩
      rw [H1.out, List.flatMap_append]
      simpa using o3
  · have hlt : i < n := by omega
    obtain ⟨g, cap, cur, hv, hb, g1, g2, g3, g4, g5, g6, g7⟩ := ho.block (by omega)
    injection hv with hv _ hv3
    subst hv hv3
    have hgw : g < w.heap.size := (Array.getElem?_eq_some_iff.1 hb).1
    rw [blk_row (by omega)]
    have hc63 : c ≤ 9223372036854775807 := by unfold maxLen at g4; omega
    have hcell : ∀ j, w.cell? ⟨g, j, none⟩ = cur[j]? := fun j => cell_of_row w g j cur _ (0, 0) hb
    have hfro : ∀ j, w.frozen? ⟨g, j, none⟩ = false := fun j => frozen_of_row w g j cur _ hb
    have hcs : ∀ j u, (l.flatMap eSeat)[j]? = some u → w.cell? ⟨g, j, none⟩ = some u := by
      intro j u hu
      have hj : j < n * 3 := by rw [← g6]; exact (List.getElem?_eq_some_iff.1 hu).1
      rw [hcell, g7 j hj, hu]
    have hdl : ((l.drop i).flatMap eSeat).length = (n - i) * 3 := by rw [flat_length eSeat_len, List.length_drop, hl]
    have hdc : ∀ j u, ((l.drop i).flatMap eSeat)[j]? = some u → w.cell? ⟨g, i * 3 + j, none⟩ = some u := by
      intro j u hu
      rw [← flat_drop eSeat_len, List.getElem?_drop] at hu
      exact hcs _ u hu
    have hmix1 : ¬ (c = i) := by omega
    have hi1 : (0 : Int) ≤ (i : Int) + 1 := by omega
    have hi2 : ((i : Int) + 1).toNat = i + 1 := by omega
    have hw1 : IntKind.i64.wrap ((i : Int) + 1) = (i : Int) + 1 := IntWalk.i64_in _ (by omega)
    have hin2 : (i : Int) ≤ (n : Int) := by omega
    have hin3 : (i : Int) + 1 ≤ (n : Int) + 1 := by omega
    have hin4 : (i : Int) ≤ (n : Int) + 1 := by omega
    have hie : ((i : Int) == (n : Int)) = false := by simp; omega
    have hie2 : (i == n) = false := by simp; omega
    by_cases hroom : n + 1 ≤ c
    · -- there is room
      have hne : vb ≠ g := by omega
      have hov : ∀ lb cb, (callFunc 78 #[.slice (some ⟨vb, 0, none⟩) 1 1, .slice (some ⟨g, (i + 1) * 3, none⟩) lb cb]).run Try.prog w = .ok (.value (.bool false)) w := fun lb cb => by
        rw [run_callFunc_extern Try.func78 (by kernel_rfl) (by kernel_rfl) (by kernel_rfl) (e := Extern.SlicesOverlaps.overlaps #[30, 30] #[4]) (by kernel_rfl),
          Lib.run_overlaps_apart w 30 4 56 Try.underlying30 3 Try.sizeOf56 ⟨vb, 0, none⟩ ⟨g, (i + 1) * 3, none⟩ 1 1 lb cb hne 56 56 3 cur.size (by simp [World.shape?, hx, eSeat]) (by simp [World.shape?, hb]) (by omega) (frozen_of_row w vb _ _ _ hx) (frozen_of_row w vb _ _ _ hx)]
        rfl
      have hcp1 : ∀ ty dc sc, (Builtin.copy_ #[30, 30] ty #[.slice (some ⟨g, (i + 1) * 3, none⟩) (n - i) dc, .slice (some ⟨g, i * 3, none⟩) (n + 1 - i) sc]).run Try.prog w.drew = .ok (goInt (Nat.min (n + 1 - i) (n - i))) (w.drew.setCells g ((i + 1) * 3) ((l.drop i).flatMap eSeat)) := fun ty dc sc =>
        run_copy_rows w.drew _ _ ty 56 i0 3 g _ _ dc ⟨g, i * 3, none⟩ _ sc _ Try.underlying30 hi0 hz1 (by rw [hdl]; congr 1; simp only [Nat.min_def]; split <;> omega)
          (fun j u hu => by rw [addr_add]; exact hdc j u hu) (fun j hj => by show (w.cell? _).isSome = true; rw [hcell, Array.getElem?_eq_getElem (by omega)]; rfl) (fun j _ => hfro _) (oneCell_Seat _)
      obtain ⟨W1, hW1⟩ : ∃ W1, W1 = w.setCells g ((i + 1) * 3) ((l.drop i).flatMap eSeat) := ⟨_, rfl⟩
      rw [drew_sets, ← hW1] at hcp1
      have hW1v : W1.heap[vb]? = some (.cells (eSeat x).toArray 56 (0, 0)) := by rw [hW1, sets_other g _ _ w cur hb hbx hne]; exact hx
      have hcp2 : ∀ ty dc, (Builtin.copy_ #[30, 30] ty #[.slice (some ⟨g, i * 3, none⟩) (n + 1 - i) dc, .slice (some ⟨vb, 0, none⟩) 1 1]).run Try.prog W1.drew = .ok (goInt (Nat.min 1 (n + 1 - i))) (W1.drew.setCells g (i * 3) (eSeat x)) := fun ty dc =>
        run_copy_rows W1.drew _ _ ty 56 i0 3 g _ _ dc ⟨vb, 0, none⟩ 1 1 _ Try.underlying30 hi0 hz1 (by rw [hxl, show Nat.min 1 (n + 1 - i) = 1 from Nat.min_eq_left (by omega)])
          (fun j u hu => by rw [addr_add, Nat.zero_add]; show W1.cell? _ = _; rw [cell_of_row W1 vb j _ _ (0, 0) hW1v]; simpa using hu) (fun j hj => by show (W1.cell? _).isSome = true; rw [hW1]; exact sets_cell g _ _ w cur hb _ (by omega)) (fun j _ => by show W1.frozen? _ = false; rw [hW1]; exact sets_frozen g _ _ w cur hb _) hx1
      rw [drew_sets] at hcp2
      have hfin := Lib.hid (ins_row eSeat_len (by omega) hl hlt x (w := w) (lo := lo) (hi' := hiB) (g := g) (cap := c) ho hroom)
      have HW := Lib.hid hW1
      have hgt : decide ((c : Int) < (n : Int) + 1) = false := by simp; omega
      have hgt2 : decide (c < n + 1) = false := by simp; omega
      have hc1 : ¬ (c = i + 1) := by omega
      have hn1 : (n : Int) + 1 ≤ (c : Int) := by omega
      clear hW1 hW1v hl hx hxc hb hcell hfro hcs hdl hdc ho hrx hform g7 hin
      go_enter Try.func60, Try.ntmps60
      go_wp2_with (simp only [hov])
      go_region_law (refine step_cp rfl rfl (by simp [Act.eval, Act.put]) (by simp [Act.eval, Act.put]) (hcp1 _ _ _) ?_)
      go_wp2_with (at_builtin; refine wpList_cp rfl rfl rfl rfl (hcp2 _ _) ?_)
      go_ret
      obtain ⟨f1, f2⟩ := hfin.out
      rw [HW.out]
      exact ⟨_, _, rfl, Own.wide (w := _) f1 (Nat.le_refl _) (by have := f2.size; show hiB ≤ _; exact Nat.le_trans (by omega) this), ⟨f2.os, f2.tape, f2.output, f2.size, f2.block⟩⟩
    · -- there is none: a new row
      obtain rfl : n = c := by omega
      obtain ⟨k, hk⟩ : ∃ k, n + 1 - i = k := ⟨_, rfl⟩
      have hik : i + k = n + 1 := by omega
      have hold : (Builtin.firstCells i0.size i (.slice (some ⟨g, 0, none⟩) i n)).run Try.prog w.drew = .ok ((l.flatMap eSeat).take (i * 3)).toArray w.drew := by
        rw [hz1]
        exact run_firstCells_some w.drew 3 i ⟨g, 0, none⟩ i n _ (by rw [List.length_take, g6]; omega) (fun j u hj => by
          rw [addr_add, Nat.zero_add]
          rw [List.getElem?_take] at hj
          split at hj
          · exact hcs j u hj
          · cases hj)
      obtain ⟨G, hG⟩ : ∃ G, G = grownCap w (n + 1) n 56 := ⟨_, rfl⟩
      have hGn : n + 1 ≤ G := by rw [hG]; exact grownCap_ge w _ _ _
      have hGm : G ≤ maxLen := by rw [hG]; exact grownCap_le_maxLen w (n + 1) n 56 (by unfold maxLen; omega)
      have hG63 : G ≤ 9223372036854775807 := by unfold maxLen at hGm; omega
      obtain ⟨ROW, hROW⟩ : ∃ ROW : Array Value, ROW = ((l.flatMap eSeat).take (i * 3)).toArray ++ Builtin.zeroCells (Value.cells (.agg #[.int .i64 0, .int .i64 0, .int .i64 0])) k ++ Builtin.zeroCells (Value.cells (.agg #[.int .i64 0, .int .i64 0, .int .i64 0])) (G - (n + 1)) := ⟨_, rfl⟩
      have hRs : ROW.size = G * 3 := by
        rw [hROW]
        simp only [Array.size_append, size_zeroCells, List.size_toArray, List.length_take, g6, Value.cells]
        simp
        omega
      have hRt : ∀ j, j < i * 3 → ROW[j]? = (l.flatMap eSeat)[j]? := by
        intro j hj
        rw [hROW, Array.append_assoc, Array.getElem?_append_left (by simp only [List.size_toArray, List.length_take, g6]; omega)]
        rw [List.getElem?_toArray, List.getElem?_take, if_pos hj]
      have hrz : ∀ ty, (Builtin.append_ #[30, 3] ty #[.slice (some ⟨g, 0, none⟩) i n, .int .i64 ((n : Int) + 1 - (i : Int))]).run Try.prog w = .ok (.slice (some ⟨w.heap.size, 0, none⟩) (n + 1) G) (w.drew.alloc (.cells ROW 56)) := fun ty => by
        have h := Lib.run_append_grow_zeros w 30 3 ty 56 i0 _ .i64 .i64 Try.underlying30 Try.underlying3 hi0 hz0 (some ⟨g, 0, none⟩) i n _ hold k (by omega) (by omega) (by omega) (by omega) (by rw [hz2]; omega) (by rw [hz2, hik]; exact growslice_fits (by omega) (by omega))
        rw [hik, ← hG, ← hROW, show ((k : Nat) : Int) = (n : Int) + 1 - (i : Int) from by omega] at h
        exact h
      have hN : (w.drew.alloc (.cells ROW 56)).heap[w.heap.size]? = some (.cells ROW 56 (0, 0)) := heap_alloc_new w.drew _
      obtain ⟨W0, hW0⟩ : ∃ W0, W0 = w.drew.alloc (.cells ROW 56) := ⟨_, rfl⟩
      have hE0 : Ext w W0 := by rw [hW0]; exact ((Ext.refl w).drew).alloc _
      rw [← hW0] at hN hrz
      have hxv : W0.heap[vb]? = some (.cells (eSeat x).toArray 56 (0, 0)) := hE0.blockAt hx
      have hgv : W0.heap[g]? = some (.cells cur 56 (0, 0)) := hE0.blockAt hb
      have hsz0 : w.heap.size < W0.heap.size := (Array.getElem?_eq_some_iff.1 hN).1
      have hcpA : ∀ ty dc, (Builtin.copy_ #[30, 30] ty #[.slice (some ⟨w.heap.size, i * 3, none⟩) (n + 1 - i) dc, .slice (some ⟨vb, 0, none⟩) 1 1]).run Try.prog W0 = .ok (goInt (Nat.min 1 (n + 1 - i))) (W0.setCells w.heap.size (i * 3) (eSeat x)) := fun ty dc =>
        run_copy_rows W0 _ _ ty 56 i0 3 w.heap.size _ _ dc ⟨vb, 0, none⟩ 1 1 _ Try.underlying30 hi0 hz1 (by rw [hxl, show Nat.min 1 (n + 1 - i) = 1 from Nat.min_eq_left (by omega)])
          (fun j u hu => by rw [addr_add, Nat.zero_add, cell_of_row W0 vb j _ _ (0, 0) hxv]; simpa using hu) (fun j hj => by rw [cell_of_row W0 _ _ _ _ (0, 0) hN, Array.getElem?_eq_getElem (by omega)]; rfl) (fun j _ => frozen_of_row W0 _ _ _ _ hN) hx1
      obtain ⟨W1, hW1⟩ : ∃ W1, W1 = W0.setCells w.heap.size (i * 3) (eSeat x) := ⟨_, rfl⟩
      rw [← hW1] at hcpA
      have hgv1 : W1.heap[g]? = some (.cells cur 56 (0, 0)) := by rw [hW1, sets_other _ _ _ W0 ROW hN (by omega) (by omega)]; exact hgv
      have hcpB : ∀ ty dc sc, (Builtin.copy_ #[30, 30] ty #[.slice (some ⟨w.heap.size, (i + 1) * 3, none⟩) (n - i) dc, .slice (some ⟨g, i * 3, none⟩) (n - i) sc]).run Try.prog W1.drew = .ok (goInt (Nat.min (n - i) (n - i))) (W1.drew.setCells w.heap.size ((i + 1) * 3) ((l.drop i).flatMap eSeat)) := fun ty dc sc =>
        run_copy_rows W1.drew _ _ ty 56 i0 3 w.heap.size _ _ dc ⟨g, i * 3, none⟩ _ sc _ Try.underlying30 hi0 hz1 (by rw [hdl, show Nat.min (n - i) (n - i) = n - i from Nat.min_self _])
          (fun j u hu => by rw [addr_add]; show W1.cell? _ = _; rw [cell_of_row W1 g _ _ _ (0, 0) hgv1, ← hcell]; exact hdc j u hu) (fun j hj => by show (W1.cell? _).isSome = true; rw [hW1]; exact sets_cell _ _ _ W0 ROW hN _ (by omega)) (fun j _ => by show W1.frozen? _ = false; rw [hW1]; exact sets_frozen _ _ _ W0 ROW hN _) (oneCell_Seat _)
      have hfin := Lib.hid (ins_new eSeat_len (by omega) hl hlt x (w := W0) (g := w.heap.size) (cap := G) hN hRs hGn hGm hRt)
      rw [drew_sets] at hcpB
      have HW := Lib.hid hW1
      have HE := Lib.hid hE0
      have hgt : decide ((n : Int) < (n : Int) + 1) = true := by simp; omega
      have hgt2 : decide (n < n + 1) = true := by simp
      have hGi : ¬ (G = i) := by omega
      have hGi1 : ¬ (G = i + 1) := by omega
      have hs1 : n + 1 - (i + 1) = n - i := by omega
      clear hW1 hW0 hl hx hxc hb hcell hfro hcs hdl hdc ho hrx hform g7 hin hk hik hold hG hROW hRs hRt hN hE0 hxv hgv hgv1
      go_enter Try.func60, Try.ntmps60
      go_wp2_with (first
        | (at_builtin; refine wpList_ap rfl rfl rfl rfl (hrz _) ?_)
        | (at_builtin; refine wpList_cp rfl rfl rfl rfl (hcpA _ _) ?_))
      go_region_law (refine step_cp rfl rfl (by simp [Act.eval, Act.put]) (by simp [Act.eval, Act.put]) (hcpB _ _ _) ?_)
      go_wp2
      go_ret
      obtain ⟨f1, f2⟩ := hfin.out
      have hB := HE.out.grown f2 (fun b h => by injection h with h; omega)
      rw [HW.out]
      exact ⟨_, _, rfl, Own.wide (w := _) f1 (by omega) (by have := f2.size; show w.heap.size + 1 ≤ _; exact Nat.le_trans hsz0 this), ⟨hB.os, hB.tape, hB.output, hB.size, fun j hj _ => hB.block j hj⟩⟩







end Go.Proofs.Ytacbcnobenffdaa
