/-
  Texts of this seat, merged: Put2, Run.
-/
import Derived.Test.YtbfbdhjeoknjkaaPut
import Derived.Test.YtbfbdhjeoknjkaaMg1
/-
  put, l2Cells, l2Seats, walked.
-/
namespace Go.Proofs.Ytbfbdhjeoknjkaa
open Go.RowKit

def putL (l : List CellD) (k v : Int) : List CellD := if v = -1 then dropK CellD.key l k else putK CellD.key l ⟨k, v⟩



set_option maxRecDepth 100000 in
set_option maxHeartbeats 4000000 in
theorem l2Cells_s (v : Value) (l : List CellD) (k y : Int) (keep : Bool) (w : World) (B : Nat) (hr : R_CellS w B v l) (hB : B ≤ w.heap.size) (hn : l.length ≤ 1048576) :
    Calls Try.prog 145 #[v, .int .i64 k, .int .i64 y, .bool keep] w fun e w' => ∃ v', e = .returned v' ∧ O_CellS w' w.heap.size w'.heap.size v' (l2K CellD.key ⟨k, y⟩ (!keep) l) ∧ Ext w w' := by
  obtain ⟨A, n, c, rfl, hl, -, -, hr⟩ := hr
  obtain ⟨i0, hi0, hz0, hz1, hz2⟩ := info_parts info_Cell
  rw [hl] at hn
  have Hl := Lib.hid hl
  clear hl
  have Hone := Lib.hid (oneCell_Cell [⟨k, y⟩])
  go_enter Try.func145, Try.ntmps145
  go_wp2
  go_loopw [9, 10, 11] (fun ov pv iv wr => ∃ (i m : Nat) (A' : Option Addr) (c' : Nat) (b : Bool) (L : List CellD), i ≤ n ∧ m ≤ 2 * i ∧ iv = .int .i64 i ∧ pv = .bool b ∧ ov = .slice A' m c' ∧ Hid (L.length = m) ∧ Own wr w.heap.size wr.heap.size 86 2 (.slice A' m c') m (L.flatMap eCell) ∧ Hid (L ++ l2K CellD.key ⟨k, y⟩ b (l.drop i) = l2K CellD.key ⟨k, y⟩ (!keep) l) ∧ Ext w wr) (fun _ _ iv _ => n - (intOf iv).toNat)
  case atStart => exact ⟨0, 0, _, 0, !keep, [], by omega, by omega, rfl, rfl, rfl, rfl, Own.nil _ _ _ _ _ _, rfl, by repeat' (first | with_reducible exact Ext.refl _ | with_reducible assumption | with_reducible refine Ext.set ?_ ?_ _ _ | with_reducible refine Ext.alloc ?_ _ | with_reducible refine Ext.drew ?_ | with_reducible refine Ext.drewN ?_ _ | with_reducible refine Ext.trans ?_ (by with_reducible assumption) | omega | (simp; done) | (simp; omega))⟩
  case round =>
    obtain ⟨i, m, A', c', b, L, hi, hm2, rfl, rfl, rfl, hLl, hown, hgo, hext⟩ := hrel
    have hz3 := hext.size
    by_cases hlt : i < n
    · obtain ⟨b0, off, x, rfl, hb0, hx1, hc0, hc1⟩ := (hext.rd hr hB).Cell Hl.out hlt
      have hstep := hgo.out
      rw [drop_cons hx1, l2K] at hstep
      have Hstep := Lib.hid hstep
      have hbw : b0 < wr.heap.size := by omega
      have hbw0 : b0 < w.heap.size := by omega
      clear hstep hx1 hgo
      cases b with
      | true =>
        by_cases he : x.key = k
        · have he1 : (x.key != k) = false := by simp [he]
          have hs2 : Hid (L ++ l2K CellD.key ⟨k, y⟩ true (l.drop (i + 1)) = l2K CellD.key ⟨k, y⟩ (!keep) l) := by
            show _ = _
            rw [← Hstep.out]
            simp [he]
          clear he
          go_wp2
          go_roundw
          case rel => exact ⟨i + 1, m, A', c', true, L, by omega, by omega, by go_num, rfl, rfl, hLl, hown, hs2, hext⟩
          case measure => simp [intOf]; omega
        · have he1 : (x.key != k) = true := by simpa using he
          have hs2 : Hid ((L ++ [x]) ++ l2K CellD.key ⟨k, y⟩ true (l.drop (i + 1)) = l2K CellD.key ⟨k, y⟩ (!keep) l) := by
            show _ = _
            rw [← Hstep.out]
            simp [he]
          have He := Lib.hid he
          clear he
          go_wp2_with (at_builtin; refine wpList_app _ rfl _ _ 36 rfl 86 i0 _ 2 16 Try.underlying36 hi0 hz0 hz1 hz2 rfl (by omega) w.heap.size wr.heap.size (.slice A' m c') m _ rfl (((Ext.refl wr).alloc _).own hown (Nat.le_refl _)) (by simp; omega) (by simp) (wr.heap.size + 1) (some ⟨wr.heap.size, 0, none⟩) 1 1 (eCell x) rfl (own_made wr #[.int .i64 x.key, .int .i64 x.value] 1 86 2 (by unfold maxLen; omega) rfl).rd.2.2.2 (fun u hu => oneCell_Cell [x] u (by simpa using hu)) (by unfold maxLen; omega) (by omega) ?_)
          intro A3 c3 w3 o3 hb3
          have hE3 : Ext w w3 := (hext.alloc _).grown hb3 (fun g h => (hown.lt g h).1)
          have hL1 : Hid ((L ++ [x]).length = m + 1) := by show _ = _; rw [List.length_append, hLl.out]; rfl
          replace o3 : Own w3 w.heap.size w3.heap.size 86 2 (.slice A3 (m + 1) c3) (m + 1) ((L ++ [x]).flatMap eCell) := by rw [List.flatMap_append]; simpa using o3
          have hzzw3 := hE3.size
          have kc0w3 := ((hE3.look.1 b0 _ hbw0).trans (hext.look.1 b0 _ hbw0).symm).trans hc0; have kc1w3 := ((hE3.look.1 b0 _ hbw0).trans (hext.look.1 b0 _ hbw0).symm).trans hc1
          clear hb3 hown
          go_wp2
          go_roundw
          case rel => exact ⟨i + 1, m + 1, A3, c3, true, L ++ [x], by omega, by omega, by go_num, rfl, rfl, hL1, o3, hs2, hE3⟩
          case measure => simp [intOf]; omega
      | false =>
        by_cases hge : k ≤ x.key
        · by_cases he : x.key = k
          · have he1 : (x.key != k) = false := by simp [he]
            have hs2 : Hid ((L ++ [(⟨k, y⟩ : CellD)]) ++ l2K CellD.key ⟨k, y⟩ true (l.drop (i + 1)) = l2K CellD.key ⟨k, y⟩ (!keep) l) := by
              show _ = _
              rw [← Hstep.out]
              simp [he]
            have hge1 : decide (k ≤ x.key) = true := by simpa using hge
            clear he
            go_wp2_with (at_builtin; refine wpList_app _ rfl _ _ 36 rfl 86 i0 _ 2 16 Try.underlying36 hi0 hz0 hz1 hz2 rfl (by omega) w.heap.size wr.heap.size (.slice A' m c') m _ rfl (((Ext.refl wr).alloc _).own hown (Nat.le_refl _)) (by simp; omega) (by simp) (wr.heap.size + 1) (some ⟨wr.heap.size, 0, none⟩) 1 1 (eCell (⟨k, y⟩ : CellD)) rfl (own_made wr #[.int .i64 k, .int .i64 y] 1 86 2 (by unfold maxLen; omega) rfl).rd.2.2.2 (fun u hu => oneCell_Cell [(⟨k, y⟩ : CellD)] u (by simpa using hu)) (by unfold maxLen; omega) (by omega) ?_)
            intro A3 c3 w3 o3 hb3
            have hE3 : Ext w w3 := (hext.alloc _).grown hb3 (fun g h => (hown.lt g h).1)
            have hL1 : Hid ((L ++ [(⟨k, y⟩ : CellD)]).length = m + 1) := by show _ = _; rw [List.length_append, hLl.out]; rfl
            replace o3 : Own w3 w.heap.size w3.heap.size 86 2 (.slice A3 (m + 1) c3) (m + 1) ((L ++ [(⟨k, y⟩ : CellD)]).flatMap eCell) := by rw [List.flatMap_append]; simpa using o3
            have hzzw3 := hE3.size
            have kc0w3 := ((hE3.look.1 b0 _ hbw0).trans (hext.look.1 b0 _ hbw0).symm).trans hc0; have kc1w3 := ((hE3.look.1 b0 _ hbw0).trans (hext.look.1 b0 _ hbw0).symm).trans hc1
            clear hb3 hown
            go_wp2
            go_roundw
            case rel => exact ⟨i + 1, m + 1, A3, c3, true, L ++ [⟨k, y⟩], by omega, by omega, by go_num, rfl, rfl, hL1, o3, hs2, hE3⟩
            case measure => simp [intOf]; omega
          · have he1 : (x.key != k) = true := by simpa using he
            have hs2 : Hid ((L ++ [(⟨k, y⟩ : CellD)] ++ [x]) ++ l2K CellD.key ⟨k, y⟩ true (l.drop (i + 1)) = l2K CellD.key ⟨k, y⟩ (!keep) l) := by
              show _ = _
              rw [← Hstep.out]
              simp [he, hge]
            have hge1 : decide (k ≤ x.key) = true := by simpa using hge
            have He := Lib.hid he
            clear he
            go_wp2_with (at_builtin; refine wpList_app _ rfl _ _ 36 rfl 86 i0 _ 2 16 Try.underlying36 hi0 hz0 hz1 hz2 rfl (by omega) w.heap.size wr.heap.size (.slice A' m c') m _ rfl (((Ext.refl wr).alloc _).own hown (Nat.le_refl _)) (by simp; omega) (by simp) (wr.heap.size + 1) (some ⟨wr.heap.size, 0, none⟩) 1 1 (eCell (⟨k, y⟩ : CellD)) rfl (own_made wr #[.int .i64 k, .int .i64 y] 1 86 2 (by unfold maxLen; omega) rfl).rd.2.2.2 (fun u hu => oneCell_Cell [(⟨k, y⟩ : CellD)] u (by simpa using hu)) (by unfold maxLen; omega) (by omega) ?_)
            intro A3 c3 w3 o3 hb3
            have hE3 : Ext w w3 := (hext.alloc _).grown hb3 (fun g h => (hown.lt g h).1)
            have hL1 : Hid ((L ++ [(⟨k, y⟩ : CellD)]).length = m + 1) := by show _ = _; rw [List.length_append, hLl.out]; rfl
            replace o3 : Own w3 w.heap.size w3.heap.size 86 2 (.slice A3 (m + 1) c3) (m + 1) ((L ++ [(⟨k, y⟩ : CellD)]).flatMap eCell) := by rw [List.flatMap_append]; simpa using o3
            have hzzw3 := hE3.size
            have kc0w3 := ((hE3.look.1 b0 _ hbw0).trans (hext.look.1 b0 _ hbw0).symm).trans hc0; have kc1w3 := ((hE3.look.1 b0 _ hbw0).trans (hext.look.1 b0 _ hbw0).symm).trans hc1
            clear hb3 hown
            go_wp2_with (at_builtin; refine wpList_app _ rfl _ _ 36 rfl 86 i0 _ 2 16 Try.underlying36 hi0 hz0 hz1 hz2 rfl (by omega) w.heap.size w3.heap.size (.slice A3 (m + 1) c3) (m + 1) _ rfl (((Ext.refl w3).alloc _).own o3 (Nat.le_refl _)) (by simp; omega) (by simp) (w3.heap.size + 1) (some ⟨w3.heap.size, 0, none⟩) 1 1 (eCell x) rfl (own_made w3 #[.int .i64 x.key, .int .i64 x.value] 1 86 2 (by unfold maxLen; omega) rfl).rd.2.2.2 (fun u hu => oneCell_Cell [x] u (by simpa using hu)) (by unfold maxLen; omega) (by omega) ?_)
            intro A4 c4 w4 o4 hb4
            have hE4 : Ext w w4 := (hE3.alloc _).grown hb4 (fun g h => (o3.lt g h).1)
            have hL2 : Hid ((L ++ [(⟨k, y⟩ : CellD)] ++ [x]).length = (m + 1) + 1) := by show _ = _; rw [List.length_append, hL1.out]; rfl
            replace o4 : Own w4 w.heap.size w4.heap.size 86 2 (.slice A4 ((m + 1) + 1) c4) ((m + 1) + 1) ((L ++ [(⟨k, y⟩ : CellD)] ++ [x]).flatMap eCell) := by rw [List.flatMap_append]; simpa using o4
            have hzzw4 := hE4.size
            have kc0w4 := ((hE4.look.1 b0 _ hbw0).trans (hext.look.1 b0 _ hbw0).symm).trans hc0; have kc1w4 := ((hE4.look.1 b0 _ hbw0).trans (hext.look.1 b0 _ hbw0).symm).trans hc1
            clear hb4 o3
            go_wp2
            go_roundw
            case rel => exact ⟨i + 1, m + 2, A4, c4, true, L ++ [⟨k, y⟩] ++ [x], by omega, by omega, by go_num, rfl, rfl, hL2, o4, hs2, hE4⟩
            case measure => simp [intOf]; omega
        · have he1 : (x.key != k) = true := by simp; omega
          have hs2 : Hid ((L ++ [x]) ++ l2K CellD.key ⟨k, y⟩ false (l.drop (i + 1)) = l2K CellD.key ⟨k, y⟩ (!keep) l) := by
            show _ = _
            rw [← Hstep.out]
            have h1 : x.key ≠ k := by omega
            simp [hge, h1]
          have hge1 : decide (k ≤ x.key) = false := by simpa using hge
          have hlt2 : x.key < k := by omega
          go_wp2_with (at_builtin; refine wpList_app _ rfl _ _ 36 rfl 86 i0 _ 2 16 Try.underlying36 hi0 hz0 hz1 hz2 rfl (by omega) w.heap.size wr.heap.size (.slice A' m c') m _ rfl (((Ext.refl wr).alloc _).own hown (Nat.le_refl _)) (by simp; omega) (by simp) (wr.heap.size + 1) (some ⟨wr.heap.size, 0, none⟩) 1 1 (eCell x) rfl (own_made wr #[.int .i64 x.key, .int .i64 x.value] 1 86 2 (by unfold maxLen; omega) rfl).rd.2.2.2 (fun u hu => oneCell_Cell [x] u (by simpa using hu)) (by unfold maxLen; omega) (by omega) ?_)
          intro A3 c3 w3 o3 hb3
          have hE3 : Ext w w3 := (hext.alloc _).grown hb3 (fun g h => (hown.lt g h).1)
          have hL1 : Hid ((L ++ [x]).length = m + 1) := by show _ = _; rw [List.length_append, hLl.out]; rfl
          replace o3 : Own w3 w.heap.size w3.heap.size 86 2 (.slice A3 (m + 1) c3) (m + 1) ((L ++ [x]).flatMap eCell) := by rw [List.flatMap_append]; simpa using o3
          have hzzw3 := hE3.size
          have kc0w3 := ((hE3.look.1 b0 _ hbw0).trans (hext.look.1 b0 _ hbw0).symm).trans hc0; have kc1w3 := ((hE3.look.1 b0 _ hbw0).trans (hext.look.1 b0 _ hbw0).symm).trans hc1
          clear hb3 hown
          go_wp2
          go_roundw
          case rel => exact ⟨i + 1, m + 1, A3, c3, false, L ++ [x], by omega, by omega, by go_num, rfl, rfl, hL1, o3, hs2, hE3⟩
          case measure => simp [intOf]; omega
    · obtain rfl : i = n := by omega
      have hend := hgo.out
      rw [List.drop_of_length_le (by rw [Hl.out]; omega), l2K] at hend
      have Hend := Lib.hid hend
      clear hend hgo
      cases b with
      | true =>
        go_wp2
        go_ret
        rw [← Hend.out]
        simp only [if_true, List.append_nil]
        exact ⟨_, rfl, OwnS.of hown hLl.out, hext⟩
      | false =>
        go_wp2_with (at_builtin; refine wpList_app _ rfl _ _ 36 rfl 86 i0 _ 2 16 Try.underlying36 hi0 hz0 hz1 hz2 rfl (by omega) w.heap.size wr.heap.size (.slice A' m c') m _ rfl (((Ext.refl wr).alloc _).own hown (Nat.le_refl _)) (by simp; omega) (by simp) (wr.heap.size + 1) (some ⟨wr.heap.size, 0, none⟩) 1 1 (eCell (⟨k, y⟩ : CellD)) rfl (own_made wr #[.int .i64 k, .int .i64 y] 1 86 2 (by unfold maxLen; omega) rfl).rd.2.2.2 (fun u hu => oneCell_Cell [(⟨k, y⟩ : CellD)] u (by simpa using hu)) (by unfold maxLen; omega) (by omega) ?_)
        intro A3 c3 w3 o3 hb3
        have hE3 : Ext w w3 := (hext.alloc _).grown hb3 (fun g h => (hown.lt g h).1)
        have hL1 : Hid ((L ++ [(⟨k, y⟩ : CellD)]).length = m + 1) := by show _ = _; rw [List.length_append, hLl.out]; rfl
        replace o3 : Own w3 w.heap.size w3.heap.size 86 2 (.slice A3 (m + 1) c3) (m + 1) ((L ++ [(⟨k, y⟩ : CellD)]).flatMap eCell) := by rw [List.flatMap_append]; simpa using o3
        have hzzw3 := hE3.size
        skip
        clear hb3 hown
        go_wp2
        go_ret
        rw [← Hend.out]
        simp only [Bool.false_eq_true, if_false]
        exact ⟨_, rfl, OwnS.of o3 hL1.out, hE3⟩
end Go.Proofs.Ytbfbdhjeoknjkaa

/-
  run, RunCmd, walked.
-/
namespace Go.Proofs.Ytbfbdhjeoknjkaa
open Go.RowKit

theorem max_neg {a : Int} (h : a < 0) : max a 0 = 0 := by omega
theorem max_pos {a : Int} (h : ¬ a < 0) : max a 0 = a := by omega


end Go.Proofs.Ytbfbdhjeoknjkaa
