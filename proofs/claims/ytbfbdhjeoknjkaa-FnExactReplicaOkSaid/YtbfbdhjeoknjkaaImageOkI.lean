/-
  ImageOk of the program, walked.
-/
import Derived.Test.YtbfbdhjeoknjkaaImage
namespace Go.Proofs.Ytbfbdhjeoknjkaa
open Go.RowKit

set_option maxRecDepth 100000 in
set_option maxHeartbeats 4000000 in
theorem imageOk_i (v : Value) (m : ImageD) (w : World) (B : Nat) (h : R_Image w B v m) (hB : B ≤ w.heap.size) :
    Calls Try.prog 94 #[v] w fun e w' => e = .returned (.bool (imageOk m)) ∧ Ext w w' := by
  obtain ⟨u, s, rfl, hu, hs⟩ := h
  have hlu := hu.len
  have hls := hs.len
  obtain ⟨A, n, c, rfl, hl, hnc, hcm, hr⟩ := hu
  obtain ⟨A', n', c', rfl, hl', hnc', hcm', hr'⟩ := hs
  obtain ⟨cells, seats⟩ := m
  dsimp only at *
  have Hl := Lib.hid hl
  have Hl' := Lib.hid hl'
  rw [hl] at hlu
  rw [hl'] at hls
  clear hl hl' hcm hcm'
  go_enter Try.func94, Try.ntmps94
  go_wp2
  go_loopw [10] (fun iv wr => ∃ (k : Nat), k ≤ n ∧ iv = .int .i64 k ∧ Hid (∀ i, i < k → cellOkAt cells i = true) ∧ wr.cell? ⟨w.heap.size, 0, none⟩ = some (.slice A n c) ∧ wr.cell? ⟨w.heap.size, 1, none⟩ = some (.slice A' n' c') ∧ w.heap.size < wr.heap.size ∧ Ext w wr) (fun iv _ => n - (intOf iv).toNat)
  case atStart => exact ⟨0, by omega, rfl, fun i hi => absurd hi (by omega), by simp, by simp, by simp, by repeat' (first | with_reducible exact Ext.refl _ | with_reducible assumption | with_reducible refine Ext.set ?_ ?_ _ _ | with_reducible refine Ext.alloc ?_ _ | with_reducible refine Ext.drew ?_ | with_reducible refine Ext.drewN ?_ _ | with_reducible refine Ext.trans ?_ (by with_reducible assumption) | omega | (simp; done) | (simp; omega))⟩
  case round =>
    obtain ⟨k, hk, rfl, hok, hb0, hb1, hsz, hext⟩ := hrel
    by_cases hlt : k < n
    · obtain ⟨b, off, x, rfl, hb, hx, hc0, hc1⟩ := (hext.rd hr hB).Cell Hl.out hlt
      have hbw : b < wr.heap.size := by have := hext.size; omega
      have Heq := Lib.hid (cellOkAt_eq hx)
      have Hx := Lib.hid hx
      have hlt' : (k : Int) < (n : Int) := by omega
      clear hx
      cases h1 : wholeB x.key
      · have hres : Hid (imageOk ⟨cells, seats⟩ = false) := by
          show _ = _
          simp only [imageOk, cellsOk]
          rw [all_not (k := k) (by rw [Hl.out]; exact hlt) (by rw [Heq.out, h1]; rfl)]
          rfl
        clear hr hr'
        go_wp2
        go_quiet ((first | (go_at_call 78; exact quietL (isWhole_any _ _)) | (go_at_call 123; exact quietL (isReq_any _ _)) | (go_at_call 124; exact quietL (isAnswer_any _ _))))
        go_wp2
        go_ret
        exact ⟨by rw [hres.out]; rfl, by repeat' (first | with_reducible exact Ext.refl _ | with_reducible assumption | with_reducible refine Ext.set ?_ ?_ _ _ | with_reducible refine Ext.alloc ?_ _ | with_reducible refine Ext.drew ?_ | with_reducible refine Ext.drewN ?_ _ | with_reducible refine Ext.trans ?_ (by with_reducible assumption) | omega | (simp; done) | (simp; omega))⟩
      · cases h2 : wholeB x.value
        · have hres : Hid (imageOk ⟨cells, seats⟩ = false) := by
            show _ = _
            simp only [imageOk, cellsOk]
            rw [all_not (k := k) (by rw [Hl.out]; exact hlt) (by rw [Heq.out, h1, h2]; rfl)]
            rfl
          clear hr hr'
          go_wp2
          go_quiet ((first | (go_at_call 78; exact quietL (isWhole_any _ _)) | (go_at_call 123; exact quietL (isReq_any _ _)) | (go_at_call 124; exact quietL (isAnswer_any _ _))))
          go_wp2
          go_ret
          exact ⟨by rw [hres.out]; rfl, by repeat' (first | with_reducible exact Ext.refl _ | with_reducible assumption | with_reducible refine Ext.set ?_ ?_ _ _ | with_reducible refine Ext.alloc ?_ _ | with_reducible refine Ext.drew ?_ | with_reducible refine Ext.drewN ?_ _ | with_reducible refine Ext.trans ?_ (by with_reducible assumption) | omega | (simp; done) | (simp; omega))⟩
        · by_cases hk0 : k = 0
          · have hk1 : decide ((0 : Int) < (k : Int)) = false := by simp [hk0]
            have hk2 : decide (0 < k) = false := by simp [hk0]
            have Hk0 := Lib.hid hk0
            clear hk0
            have hok' : Hid (∀ i, i < k + 1 → cellOkAt cells i = true) := by
              intro i hi
              obtain rfl : i = k := by have := Hk0.out; omega
              rw [Heq.out, h1, h2, Hk0.out]
              rfl
            have hb0' : (wr.alloc (.cells #[.int .i64 x.key, .int .i64 x.value] 86)).cell? ⟨w.heap.size, 0, none⟩ = some (.slice (some ⟨b, off, none⟩) n c) := by rw [World.cell?_alloc_past _ _ _ hsz]; exact hb0
            have hb1' : (wr.alloc (.cells #[.int .i64 x.key, .int .i64 x.value] 86)).cell? ⟨w.heap.size, 1, none⟩ = some (.slice A' n' c') := by rw [World.cell?_alloc_past _ _ _ hsz]; exact hb1
            clear hr hr' hok
            go_wp2
            go_quiet ((first | (go_at_call 78; exact quietL (isWhole_any _ _)) | (go_at_call 123; exact quietL (isReq_any _ _)) | (go_at_call 124; exact quietL (isAnswer_any _ _))))
            go_wp2
            go_roundw
            case rel => exact ⟨k + 1, by omega, by go_num, hok', by simpa using hb0', by simpa using hb1', by simp; omega, by repeat' (first | with_reducible exact Ext.refl _ | with_reducible assumption | with_reducible refine Ext.set ?_ ?_ _ _ | with_reducible refine Ext.alloc ?_ _ | with_reducible refine Ext.drew ?_ | with_reducible refine Ext.drewN ?_ _ | with_reducible refine Ext.trans ?_ (by with_reducible assumption) | omega | (simp; done) | (simp; omega))⟩
            case measure => simp [intOf]; omega
          · obtain ⟨b2, off2, y, hA2, _, hy, hd0, hd1⟩ := (hext.rd hr hB).Cell Hl.out (k := k - 1) (by omega)
            injection hA2 with hA2
            injection hA2 with e1 e2
            subst e1 e2
            have hkp : (0 : Int) < (k : Int) := by omega
            have hkq : 0 < k := by omega
            have Hy := Lib.hid hy
            have hgd : cells.getD (k - 1) ⟨0, 0⟩ = y := by simp [List.getD_eq_getElem?_getD, hy]
            rw [hgd] at Heq
            clear hy hgd
            by_cases hge : x.key ≤ y.key
            · have hres : Hid (imageOk ⟨cells, seats⟩ = false) := by
                show _ = _
                simp only [imageOk, cellsOk]
                rw [all_not (k := k) (by rw [Hl.out]; exact hlt) (by rw [Heq.out, h1, h2]; simp; omega)]
                rfl
              clear hr hr'
              go_wp2
              go_quiet ((first | (go_at_call 78; exact quietL (isWhole_any _ _)) | (go_at_call 123; exact quietL (isReq_any _ _)) | (go_at_call 124; exact quietL (isAnswer_any _ _))))
              go_wp2
              go_ret
              exact ⟨by rw [hres.out]; rfl, by repeat' (first | with_reducible exact Ext.refl _ | with_reducible assumption | with_reducible refine Ext.set ?_ ?_ _ _ | with_reducible refine Ext.alloc ?_ _ | with_reducible refine Ext.drew ?_ | with_reducible refine Ext.drewN ?_ _ | with_reducible refine Ext.trans ?_ (by with_reducible assumption) | omega | (simp; done) | (simp; omega))⟩
            · have hok' : Hid (∀ i, i < k + 1 → cellOkAt cells i = true) := by
                intro i hi
                rcases Nat.lt_or_ge i k with h | h
                · exact hok.out i h
                · obtain rfl : i = k := by omega
                  rw [Heq.out, h1, h2]
                  simp
                  omega
              have hb0' : (wr.alloc (.cells #[.int .i64 x.key, .int .i64 x.value] 86)).cell? ⟨w.heap.size, 0, none⟩ = some (.slice (some ⟨b, off, none⟩) n c) := by rw [World.cell?_alloc_past _ _ _ hsz]; exact hb0
              have hb1' : (wr.alloc (.cells #[.int .i64 x.key, .int .i64 x.value] 86)).cell? ⟨w.heap.size, 1, none⟩ = some (.slice A' n' c') := by rw [World.cell?_alloc_past _ _ _ hsz]; exact hb1
              have hlt2 : y.key < x.key := by omega
              clear hr hr' hok
              go_wp2
              go_quiet ((first | (go_at_call 78; exact quietL (isWhole_any _ _)) | (go_at_call 123; exact quietL (isReq_any _ _)) | (go_at_call 124; exact quietL (isAnswer_any _ _))))
              go_wp2
              go_roundw
              case rel => exact ⟨k + 1, by omega, by go_num, hok', by simpa using hb0', by simpa using hb1', by simp; omega, by repeat' (first | with_reducible exact Ext.refl _ | with_reducible assumption | with_reducible refine Ext.set ?_ ?_ _ _ | with_reducible refine Ext.alloc ?_ _ | with_reducible refine Ext.drew ?_ | with_reducible refine Ext.drewN ?_ _ | with_reducible refine Ext.trans ?_ (by with_reducible assumption) | omega | (simp; done) | (simp; omega))⟩
              case measure => simp [intOf]; omega
    · obtain rfl : n = k := by omega
      have hcok : Hid (cellsOk cells = true) := by
        show _ = _
        exact all_lt hok.out (by rw [Hl.out]; exact Nat.le_refl _)
      clear hok
      go_wp2
      go_loopw [45] (fun iv wr => ∃ (k : Nat), k ≤ n' ∧ iv = .int .i64 k ∧ Hid (∀ i, i < k → seatOkAt seats i = true) ∧ wr.cell? ⟨w.heap.size, 0, none⟩ = some (.slice A n c) ∧ wr.cell? ⟨w.heap.size, 1, none⟩ = some (.slice A' n' c') ∧ w.heap.size < wr.heap.size ∧ Ext w wr) (fun iv _ => n' - (intOf iv).toNat)
      case atStart => exact ⟨0, by omega, rfl, fun i hi => absurd hi (by omega), hb0, hb1, hsz, hext⟩
      case round =>
        obtain ⟨k, hk, rfl, hok, hb0, hb1, hsz, hext⟩ := hrel
        by_cases hlt : k < n'
        · obtain ⟨b, off, x, rfl, hb, hx, hc0, hc1, hc2⟩ := (hext.rd hr' hB).Seat Hl'.out hlt
          have hbw : b < wr.heap.size := by have := hext.size; omega
          have Heq := Lib.hid (seatOkAt_eq hx)
          have Hx := Lib.hid hx
          have hlt' : (k : Int) < (n' : Int) := by omega
          clear hx
          cases h1 : wholeB x.client
          · have hres : Hid (imageOk ⟨cells, seats⟩ = false) := by
              show _ = _
              simp only [imageOk, seatsOk]
              rw [hcok.out]
              rw [all_not (k := k) (by rw [Hl'.out]; exact hlt) (by rw [Heq.out, h1]; rfl)]
              simp
            clear hr'
            go_wp2
            go_quiet ((first | (go_at_call 78; exact quietL (isWhole_any _ _)) | (go_at_call 123; exact quietL (isReq_any _ _)) | (go_at_call 124; exact quietL (isAnswer_any _ _))))
            go_wp2
            go_ret
            exact ⟨by rw [hres.out]; rfl, by repeat' (first | with_reducible exact Ext.refl _ | with_reducible assumption | with_reducible refine Ext.set ?_ ?_ _ _ | with_reducible refine Ext.alloc ?_ _ | with_reducible refine Ext.drew ?_ | with_reducible refine Ext.drewN ?_ _ | with_reducible refine Ext.trans ?_ (by with_reducible assumption) | omega | (simp; done) | (simp; omega))⟩
          · cases h2 : inB x.req 1 1000000000
            · have hres : Hid (imageOk ⟨cells, seats⟩ = false) := by
                show _ = _
                simp only [imageOk, seatsOk]
                rw [hcok.out]
                rw [all_not (k := k) (by rw [Hl'.out]; exact hlt) (by rw [Heq.out, h1, h2]; rfl)]
                simp
              clear hr'
              go_wp2
              go_quiet ((first | (go_at_call 78; exact quietL (isWhole_any _ _)) | (go_at_call 123; exact quietL (isReq_any _ _)) | (go_at_call 124; exact quietL (isAnswer_any _ _))))
              go_wp2
              go_ret
              exact ⟨by rw [hres.out]; rfl, by repeat' (first | with_reducible exact Ext.refl _ | with_reducible assumption | with_reducible refine Ext.set ?_ ?_ _ _ | with_reducible refine Ext.alloc ?_ _ | with_reducible refine Ext.drew ?_ | with_reducible refine Ext.drewN ?_ _ | with_reducible refine Ext.trans ?_ (by with_reducible assumption) | omega | (simp; done) | (simp; omega))⟩
            · cases h3 : inB x.answer (-1) 1000000000
              · have hres : Hid (imageOk ⟨cells, seats⟩ = false) := by
                  show _ = _
                  simp only [imageOk, seatsOk]
                  rw [hcok.out]
                  rw [all_not (k := k) (by rw [Hl'.out]; exact hlt) (by rw [Heq.out, h1, h2, h3]; rfl)]
                  simp
                clear hr'
                go_wp2
                go_quiet ((first | (go_at_call 78; exact quietL (isWhole_any _ _)) | (go_at_call 123; exact quietL (isReq_any _ _)) | (go_at_call 124; exact quietL (isAnswer_any _ _))))
                go_wp2
                go_ret
                exact ⟨by rw [hres.out]; rfl, by repeat' (first | with_reducible exact Ext.refl _ | with_reducible assumption | with_reducible refine Ext.set ?_ ?_ _ _ | with_reducible refine Ext.alloc ?_ _ | with_reducible refine Ext.drew ?_ | with_reducible refine Ext.drewN ?_ _ | with_reducible refine Ext.trans ?_ (by with_reducible assumption) | omega | (simp; done) | (simp; omega))⟩
              · by_cases hk0 : k = 0
                · have hk1 : decide ((0 : Int) < (k : Int)) = false := by simp [hk0]
                  have hk2 : decide (0 < k) = false := by simp [hk0]
                  have Hk0 := Lib.hid hk0
                  clear hk0
                  have hok' : Hid (∀ i, i < k + 1 → seatOkAt seats i = true) := by
                    intro i hi
                    obtain rfl : i = k := by have := Hk0.out; omega
                    rw [Heq.out, h1, h2, h3, Hk0.out]
                    rfl
                  have hb0' : (wr.alloc (.cells #[.int .i64 x.client, .int .i64 x.req, .int .i64 x.answer] 88)).cell? ⟨w.heap.size, 0, none⟩ = some (.slice A n c) := by rw [World.cell?_alloc_past _ _ _ hsz]; exact hb0
                  have hb1' : (wr.alloc (.cells #[.int .i64 x.client, .int .i64 x.req, .int .i64 x.answer] 88)).cell? ⟨w.heap.size, 1, none⟩ = some (.slice (some ⟨b, off, none⟩) n' c') := by rw [World.cell?_alloc_past _ _ _ hsz]; exact hb1
                  clear hr' hok
                  go_wp2
                  go_quiet ((first | (go_at_call 78; exact quietL (isWhole_any _ _)) | (go_at_call 123; exact quietL (isReq_any _ _)) | (go_at_call 124; exact quietL (isAnswer_any _ _))))
                  go_wp2
                  go_roundw
                  case rel => exact ⟨k + 1, by omega, by go_num, hok', by simpa using hb0', by simpa using hb1', by simp; omega, by repeat' (first | with_reducible exact Ext.refl _ | with_reducible assumption | with_reducible refine Ext.set ?_ ?_ _ _ | with_reducible refine Ext.alloc ?_ _ | with_reducible refine Ext.drew ?_ | with_reducible refine Ext.drewN ?_ _ | with_reducible refine Ext.trans ?_ (by with_reducible assumption) | omega | (simp; done) | (simp; omega))⟩
                  case measure => simp [intOf]; omega
                · obtain ⟨b2, off2, y, hA2, _, hy, hd0, hd1, hd2⟩ := (hext.rd hr' hB).Seat Hl'.out (k := k - 1) (by omega)
                  injection hA2 with hA2
                  injection hA2 with e1 e2
                  subst e1 e2
                  have hkp : (0 : Int) < (k : Int) := by omega
                  have hkq : 0 < k := by omega
                  have Hy := Lib.hid hy
                  have hgd : seats.getD (k - 1) ⟨0, 0, 0⟩ = y := by simp [List.getD_eq_getElem?_getD, hy]
                  rw [hgd] at Heq
                  clear hy hgd
                  by_cases hge : x.client ≤ y.client
                  · have hres : Hid (imageOk ⟨cells, seats⟩ = false) := by
                      show _ = _
                      simp only [imageOk, seatsOk]
                      rw [hcok.out]
                      rw [all_not (k := k) (by rw [Hl'.out]; exact hlt) (by rw [Heq.out, h1, h2, h3]; simp; omega)]
                      simp
                    clear hr'
                    go_wp2
                    go_quiet ((first | (go_at_call 78; exact quietL (isWhole_any _ _)) | (go_at_call 123; exact quietL (isReq_any _ _)) | (go_at_call 124; exact quietL (isAnswer_any _ _))))
                    go_wp2
                    go_ret
                    exact ⟨by rw [hres.out]; rfl, by repeat' (first | with_reducible exact Ext.refl _ | with_reducible assumption | with_reducible refine Ext.set ?_ ?_ _ _ | with_reducible refine Ext.alloc ?_ _ | with_reducible refine Ext.drew ?_ | with_reducible refine Ext.drewN ?_ _ | with_reducible refine Ext.trans ?_ (by with_reducible assumption) | omega | (simp; done) | (simp; omega))⟩
                  · have hok' : Hid (∀ i, i < k + 1 → seatOkAt seats i = true) := by
                      intro i hi
                      rcases Nat.lt_or_ge i k with h | h
                      · exact hok.out i h
                      · obtain rfl : i = k := by omega
                        rw [Heq.out, h1, h2, h3]
                        simp
                        omega
                    have hb0' : (wr.alloc (.cells #[.int .i64 x.client, .int .i64 x.req, .int .i64 x.answer] 88)).cell? ⟨w.heap.size, 0, none⟩ = some (.slice A n c) := by rw [World.cell?_alloc_past _ _ _ hsz]; exact hb0
                    have hb1' : (wr.alloc (.cells #[.int .i64 x.client, .int .i64 x.req, .int .i64 x.answer] 88)).cell? ⟨w.heap.size, 1, none⟩ = some (.slice (some ⟨b, off, none⟩) n' c') := by rw [World.cell?_alloc_past _ _ _ hsz]; exact hb1
                    have hlt2 : y.client < x.client := by omega
                    clear hr' hok
                    go_wp2
                    go_quiet ((first | (go_at_call 78; exact quietL (isWhole_any _ _)) | (go_at_call 123; exact quietL (isReq_any _ _)) | (go_at_call 124; exact quietL (isAnswer_any _ _))))
                    go_wp2
                    go_roundw
                    case rel => exact ⟨k + 1, by omega, by go_num, hok', by simpa using hb0', by simpa using hb1', by simp; omega, by repeat' (first | with_reducible exact Ext.refl _ | with_reducible assumption | with_reducible refine Ext.set ?_ ?_ _ _ | with_reducible refine Ext.alloc ?_ _ | with_reducible refine Ext.drew ?_ | with_reducible refine Ext.drewN ?_ _ | with_reducible refine Ext.trans ?_ (by with_reducible assumption) | omega | (simp; done) | (simp; omega))⟩
                    case measure => simp [intOf]; omega
        · obtain rfl : n' = k := by omega
          have hsok : Hid (seatsOk seats = true) := by
            show _ = _
            exact all_lt hok.out (by rw [Hl'.out]; exact Nat.le_refl _)
          clear hok
          have hres : Hid (imageOk ⟨cells, seats⟩ = (decide (n ≤ 40) && decide (n' ≤ 10))) := by
            show _ = _
            simp only [imageOk]
            rw [hcok.out, hsok.out, Hl.out, Hl'.out]
            rfl
          by_cases h40 : n ≤ 40
          · by_cases h10 : n' ≤ 10
            · rw [decide_eq_true h40, decide_eq_true h10] at hres
              go_wp2
              go_ret
              exact ⟨by rw [hres.out]; exact ret_bool (by simp; omega), by repeat' (first | with_reducible exact Ext.refl _ | with_reducible assumption | with_reducible refine Ext.set ?_ ?_ _ _ | with_reducible refine Ext.alloc ?_ _ | with_reducible refine Ext.drew ?_ | with_reducible refine Ext.drewN ?_ _ | with_reducible refine Ext.trans ?_ (by with_reducible assumption) | omega | (simp; done) | (simp; omega))⟩
            · rw [decide_eq_true h40, decide_eq_false h10] at hres
              go_wp2
              go_ret
              exact ⟨by rw [hres.out]; exact ret_bool (by simp; omega), by repeat' (first | with_reducible exact Ext.refl _ | with_reducible assumption | with_reducible refine Ext.set ?_ ?_ _ _ | with_reducible refine Ext.alloc ?_ _ | with_reducible refine Ext.drew ?_ | with_reducible refine Ext.drewN ?_ _ | with_reducible refine Ext.trans ?_ (by with_reducible assumption) | omega | (simp; done) | (simp; omega))⟩
          · rw [decide_eq_false h40] at hres
            go_wp2
            go_ret
            exact ⟨by rw [hres.out]; rfl, by repeat' (first | with_reducible exact Ext.refl _ | with_reducible assumption | with_reducible refine Ext.set ?_ ?_ _ _ | with_reducible refine Ext.alloc ?_ _ | with_reducible refine Ext.drew ?_ | with_reducible refine Ext.drewN ?_ _ | with_reducible refine Ext.trans ?_ (by with_reducible assumption) | omega | (simp; done) | (simp; omega))⟩
end Go.Proofs.Ytbfbdhjeoknjkaa
