/-
  Texts of this seat, merged: RunAllB, LogImg.
-/
import Derived.Test.YtbfbdhjeoknjkaaRunAll
import Derived.Test.YtbfbdhjeoknjkaaLogNum
import Derived.Deep.DeepCutAuto
import Derived.Deep.RegionHeld3
/-
  RunAll over an image and a list that lie apart.
-/
namespace Go.Proofs.Ytbfbdhjeoknjkaa
end Go.Proofs.Ytbfbdhjeoknjkaa

/-
  image, LogImage, walked.
-/
namespace Go.Proofs.Ytbfbdhjeoknjkaa
open Go.RowKit

def logImage (l : LogD) (n : Int) : ImageD × Bool := if hasNum l n then ((runAll l.image (l.entries.take (n - l.base).toNat)).1, true) else (⟨[], []⟩, false)
theorem logImage_no {l : LogD} {n : Int} (h : hasNum l n = false) : logImage l n = (⟨[], []⟩, false) := by simp [logImage, h]
theorem logImage_in {l : LogD} {k : Nat} (h : hasNum l (l.base + k) = true) : logImage l (l.base + k) = ((runAll l.image (l.entries.take k)).1, true) := by
  unfold logImage
  rw [if_pos h, show (l.base + (k : Int) - l.base).toNat = k by omega]
theorem GoodL.sz50 {l : LogD} (h : GoodL l) : szI l.image ≤ 50 := by
  have hi := h.image
  unfold imageOk at hi
  simp only [Bool.and_eq_true, decide_eq_true_eq] at hi
  unfold szI
  omega
theorem logImage_nk (l : LogD) (n : Int) : NK_Image (logImage l n).1 ≤ 4194304 := by
  cases h : hasNum l n with
  | false => rw [logImage_no h]; simp [NK_Image, NK_CellS, NK_SeatS]
  | true =>
    obtain ⟨hg, k, rfl, hk⟩ := hasNum_parts h
    rw [logImage_in h]
    have := runAll_szI l.image (l.entries.take k) 50 hg.sz50 (Nat.le_refl _)
    unfold szI at this
    unfold NK_Image NK_CellS NK_SeatS
    dsimp only
    omega



set_option maxRecDepth 100000 in
set_option maxHeartbeats 8000000 in
theorem logImage_s (v : Value) (l : LogD) (n : Int) (w : World) (B : Nat) (hr : R_Log w B v l) (hB : B ≤ w.heap.size) (hn : -9223372036854775808 ≤ n ∧ n ≤ 9223372036854775807) :
    Calls Try.prog 135 #[v, .int .i64 n] w fun e w' => ∃ v', e = .returned (.tuple #[v', .bool (logImage l n).2]) ∧ O_Image w' w.heap.size w'.heap.size v' (logImage l n).1 ∧ Ext w w' := by
  have hr0 := hr
  obtain ⟨u, s, t, rfl, hu, hs, ht⟩ := hr
  obtain ⟨A0, n0, c0, hv0, -⟩ := id hu
  obtain ⟨A1, n1, c1, hv1, -⟩ := id hs
  obtain ⟨A2, n2, c2, hv2, hl2, hnc2, hcm2, hrd⟩ := ht
  subst hv0 hv1 hv2
  have Hl2 := Lib.hid hl2
  clear hl2 hu hs
  have hX0 : Ext w ((w.alloc (.cells #[.int .i64 l.base, .slice A0 n0 c0, .slice A1 n1 c1, .slice A2 n2 c2] 42)).alloc (.cells #[.slice none 0 0, .slice none 0 0] 39)) := by repeat' (first | with_reducible exact Ext.refl _ | with_reducible assumption | with_reducible refine Ext.set ?_ ?_ _ _ | with_reducible refine Ext.alloc ?_ _ | with_reducible refine Ext.drew ?_ | with_reducible refine Ext.drewN ?_ _ | with_reducible refine Ext.trans ?_ (by with_reducible assumption) | omega | (simp; done) | (simp; omega))
  have x00 : Bx ((w.alloc (.cells #[.int .i64 l.base, .slice A0 n0 c0, .slice A1 n1 c1, .slice A2 n2 c2] 42)).alloc (.cells #[.slice none 0 0, .slice none 0 0] 39)) w.heap.size 0 (.int .i64 l.base) := ((Bx.new w #[.int .i64 l.base, .slice A0 n0 c0, .slice A1 n1 c1, .slice A2 n2 c2] 42 0 (.int .i64 l.base) rfl rfl).alloc _)
  have x01 : Bx ((w.alloc (.cells #[.int .i64 l.base, .slice A0 n0 c0, .slice A1 n1 c1, .slice A2 n2 c2] 42)).alloc (.cells #[.slice none 0 0, .slice none 0 0] 39)) w.heap.size 1 (.slice A0 n0 c0) := ((Bx.new w #[.int .i64 l.base, .slice A0 n0 c0, .slice A1 n1 c1, .slice A2 n2 c2] 42 1 (.slice A0 n0 c0) rfl rfl).alloc _)
  have x02 : Bx ((w.alloc (.cells #[.int .i64 l.base, .slice A0 n0 c0, .slice A1 n1 c1, .slice A2 n2 c2] 42)).alloc (.cells #[.slice none 0 0, .slice none 0 0] 39)) w.heap.size 2 (.slice A1 n1 c1) := ((Bx.new w #[.int .i64 l.base, .slice A0 n0 c0, .slice A1 n1 c1, .slice A2 n2 c2] 42 2 (.slice A1 n1 c1) rfl rfl).alloc _)
  have x03 : Bx ((w.alloc (.cells #[.int .i64 l.base, .slice A0 n0 c0, .slice A1 n1 c1, .slice A2 n2 c2] 42)).alloc (.cells #[.slice none 0 0, .slice none 0 0] 39)) w.heap.size 3 (.slice A2 n2 c2) := ((Bx.new w #[.int .i64 l.base, .slice A0 n0 c0, .slice A1 n1 c1, .slice A2 n2 c2] 42 3 (.slice A2 n2 c2) rfl rfl).alloc _)
  have y0 : Bx ((w.alloc (.cells #[.int .i64 l.base, .slice A0 n0 c0, .slice A1 n1 c1, .slice A2 n2 c2] 42)).alloc (.cells #[.slice none 0 0, .slice none 0 0] 39)) (w.heap.size + 1) 0 (.slice none 0 0) := Bx.new (w.alloc (.cells #[.int .i64 l.base, .slice A0 n0 c0, .slice A1 n1 c1, .slice A2 n2 c2] 42)) #[.slice none 0 0, .slice none 0 0] 39 0 (.slice none 0 0) (by simp) rfl
  have y1 : Bx ((w.alloc (.cells #[.int .i64 l.base, .slice A0 n0 c0, .slice A1 n1 c1, .slice A2 n2 c2] 42)).alloc (.cells #[.slice none 0 0, .slice none 0 0] 39)) (w.heap.size + 1) 1 (.slice none 0 0) := Bx.new (w.alloc (.cells #[.int .i64 l.base, .slice A0 n0 c0, .slice A1 n1 c1, .slice A2 n2 c2] 42)) #[.slice none 0 0, .slice none 0 0] 39 1 (.slice none 0 0) (by simp) rfl
  have zz0 : ((w.alloc (.cells #[.int .i64 l.base, .slice A0 n0 c0, .slice A1 n1 c1, .slice A2 n2 c2] 42)).alloc (.cells #[.slice none 0 0, .slice none 0 0] 39)).heap.size = w.heap.size + 2 := by simp
  obtain ⟨ok, hok⟩ : ∃ ok, hasNum l n = ok := ⟨_, rfl⟩
  have Hok := Lib.hid hok
  clear hok
  go_enter Try.func135, Try.ntmps135
  go_wp2_with fail
  generalize ((w.alloc (.cells #[.int .i64 l.base, .slice A0 n0 c0, .slice A1 n1 c1, .slice A2 n2 c2] 42)).alloc (.cells #[.slice none 0 0, .slice none 0 0] 39)) = W0 at *
  refine (hasNumber_s _ l n _ B (by exact hr0.keep (keepE' hX0 hB)) (by omega)).mono ?_
  rw [Hok.out]
  rintro e w1 ⟨rfl, hE1⟩
  have hz1 := hE1.size
  have hX1 : Ext w w1 := hX0.trans hE1
  replace x00 := Bx.ext x00 hE1
  replace x01 := Bx.ext x01 hE1
  replace x02 := Bx.ext x02 hE1
  replace x03 := Bx.ext x03 hE1
  replace y0 := Bx.ext y0 hE1
  replace y1 := Bx.ext y1 hE1
  obtain ⟨p00, f00⟩ := id x00
  obtain ⟨p01, f01⟩ := id x01
  obtain ⟨p02, f02⟩ := id x02
  obtain ⟨p03, f03⟩ := id x03
  obtain ⟨r0, g0⟩ := id y0
  obtain ⟨r1, g1⟩ := id y1
  cases ok with
  | false =>
    have hf := Lib.hid (logImage_no Hok.out)
    go_wp2
    rw [hf.out]
    exact bodyPost_ret (v := .tuple #[.agg #[.slice none 0 0, .slice none 0 0], .bool false]) (by simp [results, Try.results135, go_sem, r0, r1]) rfl ⟨_, rfl, ⟨_, _, rfl, OwnS.nil _, OwnS.nil _⟩, by repeat' (first | with_reducible exact Ext.refl _ | with_reducible assumption | with_reducible refine Ext.set ?_ ?_ _ _ | with_reducible refine Ext.alloc ?_ _ | with_reducible refine Ext.drew ?_ | with_reducible refine Ext.drewN ?_ _ | with_reducible refine Ext.trans ?_ (by with_reducible assumption) | omega | (simp; done) | (simp; omega))⟩
  | true =>
    obtain ⟨hg, k, hk', hk⟩ := hasNum_parts Hok.out
    subst hk'
    have hf := Lib.hid (logImage_in Hok.out)
    have hRI0 : R_Image w B (.agg #[.slice A0 n0 c0, .slice A1 n1 c1]) l.image := hr0.image.1
    have hRE0 : R_EntryS w B (.slice A2 k c2) (l.entries.take k) := by
      have h := hrd.take (m := k) (by rw [← Hl2.out]; exact hk)
      rw [flat_take eEntry_len] at h
      exact RdS.of h (by rw [List.length_take]; omega) (by have := Hl2.out; omega) hcm2
    have hkl : k ≤ n2 := by rw [← Hl2.out]; exact hk
    have h1 := hg.base
    have h2 := hg.many
    have h3 := hg.last
    rw [Hl2.out] at h2 h3
    have hszI : szI l.image ≤ 2097152 := Nat.le_trans hg.sz50 (by omega)
    have hszE : (l.entries.take k).length ≤ 2097152 := by rw [List.length_take]; have := Hl2.out; omega
    have hke : l.base + (k : Int) - l.base = k := by omega
    have hwk : IntKind.i64.wrap (l.base + (k : Int) - l.base) = k := by rw [hke]; exact IntWalk.i64_in _ (by omega)
    have hwk2 : IntKind.i64.wrap (k : Int) = k := IntWalk.i64_in _ (by omega)
    have hkl2 : (k : Int) ≤ (n2 : Int) := by omega
    have hkc : k ≤ c2 := by omega
    have hkc2 : (k : Int) ≤ (c2 : Int) := by omega
    have hk0 : (0 : Int) ≤ (k : Int) := by omega
    clear hg
    have hRI := hRI0.keep (keepE' hX1 hB)
    have hRE := hRE0.keep (keepE' hX1 hB)
    have hBW : B ≤ w1.heap.size := by omega
    clear hE1
    go_upto_region 3 with (fail)
    go_cut [6, 7] (fun s5 s6 wx => ∃ (u_ : Value) (g_ : Nat) (A_ : Option Addr) (n_ c_ : Nat) (B_ : Option Addr) (m_ d_ : Nat), s5 = .pointer (some ⟨g_, 0, none⟩) ∧ s6 = u_ ∧ Ext w1 wx ∧ w1.heap.size ≤ g_ ∧ g_ < wx.heap.size ∧ wx.cell? ⟨g_, 0, none⟩ = some (.slice A_ n_ c_) ∧ wx.cell? ⟨g_, 1, none⟩ = some (.slice B_ m_ d_) ∧ O_CellS wx w1.heap.size wx.heap.size (.slice A_ n_ c_) (runAll l.image (l.entries.take k)).1.cells ∧ O_SeatS wx w1.heap.size wx.heap.size (.slice B_ m_ d_) (runAll l.image (l.entries.take k)).1.seats)
    case first =>
      go_region_held3 (fun w' => w'.cell? ⟨w.heap.size, 0, none⟩ = some (.int .i64 l.base) ∧ w'.cell? ⟨w.heap.size, 1, none⟩ = some (.slice A0 n0 c0) ∧ w'.cell? ⟨w.heap.size, 2, none⟩ = some (.slice A1 n1 c1) ∧ w'.cell? ⟨w.heap.size, 3, none⟩ = some (.slice A2 n2 c2)) (first | exact ⟨by rw [cell_set_ne _ _ _ _ _ _ (by omega), cell_set_ne _ _ _ _ _ _ (by omega)]; exact p00, by rw [cell_set_ne _ _ _ _ _ _ (by omega), cell_set_ne _ _ _ _ _ _ (by omega)]; exact p01, by rw [cell_set_ne _ _ _ _ _ _ (by omega), cell_set_ne _ _ _ _ _ _ (by omega)]; exact p02, by rw [cell_set_ne _ _ _ _ _ _ (by omega), cell_set_ne _ _ _ _ _ _ (by omega)]; exact p03⟩ | exact ⟨p00, p01, p02, p03⟩ | exact ⟨Ext.cellAt ((Ext.refl _).alloc _) p00, Ext.cellAt ((Ext.refl _).alloc _) p01, Ext.cellAt ((Ext.refl _).alloc _) p02, Ext.cellAt ((Ext.refl _).alloc _) p03⟩)
        (first
          | (go_at_call 136; refine (runAll_s _ _ l.image (l.entries.take k) _ B (by exact hRI.keep (keepE' (by first | exact Ext.refl _ | exact (Ext.refl _).drew | exact (Ext.refl _).drewN _ | exact (Ext.refl _).alloc _ | exact ((Ext.refl _).alloc _).drew) hBW)) (by exact hRE.keep (keepE' (by first | exact Ext.refl _ | exact (Ext.refl _).drew | exact (Ext.refl _).drewN _ | exact (Ext.refl _).alloc _ | exact ((Ext.refl _).alloc _).drew) hBW)) (by first | omega | (simp; done) | (simp; omega)) hszI hszE).mono ?_; rintro e w3 ⟨v3, a3, rfl, o3, -, hE3⟩; have hk3 : Ext w1 w3 := (by first | exact (Ext.refl _).trans hE3 | exact ((Ext.refl _).drew).trans hE3 | exact ((Ext.refl _).drewN _).trans hE3 | exact ((Ext.refl _).alloc _).trans hE3 | exact (((Ext.refl _).alloc _).drew).trans hE3); (first | have bx0 := Bx.ext (Bx.new w1 #[.slice none 0 0, .slice none 0 0] 39 0 (.slice none 0 0) rfl rfl) hE3 | have bx0 := Bx.ext (Bx.drew (Bx.new w1 #[.slice none 0 0, .slice none 0 0] 39 0 (.slice none 0 0) rfl rfl)) hE3 | skip); (first | have bx1 := Bx.ext (Bx.new w1 #[.slice none 0 0, .slice none 0 0] 39 1 (.slice none 0 0) rfl rfl) hE3 | have bx1 := Bx.ext (Bx.drew (Bx.new w1 #[.slice none 0 0, .slice none 0 0] 39 1 (.slice none 0 0) rfl rfl)) hE3 | skip); (first | (have bxp0 := bx0.1; have bxf0 := bx0.2; have bxp1 := bx1.1; have bxf1 := bx1.2; have bxlt := Bx.lt bx0) | skip); have z3 := hk3.size; replace p00 := hk3.cellAt p00; replace p01 := hk3.cellAt p01; replace p02 := hk3.cellAt p02; replace p03 := hk3.cellAt p03; have hB3 := hX1.trans hk3; clear hE3; obtain ⟨u4, s4, hv4, j1, j2⟩ := o3; obtain ⟨A5, n5, c5, hv5, -⟩ := id j1; obtain ⟨A6, n6, c6, hv6, -⟩ := id j2; subst hv5 hv6; subst hv4))
      all_goals
        go_wp2_with fail
        go_meet
        exact ⟨_, _, A5, n5, c5, A6, n6, c6, by first | rfl | (simp; done), by first | rfl | (simp; done), by repeat' (first | with_reducible exact Ext.refl _ | with_reducible assumption | with_reducible refine Ext.set ?_ ?_ _ _ | with_reducible refine Ext.alloc ?_ _ | with_reducible refine Ext.drew ?_ | with_reducible refine Ext.drewN ?_ _ | with_reducible refine Ext.trans ?_ (by with_reducible assumption) | omega | (simp; done) | (simp; omega)), by first | omega | (simp; omega), by first | omega | (simp; done) | (simp; omega), by first | exact new_box _ _ #[.slice A5 n5 c5, .slice A6 n6 c6] _ 0 _ (by simp) rfl | exact (Bx.off (Bx.same bx0 _) (by omega) _).1, by first | exact new_box _ _ #[.slice A5 n5 c5, .slice A6 n6 c6] _ 1 _ (by simp) rfl | exact (Bx.same (Bx.off bx1 (by omega) _) _).1, by first | exact (O_CellS.keep j1 (show Kp _ _ _ _ by repeat' (first | with_reducible exact Kp.refl _ _ _ | with_reducible assumption | with_reducible refine Kp.set ?_ ?_ _ _ | with_reducible refine Kp.alloc ?_ ?_ _ | with_reducible refine Kp.drew ?_ | with_reducible refine Kp.drewN ?_ _ | with_reducible refine Kp.ext ?_ ?_ (by with_reducible assumption) | with_reducible refine Kp.fr ?_ ?_ ?_ (by with_reducible assumption) | omega | (simp; done) | (simp; omega)))).wide (by first | omega | (simp; done) | (simp; omega)) (by first | omega | (simp; done) | (simp; omega)), by first | exact (O_SeatS.keep j2 (show Kp _ _ _ _ by repeat' (first | with_reducible exact Kp.refl _ _ _ | with_reducible assumption | with_reducible refine Kp.set ?_ ?_ _ _ | with_reducible refine Kp.alloc ?_ ?_ _ | with_reducible refine Kp.drew ?_ | with_reducible refine Kp.drewN ?_ _ | with_reducible refine Kp.ext ?_ ?_ (by with_reducible assumption) | with_reducible refine Kp.fr ?_ ?_ ?_ (by with_reducible assumption) | omega | (simp; done) | (simp; omega)))).wide (by first | omega | (simp; done) | (simp; omega)) (by first | omega | (simp; done) | (simp; omega))⟩
    obtain ⟨ua, gn, A5, n5, c5, A6, n6, c6, rfl, rfl, hA5, hg5, hg6, q0, q1, j1, j2⟩ := hcut
    rename World => W5
    have hz5 := hA5.size
    clear p00 f00 p01 f01 p02 f02 p03 f03 r0 g0 r1 g1
    replace x00 := Bx.ext x00 hA5
    replace x01 := Bx.ext x01 hA5
    replace x02 := Bx.ext x02 hA5
    replace x03 := Bx.ext x03 hA5
    replace y0 := Bx.ext y0 hA5
    replace y1 := Bx.ext y1 hA5
    obtain ⟨p00, f00⟩ := id x00
    obtain ⟨p01, f01⟩ := id x01
    obtain ⟨p02, f02⟩ := id x02
    obtain ⟨p03, f03⟩ := id x03
    obtain ⟨r0, g0⟩ := id y0
    obtain ⟨r1, g1⟩ := id y1
    have hX5 := hX1.trans hA5
    have hlty := Bx.lt y0
    clear hA5
    go_wp2
    rw [hf.out]
    exact bodyPost_ret (v := .tuple #[.agg #[.slice A5 n5 c5, .slice A6 n6 c6], .bool true]) (by simp [results, Try.results135, go_sem, r0, r1]) rfl ⟨_, rfl, ⟨_, _, rfl, (O_CellS.keep j1 (show Kp _ _ _ _ by repeat' (first | with_reducible exact Kp.refl _ _ _ | with_reducible assumption | with_reducible refine Kp.set ?_ ?_ _ _ | with_reducible refine Kp.alloc ?_ ?_ _ | with_reducible refine Kp.drew ?_ | with_reducible refine Kp.drewN ?_ _ | with_reducible refine Kp.ext ?_ ?_ (by with_reducible assumption) | with_reducible refine Kp.fr ?_ ?_ ?_ (by with_reducible assumption) | omega | (simp; done) | (simp; omega)))).wide (by omega) (by first | (simp; done) | (simp; omega)), (O_SeatS.keep j2 (show Kp _ _ _ _ by repeat' (first | with_reducible exact Kp.refl _ _ _ | with_reducible assumption | with_reducible refine Kp.set ?_ ?_ _ _ | with_reducible refine Kp.alloc ?_ ?_ _ | with_reducible refine Kp.drew ?_ | with_reducible refine Kp.drewN ?_ _ | with_reducible refine Kp.ext ?_ ?_ (by with_reducible assumption) | with_reducible refine Kp.fr ?_ ?_ ?_ (by with_reducible assumption) | omega | (simp; done) | (simp; omega)))).wide (by omega) (by first | (simp; done) | (simp; omega))⟩, by repeat' (first | with_reducible exact Ext.refl _ | with_reducible assumption | with_reducible refine Ext.set ?_ ?_ _ _ | with_reducible refine Ext.alloc ?_ _ | with_reducible refine Ext.drew ?_ | with_reducible refine Ext.drewN ?_ _ | with_reducible refine Ext.trans ?_ (by with_reducible assumption) | omega | (simp; done) | (simp; omega))⟩

end Go.Proofs.Ytbfbdhjeoknjkaa
