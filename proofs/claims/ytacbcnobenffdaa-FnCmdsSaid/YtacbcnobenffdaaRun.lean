/-
  run, RunCmd, walked.
-/
import Derived.Test.YtacbcnobenffdaaPut2
import Derived.Test.YtacbcnobenffdaaBox
namespace Go.Proofs.Ytacbcnobenffdaa
open Go.RowKit

theorem max_neg {a : Int} (h : a < 0) : max a 0 = 0 := by omega
theorem max_pos {a : Int} (h : ¬ a < 0) : max a 0 = a := by omega

set_option maxRecDepth 100000 in
set_option maxHeartbeats 4000000 in
theorem run_i (v : Value) (m : ImageD) (kind key value : Int) (w : World) (B : Nat) (hr : R_Image w B v m) (hB : B ≤ w.heap.size) (hm : GoodI m) (hc : cmdOk ⟨kind, key, value⟩ = true) :
    Calls Try.prog 36 #[v, .agg #[.int .i64 kind, .int .i64 key, .int .i64 value]] w fun e w' => ∃ v', e = .returned (.tuple #[v', .int .i64 (runC m ⟨kind, key, value⟩).2]) ∧ O_Image w' w.heap.size w'.heap.size v' (runC m ⟨kind, key, value⟩).1 ∧ Ext w w' := by
  have hr0 := hr
  obtain ⟨u, s, rfl, hu, hs⟩ := hr
  obtain ⟨A0, n0, c0, hv0, -⟩ := id hu
  obtain ⟨A1, n1, c1, hv1, -⟩ := id hs
  subst hv0 hv1
  obtain ⟨hkinds, hkey, hval⟩ := cmdOk_kinds hc
  replace hkinds : kind = 1 ∨ kind = 2 ∨ kind = 3 ∨ kind = 4 := hkinds
  replace hkey : 0 ≤ key ∧ key ≤ 1000000000 := hkey
  replace hval : 0 ≤ value ∧ value ≤ 1000000000 := hval
  have hnc := hm.nc
  have hns := hm.ns
  have hsz : szI m ≤ 2097152 := by unfold szI; omega
  have Hm := Lib.hid hm
  obtain ⟨res, hres⟩ : ∃ res, runC m ⟨kind, key, value⟩ = res := ⟨_, rfl⟩
  rw [hres]
  have Hres := Lib.hid hres
  clear hres hc hm
  have hX0 : Ext w (((w.alloc (.cells #[.slice A0 n0 c0, .slice A1 n1 c1] 32)).alloc (.cells #[.int .i64 kind, .int .i64 key, .int .i64 value] 36)).alloc (.cells #[.slice none 0 0, .slice none 0 0] 32)) := by repeat' (first | with_reducible exact Ext.refl _ | with_reducible assumption | with_reducible refine Ext.set ?_ ?_ _ _ | with_reducible refine Ext.alloc ?_ _ | with_reducible refine Ext.drew ?_ | with_reducible refine Ext.drewN ?_ _ | with_reducible refine Ext.trans ?_ (by with_reducible assumption) | omega | (simp; done) | (simp; omega))
  have x00 : Bx (((w.alloc (.cells #[.slice A0 n0 c0, .slice A1 n1 c1] 32)).alloc (.cells #[.int .i64 kind, .int .i64 key, .int .i64 value] 36)).alloc (.cells #[.slice none 0 0, .slice none 0 0] 32)) (w.heap.size) 0 (.slice A0 n0 c0) := (((Bx.new w #[.slice A0 n0 c0, .slice A1 n1 c1] 32 0 (.slice A0 n0 c0) (by simp) rfl).alloc _).alloc _)
  have x01 : Bx (((w.alloc (.cells #[.slice A0 n0 c0, .slice A1 n1 c1] 32)).alloc (.cells #[.int .i64 kind, .int .i64 key, .int .i64 value] 36)).alloc (.cells #[.slice none 0 0, .slice none 0 0] 32)) (w.heap.size) 1 (.slice A1 n1 c1) := (((Bx.new w #[.slice A0 n0 c0, .slice A1 n1 c1] 32 1 (.slice A1 n1 c1) (by simp) rfl).alloc _).alloc _)
  have x10 : Bx (((w.alloc (.cells #[.slice A0 n0 c0, .slice A1 n1 c1] 32)).alloc (.cells #[.int .i64 kind, .int .i64 key, .int .i64 value] 36)).alloc (.cells #[.slice none 0 0, .slice none 0 0] 32)) (w.heap.size + 1) 0 (.int .i64 kind) := ((Bx.new (w.alloc (.cells #[.slice A0 n0 c0, .slice A1 n1 c1] 32)) #[.int .i64 kind, .int .i64 key, .int .i64 value] 36 0 (.int .i64 kind) (by simp) rfl).alloc _)
  have x11 : Bx (((w.alloc (.cells #[.slice A0 n0 c0, .slice A1 n1 c1] 32)).alloc (.cells #[.int .i64 kind, .int .i64 key, .int .i64 value] 36)).alloc (.cells #[.slice none 0 0, .slice none 0 0] 32)) (w.heap.size + 1) 1 (.int .i64 key) := ((Bx.new (w.alloc (.cells #[.slice A0 n0 c0, .slice A1 n1 c1] 32)) #[.int .i64 kind, .int .i64 key, .int .i64 value] 36 1 (.int .i64 key) (by simp) rfl).alloc _)
  have x12 : Bx (((w.alloc (.cells #[.slice A0 n0 c0, .slice A1 n1 c1] 32)).alloc (.cells #[.int .i64 kind, .int .i64 key, .int .i64 value] 36)).alloc (.cells #[.slice none 0 0, .slice none 0 0] 32)) (w.heap.size + 1) 2 (.int .i64 value) := ((Bx.new (w.alloc (.cells #[.slice A0 n0 c0, .slice A1 n1 c1] 32)) #[.int .i64 kind, .int .i64 key, .int .i64 value] 36 2 (.int .i64 value) (by simp) rfl).alloc _)
  have x20 : Bx (((w.alloc (.cells #[.slice A0 n0 c0, .slice A1 n1 c1] 32)).alloc (.cells #[.int .i64 kind, .int .i64 key, .int .i64 value] 36)).alloc (.cells #[.slice none 0 0, .slice none 0 0] 32)) (w.heap.size + 1 + 1) 0 (.slice none 0 0) := (Bx.new ((w.alloc (.cells #[.slice A0 n0 c0, .slice A1 n1 c1] 32)).alloc (.cells #[.int .i64 kind, .int .i64 key, .int .i64 value] 36)) #[.slice none 0 0, .slice none 0 0] 32 0 (.slice none 0 0) (by simp) rfl)
  have x21 : Bx (((w.alloc (.cells #[.slice A0 n0 c0, .slice A1 n1 c1] 32)).alloc (.cells #[.int .i64 kind, .int .i64 key, .int .i64 value] 36)).alloc (.cells #[.slice none 0 0, .slice none 0 0] 32)) (w.heap.size + 1 + 1) 1 (.slice none 0 0) := (Bx.new ((w.alloc (.cells #[.slice A0 n0 c0, .slice A1 n1 c1] 32)).alloc (.cells #[.int .i64 kind, .int .i64 key, .int .i64 value] 36)) #[.slice none 0 0, .slice none 0 0] 32 1 (.slice none 0 0) (by simp) rfl)
  have zz0 : (((w.alloc (.cells #[.slice A0 n0 c0, .slice A1 n1 c1] 32)).alloc (.cells #[.int .i64 kind, .int .i64 key, .int .i64 value] 36)).alloc (.cells #[.slice none 0 0, .slice none 0 0] 32)).heap.size = w.heap.size + 3 := by simp
  go_enter Try.func36, Try.ntmps36
  go_wp2_with fail
  generalize (((w.alloc (.cells #[.slice A0 n0 c0, .slice A1 n1 c1] 32)).alloc (.cells #[.int .i64 kind, .int .i64 key, .int .i64 value] 36)).alloc (.cells #[.slice none 0 0, .slice none 0 0] 32)) = W0 at *
  refine (copyImage_i _ m _ B (by exact hr0.keep (keepE' hX0 hB)) (by omega) hsz).mono ?_
  rintro e w1 ⟨v1, rfl, o1, hE1⟩
  have hz1 := hE1.size
  replace x00 := Bx.ext x00 hE1
  replace x01 := Bx.ext x01 hE1
  replace x10 := Bx.ext x10 hE1
  replace x11 := Bx.ext x11 hE1
  replace x12 := Bx.ext x12 hE1
  replace x20 := Bx.ext x20 hE1
  replace x21 := Bx.ext x21 hE1
  obtain ⟨p00, f00⟩ := id x00
  obtain ⟨p01, f01⟩ := id x01
  obtain ⟨p10, f10⟩ := id x10
  obtain ⟨p11, f11⟩ := id x11
  obtain ⟨p12, f12⟩ := id x12
  obtain ⟨p20, f20⟩ := id x20
  obtain ⟨p21, f21⟩ := id x21
  have hX1 : Ext w w1 := hX0.trans hE1
  obtain ⟨u1, s1, rfl, k1, k2⟩ := o1
  obtain ⟨A2, n2, c2, hv2, hl2, -⟩ := id k1
  obtain ⟨A3, n3, c3, hv3, hl3, -⟩ := id k2
  subst hv2 hv3
  have Hl2 := Lib.hid hl2
  have Hl3 := Lib.hid hl3
  rw [hl2] at hnc
  clear hl2 hl3 hE1
  go_wp2_with fail
  have k1' := O_CellS.keep k1 (w' := (w1.setCell ⟨w.heap.size, 0, none⟩ (.slice A2 n2 c2)).setCell ⟨w.heap.size, 1, none⟩ (.slice A3 n3 c3)) (show Kp _ _ _ _ by repeat' (first | with_reducible exact Kp.refl _ _ _ | with_reducible assumption | with_reducible refine Kp.set ?_ ?_ _ _ | with_reducible refine Kp.alloc ?_ ?_ _ | with_reducible refine Kp.drew ?_ | with_reducible refine Kp.drewN ?_ _ | with_reducible refine Kp.ext ?_ ?_ (by with_reducible assumption) | with_reducible refine Kp.fr ?_ ?_ ?_ (by with_reducible assumption) | omega | (simp; done) | (simp; omega)))
  have k2' := O_SeatS.keep k2 (w' := (w1.setCell ⟨w.heap.size, 0, none⟩ (.slice A2 n2 c2)).setCell ⟨w.heap.size, 1, none⟩ (.slice A3 n3 c3)) (show Kp _ _ _ _ by repeat' (first | with_reducible exact Kp.refl _ _ _ | with_reducible assumption | with_reducible refine Kp.set ?_ ?_ _ _ | with_reducible refine Kp.alloc ?_ ?_ _ | with_reducible refine Kp.drew ?_ | with_reducible refine Kp.drewN ?_ _ | with_reducible refine Kp.ext ?_ ?_ (by with_reducible assumption) | with_reducible refine Kp.fr ?_ ?_ ?_ (by with_reducible assumption) | omega | (simp; done) | (simp; omega)))
  refine (valueOf_any _ m.cells key _ w1.heap.size (by exact k1'.rd) (by simp) (by rw [Hl2.out]; omega) (by omega) Hm.out.cells).mono ?_
  rintro e w2 ⟨rfl, hE2⟩
  have hge := getC_ge Hm.out.cells key
  have hz2 := hE2.size
  simp only [World.size_setCell] at hz2
  clear p00 f00 p01 f01 p10 f10 p11 f11 p12 f12 p20 f20 p21 f21
  replace x00 := Bx.ext (Bx.off (Bx.same x00 (.slice A2 n2 c2)) (by omega) _) hE2
  replace x01 := Bx.ext (Bx.same (Bx.off x01 (by omega) _) (.slice A3 n3 c3)) hE2
  replace x10 := Bx.ext (Bx.far (Bx.far x10 (by omega) _ _) (by omega) _ _) hE2
  replace x11 := Bx.ext (Bx.far (Bx.far x11 (by omega) _ _) (by omega) _ _) hE2
  replace x12 := Bx.ext (Bx.far (Bx.far x12 (by omega) _ _) (by omega) _ _) hE2
  replace x20 := Bx.ext (Bx.far (Bx.far x20 (by omega) _ _) (by omega) _ _) hE2
  replace x21 := Bx.ext (Bx.far (Bx.far x21 (by omega) _ _) (by omega) _ _) hE2
  obtain ⟨p00, f00⟩ := id x00
  obtain ⟨p01, f01⟩ := id x01
  obtain ⟨p10, f10⟩ := id x10
  obtain ⟨p11, f11⟩ := id x11
  obtain ⟨p12, f12⟩ := id x12
  obtain ⟨p20, f20⟩ := id x20
  obtain ⟨p21, f21⟩ := id x21
  have hX2 : Ext w w2 := by repeat' (first | with_reducible exact Ext.refl _ | with_reducible assumption | with_reducible refine Ext.set ?_ ?_ _ _ | with_reducible refine Ext.alloc ?_ _ | with_reducible refine Ext.drew ?_ | with_reducible refine Ext.drewN ?_ _ | with_reducible refine Ext.trans ?_ (by with_reducible assumption) | omega | (simp; done) | (simp; omega))
  generalize hold : getC m.cells key = old at hge ⊢
  have Hold := Lib.hid hold
  have o1 := k1'.keep (keepE hE2 (by simp))
  have o2 := k2'.keep (keepE hE2 (by simp))
  clear hold k1 k2 k1' k2' hE2
  rcases hkinds with rfl | hkinds
  · -- get
    have hf : Hid (res = (m, old)) := by
      show _ = _
      rw [← Hres.out, ← Hold.out]
      exact runC_get rfl
    go_wp2
    rw [hf.out]
    exact bodyPost_ret (v := .tuple #[.agg #[.slice A2 n2 c2, .slice A3 n3 c3], .int .i64 old]) (by simp [results, Try.results36, go_sem, p20, p21]) rfl ⟨_, rfl, ⟨_, _, rfl, (O_CellS.keep o1 (show Kp _ _ _ _ by repeat' (first | with_reducible exact Kp.refl _ _ _ | with_reducible assumption | with_reducible refine Kp.set ?_ ?_ _ _ | with_reducible refine Kp.alloc ?_ ?_ _ | with_reducible refine Kp.drew ?_ | with_reducible refine Kp.drewN ?_ _ | with_reducible refine Kp.ext ?_ ?_ (by with_reducible assumption) | with_reducible refine Kp.fr ?_ ?_ ?_ (by with_reducible assumption) | omega | (simp; done) | (simp; omega)))).wide (by omega) (by simp; omega), (O_SeatS.keep o2 (show Kp _ _ _ _ by repeat' (first | with_reducible exact Kp.refl _ _ _ | with_reducible assumption | with_reducible refine Kp.set ?_ ?_ _ _ | with_reducible refine Kp.alloc ?_ ?_ _ | with_reducible refine Kp.drew ?_ | with_reducible refine Kp.drewN ?_ _ | with_reducible refine Kp.ext ?_ ?_ (by with_reducible assumption) | with_reducible refine Kp.fr ?_ ?_ ?_ (by with_reducible assumption) | omega | (simp; done) | (simp; omega)))).wide (by omega) (by simp; omega)⟩, by repeat' (first | with_reducible exact Ext.refl _ | with_reducible assumption | with_reducible refine Ext.set ?_ ?_ _ _ | with_reducible refine Ext.alloc ?_ _ | with_reducible refine Ext.drew ?_ | with_reducible refine Ext.drewN ?_ _ | with_reducible refine Ext.trans ?_ (by with_reducible assumption) | omega | (simp; done) | (simp; omega))⟩
  by_cases h4 : kind = 4
  · subst h4
    have hf : Hid (res = (⟨putL m.cells key (-1), m.seats⟩, old)) := by
      show _ = _
      rw [← Hres.out, ← Hold.out, putL, if_pos rfl]
      exact runC_drop rfl
    go_wp2_with fail
    refine (put_i _ m.cells key (-1) _ w1.heap.size (by exact o1.rd) (by omega) (by rw [Hl2.out]; omega) hkey (by omega) Hm.out.cells).mono ?_
    rintro e w3 ⟨v3, rfl, o3, hE3⟩
    have hz3 := hE3.size
    clear p00 f00 p01 f01 p10 f10 p11 f11 p12 f12 p20 f20 p21 f21
    replace x00 := Bx.ext x00 hE3
    replace x01 := Bx.ext x01 hE3
    replace x10 := Bx.ext x10 hE3
    replace x11 := Bx.ext x11 hE3
    replace x12 := Bx.ext x12 hE3
    replace x20 := Bx.ext x20 hE3
    replace x21 := Bx.ext x21 hE3
    obtain ⟨p00, f00⟩ := id x00
    obtain ⟨p01, f01⟩ := id x01
    obtain ⟨p10, f10⟩ := id x10
    obtain ⟨p11, f11⟩ := id x11
    obtain ⟨p12, f12⟩ := id x12
    obtain ⟨p20, f20⟩ := id x20
    obtain ⟨p21, f21⟩ := id x21
    obtain ⟨A4, n4, c4, hv4, -⟩ := id o3
    subst hv4
    replace o2 := o2.keep (keepE hE3 (by omega))
    have hX3 : Ext w w3 := hX2.trans hE3
    clear o1 hE3
    go_wp2
    rw [hf.out]
    exact bodyPost_ret (v := .tuple #[.agg #[.slice A4 n4 c4, .slice A3 n3 c3], .int .i64 old]) (by simp [results, Try.results36, go_sem, p20, p21]) rfl ⟨_, rfl, ⟨_, _, rfl, (O_CellS.keep o3 (show Kp _ _ _ _ by repeat' (first | with_reducible exact Kp.refl _ _ _ | with_reducible assumption | with_reducible refine Kp.set ?_ ?_ _ _ | with_reducible refine Kp.alloc ?_ ?_ _ | with_reducible refine Kp.drew ?_ | with_reducible refine Kp.drewN ?_ _ | with_reducible refine Kp.ext ?_ ?_ (by with_reducible assumption) | with_reducible refine Kp.fr ?_ ?_ ?_ (by with_reducible assumption) | omega | (simp; done) | (simp; omega)))).wide (by omega) (by simp), (O_SeatS.keep o2 (show Kp _ _ _ _ by repeat' (first | with_reducible exact Kp.refl _ _ _ | with_reducible assumption | with_reducible refine Kp.set ?_ ?_ _ _ | with_reducible refine Kp.alloc ?_ ?_ _ | with_reducible refine Kp.drew ?_ | with_reducible refine Kp.drewN ?_ _ | with_reducible refine Kp.ext ?_ ?_ (by with_reducible assumption) | with_reducible refine Kp.fr ?_ ?_ ?_ (by with_reducible assumption) | omega | (simp; done) | (simp; omega)))).wide (by omega) (by simp; omega)⟩, by repeat' (first | with_reducible exact Ext.refl _ | with_reducible assumption | with_reducible refine Ext.set ?_ ?_ _ _ | with_reducible refine Ext.alloc ?_ _ | with_reducible refine Ext.drew ?_ | with_reducible refine Ext.drewN ?_ _ | with_reducible refine Ext.trans ?_ (by with_reducible assumption) | omega | (simp; done) | (simp; omega))⟩
  have hk1 : ¬ kind = 1 := by omega
  have hk2 : kind = 2 ∨ kind = 3 := by omega
  obtain ⟨y, hy⟩ : ∃ y, (if kind = 3 then value + max old 0 else value) = y := ⟨_, rfl⟩
  have hy0 : 0 ≤ y ∧ y ≤ 2000000000 := by rw [← hy]; split <;> omega
  have hfull : (old < 0 ∧ m.cells.length = 40) ∨ 1000000000 < y → Hid (res = (m, -1)) := by
    intro h
    show _ = _
    rw [← Hres.out]
    have Ho := Hold.out
    exact runC_full (c := ⟨kind, key, value⟩) (v := y) hk1 h4 (by show (if kind = 3 then value + max (getC m.cells key) 0 else value) = y; rw [Ho]; exact hy) (by show (getC m.cells key < 0 ∧ m.cells.length = 40) ∨ 1000000000 < y; rw [Ho]; exact h)
  have hput : ¬ ((old < 0 ∧ m.cells.length = 40) ∨ 1000000000 < y) → Hid (res = (⟨putL m.cells key y, m.seats⟩, y)) := by
    intro h
    show _ = _
    rw [← Hres.out]
    have Ho := Hold.out
    rw [putL, if_neg (show ¬ y = -1 by omega)]
    exact runC_put (c := ⟨kind, key, value⟩) (v := y) hk1 h4 (by show (if kind = 3 then value + max (getC m.cells key) 0 else value) = y; rw [Ho]; exact hy) (by show ¬ ((getC m.cells key < 0 ∧ m.cells.length = 40) ∨ 1000000000 < y); rw [Ho]; exact h)
  rw [Hl2.out] at hfull hput
  have Hfull := Lib.hid hfull
  have Hput := Lib.hid hput
  clear hfull hput h4 hkinds hk1
  rcases hk2 with rfl | rfl
  · rw [if_neg (by omega)] at hy
    subst hy
    by_cases hneg : old < 0
    · skip
      by_cases hn40 : n2 = 40
      · have e1 : ((n2 : Int) == 40) = true := by simp [hn40]
        have e2 : (n2 == 40) = true := by simp [hn40]
        have Hn40 := Lib.hid hn40
        clear hn40
        have hf := Hfull.out (by have := Hn40.out; omega)
        skip
        go_wp2
        rw [hf.out]
        exact bodyPost_ret (v := .tuple #[.agg #[.slice A2 n2 c2, .slice A3 n3 c3], .int .i64 (-1)]) (by simp [results, Try.results36, go_sem, p20, p21]) rfl ⟨_, rfl, ⟨_, _, rfl, (O_CellS.keep o1 (show Kp _ _ _ _ by repeat' (first | with_reducible exact Kp.refl _ _ _ | with_reducible assumption | with_reducible refine Kp.set ?_ ?_ _ _ | with_reducible refine Kp.alloc ?_ ?_ _ | with_reducible refine Kp.drew ?_ | with_reducible refine Kp.drewN ?_ _ | with_reducible refine Kp.ext ?_ ?_ (by with_reducible assumption) | with_reducible refine Kp.fr ?_ ?_ ?_ (by with_reducible assumption) | omega | (simp; done) | (simp; omega)))).wide (by omega) (by simp; omega), (O_SeatS.keep o2 (show Kp _ _ _ _ by repeat' (first | with_reducible exact Kp.refl _ _ _ | with_reducible assumption | with_reducible refine Kp.set ?_ ?_ _ _ | with_reducible refine Kp.alloc ?_ ?_ _ | with_reducible refine Kp.drew ?_ | with_reducible refine Kp.drewN ?_ _ | with_reducible refine Kp.ext ?_ ?_ (by with_reducible assumption) | with_reducible refine Kp.fr ?_ ?_ ?_ (by with_reducible assumption) | omega | (simp; done) | (simp; omega)))).wide (by omega) (by simp; omega)⟩, by repeat' (first | with_reducible exact Ext.refl _ | with_reducible assumption | with_reducible refine Ext.set ?_ ?_ _ _ | with_reducible refine Ext.alloc ?_ _ | with_reducible refine Ext.drew ?_ | with_reducible refine Ext.drewN ?_ _ | with_reducible refine Ext.trans ?_ (by with_reducible assumption) | omega | (simp; done) | (simp; omega))⟩
      · have e1 : ((n2 : Int) == 40) = false := by simp; omega
        have e2 : (n2 == 40) = false := by simp; omega
        have hf := Hput.out (by omega)
        skip
        go_wp2_with fail
        refine (put_i _ m.cells key value _ w1.heap.size (by exact o1.rd) (by omega) (by rw [Hl2.out]; omega) hkey (by omega) Hm.out.cells).mono ?_
        rintro e w3 ⟨v3, rfl, o3, hE3⟩
        have hz3 := hE3.size
        clear p00 f00 p01 f01 p10 f10 p11 f11 p12 f12 p20 f20 p21 f21
        replace x00 := Bx.ext x00 hE3
        replace x01 := Bx.ext x01 hE3
        replace x10 := Bx.ext x10 hE3
        replace x11 := Bx.ext x11 hE3
        replace x12 := Bx.ext x12 hE3
        replace x20 := Bx.ext x20 hE3
        replace x21 := Bx.ext x21 hE3
        obtain ⟨p00, f00⟩ := id x00
        obtain ⟨p01, f01⟩ := id x01
        obtain ⟨p10, f10⟩ := id x10
        obtain ⟨p11, f11⟩ := id x11
        obtain ⟨p12, f12⟩ := id x12
        obtain ⟨p20, f20⟩ := id x20
        obtain ⟨p21, f21⟩ := id x21
        obtain ⟨A4, n4, c4, hv4, -⟩ := id o3
        subst hv4
        replace o2 := o2.keep (keepE hE3 (by omega))
        have hX3 : Ext w w3 := hX2.trans hE3
        clear o1 hE3
        go_wp2
        rw [hf.out]
        exact bodyPost_ret (v := .tuple #[.agg #[.slice A4 n4 c4, .slice A3 n3 c3], .int .i64 value]) (by simp [results, Try.results36, go_sem, p20, p21]) rfl ⟨_, rfl, ⟨_, _, rfl, (O_CellS.keep o3 (show Kp _ _ _ _ by repeat' (first | with_reducible exact Kp.refl _ _ _ | with_reducible assumption | with_reducible refine Kp.set ?_ ?_ _ _ | with_reducible refine Kp.alloc ?_ ?_ _ | with_reducible refine Kp.drew ?_ | with_reducible refine Kp.drewN ?_ _ | with_reducible refine Kp.ext ?_ ?_ (by with_reducible assumption) | with_reducible refine Kp.fr ?_ ?_ ?_ (by with_reducible assumption) | omega | (simp; done) | (simp; omega)))).wide (by omega) (by simp), (O_SeatS.keep o2 (show Kp _ _ _ _ by repeat' (first | with_reducible exact Kp.refl _ _ _ | with_reducible assumption | with_reducible refine Kp.set ?_ ?_ _ _ | with_reducible refine Kp.alloc ?_ ?_ _ | with_reducible refine Kp.drew ?_ | with_reducible refine Kp.drewN ?_ _ | with_reducible refine Kp.ext ?_ ?_ (by with_reducible assumption) | with_reducible refine Kp.fr ?_ ?_ ?_ (by with_reducible assumption) | omega | (simp; done) | (simp; omega)))).wide (by omega) (by simp; omega)⟩, by repeat' (first | with_reducible exact Ext.refl _ | with_reducible assumption | with_reducible refine Ext.set ?_ ?_ _ _ | with_reducible refine Ext.alloc ?_ _ | with_reducible refine Ext.drew ?_ | with_reducible refine Ext.drewN ?_ _ | with_reducible refine Ext.trans ?_ (by with_reducible assumption) | omega | (simp; done) | (simp; omega))⟩
    · skip
      have hf := Hput.out (by omega)
      skip
      go_wp2_with fail
      refine (put_i _ m.cells key value _ w1.heap.size (by exact o1.rd) (by omega) (by rw [Hl2.out]; omega) hkey (by omega) Hm.out.cells).mono ?_
      rintro e w3 ⟨v3, rfl, o3, hE3⟩
      have hz3 := hE3.size
      clear p00 f00 p01 f01 p10 f10 p11 f11 p12 f12 p20 f20 p21 f21
      replace x00 := Bx.ext x00 hE3
      replace x01 := Bx.ext x01 hE3
      replace x10 := Bx.ext x10 hE3
      replace x11 := Bx.ext x11 hE3
      replace x12 := Bx.ext x12 hE3
      replace x20 := Bx.ext x20 hE3
      replace x21 := Bx.ext x21 hE3
      obtain ⟨p00, f00⟩ := id x00
      obtain ⟨p01, f01⟩ := id x01
      obtain ⟨p10, f10⟩ := id x10
      obtain ⟨p11, f11⟩ := id x11
      obtain ⟨p12, f12⟩ := id x12
      obtain ⟨p20, f20⟩ := id x20
      obtain ⟨p21, f21⟩ := id x21
      obtain ⟨A4, n4, c4, hv4, -⟩ := id o3
      subst hv4
      replace o2 := o2.keep (keepE hE3 (by omega))
      have hX3 : Ext w w3 := hX2.trans hE3
      clear o1 hE3
      go_wp2
      rw [hf.out]
      exact bodyPost_ret (v := .tuple #[.agg #[.slice A4 n4 c4, .slice A3 n3 c3], .int .i64 value]) (by simp [results, Try.results36, go_sem, p20, p21]) rfl ⟨_, rfl, ⟨_, _, rfl, (O_CellS.keep o3 (show Kp _ _ _ _ by repeat' (first | with_reducible exact Kp.refl _ _ _ | with_reducible assumption | with_reducible refine Kp.set ?_ ?_ _ _ | with_reducible refine Kp.alloc ?_ ?_ _ | with_reducible refine Kp.drew ?_ | with_reducible refine Kp.drewN ?_ _ | with_reducible refine Kp.ext ?_ ?_ (by with_reducible assumption) | with_reducible refine Kp.fr ?_ ?_ ?_ (by with_reducible assumption) | omega | (simp; done) | (simp; omega)))).wide (by omega) (by simp), (O_SeatS.keep o2 (show Kp _ _ _ _ by repeat' (first | with_reducible exact Kp.refl _ _ _ | with_reducible assumption | with_reducible refine Kp.set ?_ ?_ _ _ | with_reducible refine Kp.alloc ?_ ?_ _ | with_reducible refine Kp.drew ?_ | with_reducible refine Kp.drewN ?_ _ | with_reducible refine Kp.ext ?_ ?_ (by with_reducible assumption) | with_reducible refine Kp.fr ?_ ?_ ?_ (by with_reducible assumption) | omega | (simp; done) | (simp; omega)))).wide (by omega) (by simp; omega)⟩, by repeat' (first | with_reducible exact Ext.refl _ | with_reducible assumption | with_reducible refine Ext.set ?_ ?_ _ _ | with_reducible refine Ext.alloc ?_ _ | with_reducible refine Ext.drew ?_ | with_reducible refine Ext.drewN ?_ _ | with_reducible refine Ext.trans ?_ (by with_reducible assumption) | omega | (simp; done) | (simp; omega))⟩
  · rw [if_pos rfl] at hy
    by_cases hneg0 : old < 0
    · rw [max_neg hneg0] at hy
      have hmx := max_neg hneg0
      obtain rfl : value = y := by omega
      by_cases hn40 : n2 = 40
      · have e1 : ((n2 : Int) == 40) = true := by simp [hn40]
        have e2 : (n2 == 40) = true := by simp [hn40]
        have Hn40 := Lib.hid hn40
        clear hn40
        have hf := Hfull.out (by have := Hn40.out; omega)
        clear hy hmx
        go_wp2
        rw [hf.out]
        exact bodyPost_ret (v := .tuple #[.agg #[.slice A2 n2 c2, .slice A3 n3 c3], .int .i64 (-1)]) (by simp [results, Try.results36, go_sem, p20, p21]) rfl ⟨_, rfl, ⟨_, _, rfl, (O_CellS.keep o1 (show Kp _ _ _ _ by repeat' (first | with_reducible exact Kp.refl _ _ _ | with_reducible assumption | with_reducible refine Kp.set ?_ ?_ _ _ | with_reducible refine Kp.alloc ?_ ?_ _ | with_reducible refine Kp.drew ?_ | with_reducible refine Kp.drewN ?_ _ | with_reducible refine Kp.ext ?_ ?_ (by with_reducible assumption) | with_reducible refine Kp.fr ?_ ?_ ?_ (by with_reducible assumption) | omega | (simp; done) | (simp; omega)))).wide (by omega) (by simp; omega), (O_SeatS.keep o2 (show Kp _ _ _ _ by repeat' (first | with_reducible exact Kp.refl _ _ _ | with_reducible assumption | with_reducible refine Kp.set ?_ ?_ _ _ | with_reducible refine Kp.alloc ?_ ?_ _ | with_reducible refine Kp.drew ?_ | with_reducible refine Kp.drewN ?_ _ | with_reducible refine Kp.ext ?_ ?_ (by with_reducible assumption) | with_reducible refine Kp.fr ?_ ?_ ?_ (by with_reducible assumption) | omega | (simp; done) | (simp; omega)))).wide (by omega) (by simp; omega)⟩, by repeat' (first | with_reducible exact Ext.refl _ | with_reducible assumption | with_reducible refine Ext.set ?_ ?_ _ _ | with_reducible refine Ext.alloc ?_ _ | with_reducible refine Ext.drew ?_ | with_reducible refine Ext.drewN ?_ _ | with_reducible refine Ext.trans ?_ (by with_reducible assumption) | omega | (simp; done) | (simp; omega))⟩
      · have e1 : ((n2 : Int) == 40) = false := by simp; omega
        have e2 : (n2 == 40) = false := by simp; omega
        have hf := Hput.out (by omega)
        clear hy hmx
        go_wp2_with fail
        refine (put_i _ m.cells key value _ w1.heap.size (by exact o1.rd) (by omega) (by rw [Hl2.out]; omega) hkey (by omega) Hm.out.cells).mono ?_
        rintro e w3 ⟨v3, rfl, o3, hE3⟩
        have hz3 := hE3.size
        clear p00 f00 p01 f01 p10 f10 p11 f11 p12 f12 p20 f20 p21 f21
        replace x00 := Bx.ext x00 hE3
        replace x01 := Bx.ext x01 hE3
        replace x10 := Bx.ext x10 hE3
        replace x11 := Bx.ext x11 hE3
        replace x12 := Bx.ext x12 hE3
        replace x20 := Bx.ext x20 hE3
        replace x21 := Bx.ext x21 hE3
        obtain ⟨p00, f00⟩ := id x00
        obtain ⟨p01, f01⟩ := id x01
        obtain ⟨p10, f10⟩ := id x10
        obtain ⟨p11, f11⟩ := id x11
        obtain ⟨p12, f12⟩ := id x12
        obtain ⟨p20, f20⟩ := id x20
        obtain ⟨p21, f21⟩ := id x21
        obtain ⟨A4, n4, c4, hv4, -⟩ := id o3
        subst hv4
        replace o2 := o2.keep (keepE hE3 (by omega))
        have hX3 : Ext w w3 := hX2.trans hE3
        clear o1 hE3
        go_wp2
        rw [hf.out]
        exact bodyPost_ret (v := .tuple #[.agg #[.slice A4 n4 c4, .slice A3 n3 c3], .int .i64 value]) (by simp [results, Try.results36, go_sem, p20, p21]) rfl ⟨_, rfl, ⟨_, _, rfl, (O_CellS.keep o3 (show Kp _ _ _ _ by repeat' (first | with_reducible exact Kp.refl _ _ _ | with_reducible assumption | with_reducible refine Kp.set ?_ ?_ _ _ | with_reducible refine Kp.alloc ?_ ?_ _ | with_reducible refine Kp.drew ?_ | with_reducible refine Kp.drewN ?_ _ | with_reducible refine Kp.ext ?_ ?_ (by with_reducible assumption) | with_reducible refine Kp.fr ?_ ?_ ?_ (by with_reducible assumption) | omega | (simp; done) | (simp; omega)))).wide (by omega) (by simp), (O_SeatS.keep o2 (show Kp _ _ _ _ by repeat' (first | with_reducible exact Kp.refl _ _ _ | with_reducible assumption | with_reducible refine Kp.set ?_ ?_ _ _ | with_reducible refine Kp.alloc ?_ ?_ _ | with_reducible refine Kp.drew ?_ | with_reducible refine Kp.drewN ?_ _ | with_reducible refine Kp.ext ?_ ?_ (by with_reducible assumption) | with_reducible refine Kp.fr ?_ ?_ ?_ (by with_reducible assumption) | omega | (simp; done) | (simp; omega)))).wide (by omega) (by simp; omega)⟩, by repeat' (first | with_reducible exact Ext.refl _ | with_reducible assumption | with_reducible refine Ext.set ?_ ?_ _ _ | with_reducible refine Ext.alloc ?_ _ | with_reducible refine Ext.drew ?_ | with_reducible refine Ext.drewN ?_ _ | with_reducible refine Ext.trans ?_ (by with_reducible assumption) | omega | (simp; done) | (simp; omega))⟩
    · rw [max_pos hneg0] at hy
      subst hy
      have hnneg : 0 ≤ old := by omega
      by_cases hb : 1000000000 < value + old
      · skip
        have hf := Hfull.out (by omega)
        skip
        go_wp2
        rw [hf.out]
        exact bodyPost_ret (v := .tuple #[.agg #[.slice A2 n2 c2, .slice A3 n3 c3], .int .i64 (-1)]) (by simp [results, Try.results36, go_sem, p20, p21]) rfl ⟨_, rfl, ⟨_, _, rfl, (O_CellS.keep o1 (show Kp _ _ _ _ by repeat' (first | with_reducible exact Kp.refl _ _ _ | with_reducible assumption | with_reducible refine Kp.set ?_ ?_ _ _ | with_reducible refine Kp.alloc ?_ ?_ _ | with_reducible refine Kp.drew ?_ | with_reducible refine Kp.drewN ?_ _ | with_reducible refine Kp.ext ?_ ?_ (by with_reducible assumption) | with_reducible refine Kp.fr ?_ ?_ ?_ (by with_reducible assumption) | omega | (simp; done) | (simp; omega)))).wide (by omega) (by simp; omega), (O_SeatS.keep o2 (show Kp _ _ _ _ by repeat' (first | with_reducible exact Kp.refl _ _ _ | with_reducible assumption | with_reducible refine Kp.set ?_ ?_ _ _ | with_reducible refine Kp.alloc ?_ ?_ _ | with_reducible refine Kp.drew ?_ | with_reducible refine Kp.drewN ?_ _ | with_reducible refine Kp.ext ?_ ?_ (by with_reducible assumption) | with_reducible refine Kp.fr ?_ ?_ ?_ (by with_reducible assumption) | omega | (simp; done) | (simp; omega)))).wide (by omega) (by simp; omega)⟩, by repeat' (first | with_reducible exact Ext.refl _ | with_reducible assumption | with_reducible refine Ext.set ?_ ?_ _ _ | with_reducible refine Ext.alloc ?_ _ | with_reducible refine Ext.drew ?_ | with_reducible refine Ext.drewN ?_ _ | with_reducible refine Ext.trans ?_ (by with_reducible assumption) | omega | (simp; done) | (simp; omega))⟩
      · skip
        have hf := Hput.out (by omega)
        skip
        go_wp2_with fail
        refine (put_i _ m.cells key (value + old) _ w1.heap.size (by exact o1.rd) (by omega) (by rw [Hl2.out]; omega) hkey (by omega) Hm.out.cells).mono ?_
        rintro e w3 ⟨v3, rfl, o3, hE3⟩
        have hz3 := hE3.size
        clear p00 f00 p01 f01 p10 f10 p11 f11 p12 f12 p20 f20 p21 f21
        replace x00 := Bx.ext x00 hE3
        replace x01 := Bx.ext x01 hE3
        replace x10 := Bx.ext x10 hE3
        replace x11 := Bx.ext x11 hE3
        replace x12 := Bx.ext x12 hE3
        replace x20 := Bx.ext x20 hE3
        replace x21 := Bx.ext x21 hE3
        obtain ⟨p00, f00⟩ := id x00
        obtain ⟨p01, f01⟩ := id x01
        obtain ⟨p10, f10⟩ := id x10
        obtain ⟨p11, f11⟩ := id x11
        obtain ⟨p12, f12⟩ := id x12
        obtain ⟨p20, f20⟩ := id x20
        obtain ⟨p21, f21⟩ := id x21
        obtain ⟨A4, n4, c4, hv4, -⟩ := id o3
        subst hv4
        replace o2 := o2.keep (keepE hE3 (by omega))
        have hX3 : Ext w w3 := hX2.trans hE3
        clear o1 hE3
        go_wp2
        rw [hf.out]
        exact bodyPost_ret (v := .tuple #[.agg #[.slice A4 n4 c4, .slice A3 n3 c3], .int .i64 (value + old)]) (by simp [results, Try.results36, go_sem, p20, p21]) rfl ⟨_, rfl, ⟨_, _, rfl, (O_CellS.keep o3 (show Kp _ _ _ _ by repeat' (first | with_reducible exact Kp.refl _ _ _ | with_reducible assumption | with_reducible refine Kp.set ?_ ?_ _ _ | with_reducible refine Kp.alloc ?_ ?_ _ | with_reducible refine Kp.drew ?_ | with_reducible refine Kp.drewN ?_ _ | with_reducible refine Kp.ext ?_ ?_ (by with_reducible assumption) | with_reducible refine Kp.fr ?_ ?_ ?_ (by with_reducible assumption) | omega | (simp; done) | (simp; omega)))).wide (by omega) (by simp), (O_SeatS.keep o2 (show Kp _ _ _ _ by repeat' (first | with_reducible exact Kp.refl _ _ _ | with_reducible assumption | with_reducible refine Kp.set ?_ ?_ _ _ | with_reducible refine Kp.alloc ?_ ?_ _ | with_reducible refine Kp.drew ?_ | with_reducible refine Kp.drewN ?_ _ | with_reducible refine Kp.ext ?_ ?_ (by with_reducible assumption) | with_reducible refine Kp.fr ?_ ?_ ?_ (by with_reducible assumption) | omega | (simp; done) | (simp; omega)))).wide (by omega) (by simp; omega)⟩, by repeat' (first | with_reducible exact Ext.refl _ | with_reducible assumption | with_reducible refine Ext.set ?_ ?_ _ _ | with_reducible refine Ext.alloc ?_ _ | with_reducible refine Ext.drew ?_ | with_reducible refine Ext.drewN ?_ _ | with_reducible refine Ext.trans ?_ (by with_reducible assumption) | omega | (simp; done) | (simp; omega))⟩

end Go.Proofs.Ytacbcnobenffdaa
