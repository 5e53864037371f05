/-
  RunCmd of the program and of the reference, walked.
-/
import Derived.Test.YtbfbdhjeoknjkaaMg5
namespace Go.Proofs.Ytbfbdhjeoknjkaa
open Go.RowKit


theorem l1Max_any (a b : Int) (w : World) : Calls Try.prog 146 #[.int .i64 a, .int .i64 b] w fun e w' => e = .returned (.int .i64 (max a b)) ∧ w = w' := by
  by_cases h : b < a
  · go_enter Try.func146, Try.ntmps146
    go_wp2
    go_ret
    exact ⟨ret_int (by omega), rfl⟩
  · go_enter Try.func146, Try.ntmps146
    go_wp2
    go_ret
    exact ⟨ret_int (by omega), rfl⟩

set_option maxRecDepth 100000 in
set_option maxHeartbeats 4000000 in
theorem runCmd_s (v : Value) (m : ImageD) (kind key value : Int) (w : World) (B : Nat) (hr : R_Image w B v m) (hB : B ≤ w.heap.size) :
    Calls Try.prog 142 #[v, .agg #[.int .i64 kind, .int .i64 key, .int .i64 value]] w fun e w' => ∃ v', e = .returned (.tuple #[v', .int .i64 (runCmd m ⟨kind, key, value⟩).2]) ∧ O_Image w' w.heap.size w'.heap.size v' (runCmd m ⟨kind, key, value⟩).1 ∧ Ext w w' := by
  have hr0 := hr
  obtain ⟨u, s, rfl, hu, hs⟩ := hr
  obtain ⟨A0, n0, c0, hv0, hl0, -⟩ := id hu
  obtain ⟨A1, n1, c1, hv1, -⟩ := id hs
  subst hv0 hv1
  have Hl0 := Lib.hid hl0
  clear hl0
  obtain ⟨res, hres⟩ : ∃ res, runCmd m ⟨kind, key, value⟩ = res := ⟨_, rfl⟩
  rw [hres]
  have Hres := Lib.hid hres
  clear hres
  have hX0 : Ext w (((w.alloc (.cells #[.slice A0 n0 c0, .slice A1 n1 c1] 39)).alloc (.cells #[.int .i64 kind, .int .i64 key, .int .i64 value] 35)).alloc (.cells #[.slice none 0 0, .slice none 0 0] 39)) := by repeat' (first | with_reducible exact Ext.refl _ | with_reducible assumption | with_reducible refine Ext.set ?_ ?_ _ _ | with_reducible refine Ext.alloc ?_ _ | with_reducible refine Ext.drew ?_ | with_reducible refine Ext.drewN ?_ _ | with_reducible refine Ext.trans ?_ (by with_reducible assumption) | omega | (simp; done) | (simp; omega))
  have x00 : Bx (((w.alloc (.cells #[.slice A0 n0 c0, .slice A1 n1 c1] 39)).alloc (.cells #[.int .i64 kind, .int .i64 key, .int .i64 value] 35)).alloc (.cells #[.slice none 0 0, .slice none 0 0] 39)) (w.heap.size) 0 (.slice A0 n0 c0) := (((Bx.new w #[.slice A0 n0 c0, .slice A1 n1 c1] 39 0 (.slice A0 n0 c0) (by simp) rfl).alloc _).alloc _)
  have x01 : Bx (((w.alloc (.cells #[.slice A0 n0 c0, .slice A1 n1 c1] 39)).alloc (.cells #[.int .i64 kind, .int .i64 key, .int .i64 value] 35)).alloc (.cells #[.slice none 0 0, .slice none 0 0] 39)) (w.heap.size) 1 (.slice A1 n1 c1) := (((Bx.new w #[.slice A0 n0 c0, .slice A1 n1 c1] 39 1 (.slice A1 n1 c1) (by simp) rfl).alloc _).alloc _)
  have x10 : Bx (((w.alloc (.cells #[.slice A0 n0 c0, .slice A1 n1 c1] 39)).alloc (.cells #[.int .i64 kind, .int .i64 key, .int .i64 value] 35)).alloc (.cells #[.slice none 0 0, .slice none 0 0] 39)) (w.heap.size + 1) 0 (.int .i64 kind) := ((Bx.new (w.alloc (.cells #[.slice A0 n0 c0, .slice A1 n1 c1] 39)) #[.int .i64 kind, .int .i64 key, .int .i64 value] 35 0 (.int .i64 kind) (by simp) rfl).alloc _)
  have x11 : Bx (((w.alloc (.cells #[.slice A0 n0 c0, .slice A1 n1 c1] 39)).alloc (.cells #[.int .i64 kind, .int .i64 key, .int .i64 value] 35)).alloc (.cells #[.slice none 0 0, .slice none 0 0] 39)) (w.heap.size + 1) 1 (.int .i64 key) := ((Bx.new (w.alloc (.cells #[.slice A0 n0 c0, .slice A1 n1 c1] 39)) #[.int .i64 kind, .int .i64 key, .int .i64 value] 35 1 (.int .i64 key) (by simp) rfl).alloc _)
  have x12 : Bx (((w.alloc (.cells #[.slice A0 n0 c0, .slice A1 n1 c1] 39)).alloc (.cells #[.int .i64 kind, .int .i64 key, .int .i64 value] 35)).alloc (.cells #[.slice none 0 0, .slice none 0 0] 39)) (w.heap.size + 1) 2 (.int .i64 value) := ((Bx.new (w.alloc (.cells #[.slice A0 n0 c0, .slice A1 n1 c1] 39)) #[.int .i64 kind, .int .i64 key, .int .i64 value] 35 2 (.int .i64 value) (by simp) rfl).alloc _)
  have x20 : Bx (((w.alloc (.cells #[.slice A0 n0 c0, .slice A1 n1 c1] 39)).alloc (.cells #[.int .i64 kind, .int .i64 key, .int .i64 value] 35)).alloc (.cells #[.slice none 0 0, .slice none 0 0] 39)) (w.heap.size + 1 + 1) 0 (.slice none 0 0) := (Bx.new ((w.alloc (.cells #[.slice A0 n0 c0, .slice A1 n1 c1] 39)).alloc (.cells #[.int .i64 kind, .int .i64 key, .int .i64 value] 35)) #[.slice none 0 0, .slice none 0 0] 39 0 (.slice none 0 0) (by simp) rfl)
  have x21 : Bx (((w.alloc (.cells #[.slice A0 n0 c0, .slice A1 n1 c1] 39)).alloc (.cells #[.int .i64 kind, .int .i64 key, .int .i64 value] 35)).alloc (.cells #[.slice none 0 0, .slice none 0 0] 39)) (w.heap.size + 1 + 1) 1 (.slice none 0 0) := (Bx.new ((w.alloc (.cells #[.slice A0 n0 c0, .slice A1 n1 c1] 39)).alloc (.cells #[.int .i64 kind, .int .i64 key, .int .i64 value] 35)) #[.slice none 0 0, .slice none 0 0] 39 1 (.slice none 0 0) (by simp) rfl)
  have zz0 : (((w.alloc (.cells #[.slice A0 n0 c0, .slice A1 n1 c1] 39)).alloc (.cells #[.int .i64 kind, .int .i64 key, .int .i64 value] 35)).alloc (.cells #[.slice none 0 0, .slice none 0 0] 39)).heap.size = w.heap.size + 3 := by simp
  have hbad : (imageOk m && cmdOk ⟨kind, key, value⟩) = false → Hid (res = (⟨[], []⟩, 0)) := by
    intro h
    show _ = _
    rw [← Hres.out]
    exact runCmd_no h
  have hgood : (imageOk m && cmdOk ⟨kind, key, value⟩) = true → Hid (res = runC m ⟨kind, key, value⟩) := by
    intro h
    show _ = _
    rw [← Hres.out]
    exact runCmd_ok h
  have Hbad := Lib.hid hbad
  have Hgood := Lib.hid hgood
  clear hbad hgood
  obtain ⟨ok, hok⟩ : ∃ ok, imageOk m = ok := ⟨_, rfl⟩
  obtain ⟨ok2, hok2⟩ : ∃ ok2, cmdOk ⟨kind, key, value⟩ = ok2 := ⟨_, rfl⟩
  have Hok := Lib.hid hok
  have Hok2 := Lib.hid hok2
  clear hok hok2
  go_enter Try.func142, Try.ntmps142
  go_wp2_with fail
  generalize (((w.alloc (.cells #[.slice A0 n0 c0, .slice A1 n1 c1] 39)).alloc (.cells #[.int .i64 kind, .int .i64 key, .int .i64 value] 35)).alloc (.cells #[.slice none 0 0, .slice none 0 0] 39)) = W0 at *
  refine (imageOk_s _ m _ B (by exact hr0.keep (keepE' hX0 hB)) (by omega)).mono ?_
  rw [Hok.out]
  rintro e w1 ⟨rfl, hE1⟩
  have hz1 := hE1.size
  replace x00 := Bx.ext x00 hE1
  replace x01 := Bx.ext x01 hE1
  replace x10 := Bx.ext x10 hE1
  replace x11 := Bx.ext x11 hE1
  replace x12 := Bx.ext x12 hE1
  replace x20 := Bx.ext x20 hE1
  replace x21 := Bx.ext x21 hE1
  obtain ⟨p00, f00⟩ := id x00
  obtain ⟨p01, f01⟩ := id x01
  obtain ⟨p10, f10⟩ := id x10
  obtain ⟨p11, f11⟩ := id x11
  obtain ⟨p12, f12⟩ := id x12
  obtain ⟨p20, f20⟩ := id x20
  obtain ⟨p21, f21⟩ := id x21
  have hX1 : Ext w w1 := hX0.trans hE1
  cases ok with
  | false =>
    have hf := Hbad.out (by rw [Hok.out]; rfl)
    go_wp2
    rw [hf.out]
    exact bodyPost_ret (v := .tuple #[.agg #[.slice none 0 0, .slice none 0 0], .int .i64 0]) (by simp [results, Try.results142, go_sem, p20, p21]) rfl ⟨_, rfl, ⟨_, _, rfl, OwnS.nil _, OwnS.nil _⟩, by repeat' (first | with_reducible exact Ext.refl _ | with_reducible assumption | with_reducible refine Ext.set ?_ ?_ _ _ | with_reducible refine Ext.alloc ?_ _ | with_reducible refine Ext.drew ?_ | with_reducible refine Ext.drewN ?_ _ | with_reducible refine Ext.trans ?_ (by with_reducible assumption) | omega | (simp; done) | (simp; omega))⟩
  | true =>
    go_wp2_with fail
    refine (cmdOk_s kind key value _).mono ?_
    rw [Hok2.out]
    rintro e w2 ⟨rfl, hE2⟩
    have hz2 := hE2.size
    clear p00 f00 p01 f01 p10 f10 p11 f11 p12 f12 p20 f20 p21 f21
    replace x00 := Bx.ext x00 hE2
    replace x01 := Bx.ext x01 hE2
    replace x10 := Bx.ext x10 hE2
    replace x11 := Bx.ext x11 hE2
    replace x12 := Bx.ext x12 hE2
    replace x20 := Bx.ext x20 hE2
    replace x21 := Bx.ext x21 hE2
    obtain ⟨p00, f00⟩ := id x00
    obtain ⟨p01, f01⟩ := id x01
    obtain ⟨p10, f10⟩ := id x10
    obtain ⟨p11, f11⟩ := id x11
    obtain ⟨p12, f12⟩ := id x12
    obtain ⟨p20, f20⟩ := id x20
    obtain ⟨p21, f21⟩ := id x21
    have hX2 : Ext w w2 := hX1.trans hE2
    cases ok2 with
    | false =>
      have hf := Hbad.out (by rw [Hok.out, Hok2.out]; rfl)
      go_wp2
      rw [hf.out]
      exact bodyPost_ret (v := .tuple #[.agg #[.slice none 0 0, .slice none 0 0], .int .i64 0]) (by simp [results, Try.results142, go_sem, p20, p21]) rfl ⟨_, rfl, ⟨_, _, rfl, OwnS.nil _, OwnS.nil _⟩, by repeat' (first | with_reducible exact Ext.refl _ | with_reducible assumption | with_reducible refine Ext.set ?_ ?_ _ _ | with_reducible refine Ext.alloc ?_ _ | with_reducible refine Ext.drew ?_ | with_reducible refine Ext.drewN ?_ _ | with_reducible refine Ext.trans ?_ (by with_reducible assumption) | omega | (simp; done) | (simp; omega))⟩
    | true =>
      have hf := Hgood.out (by rw [Hok.out, Hok2.out]; rfl)
      have Hm := Lib.hid (imageOk_iff.1 Hok.out)
      have hnc := Hm.out.nc
      have hns := Hm.out.ns
      obtain ⟨hkinds, hkey, hval⟩ := cmdOk_kinds Hok2.out
      replace hkinds : kind = 1 ∨ kind = 2 ∨ kind = 3 ∨ kind = 4 := hkinds
      replace hkey : 0 ≤ key ∧ key ≤ 1000000000 := hkey
      replace hval : 0 ≤ value ∧ value ≤ 1000000000 := hval
      have hsz : szI m ≤ 2097152 := by unfold szI; omega
      rw [Hl0.out] at hnc
      go_wp2_with fail
      refine (l2Copy_s _ m _ B (by exact hr0.keep (keepE' hX2 hB)) (by omega) hsz).mono ?_
      rintro e w3 ⟨v3, rfl, o3, hE3⟩
      have hz3 := hE3.size
      clear p00 f00 p01 f01 p10 f10 p11 f11 p12 f12 p20 f20 p21 f21
      replace x00 := Bx.ext x00 hE3
      replace x01 := Bx.ext x01 hE3
      replace x10 := Bx.ext x10 hE3
      replace x11 := Bx.ext x11 hE3
      replace x12 := Bx.ext x12 hE3
      replace x20 := Bx.ext x20 hE3
      replace x21 := Bx.ext x21 hE3
      obtain ⟨p00, f00⟩ := id x00
      obtain ⟨p01, f01⟩ := id x01
      obtain ⟨p10, f10⟩ := id x10
      obtain ⟨p11, f11⟩ := id x11
      obtain ⟨p12, f12⟩ := id x12
      obtain ⟨p20, f20⟩ := id x20
      obtain ⟨p21, f21⟩ := id x21
      have hX3 : Ext w w3 := hX2.trans hE3
      obtain ⟨u3, s3, rfl, k1, k2⟩ := o3
      obtain ⟨A2, n2, c2, hv2, -⟩ := id k1
      obtain ⟨A3, n3, c3, hv3, -⟩ := id k2
      subst hv2 hv3
      have y0 := Bx.new w3 #[.slice A2 n2 c2, .slice A3 n3 c3] 39 0 _ rfl rfl
      have y1 := Bx.new w3 #[.slice A2 n2 c2, .slice A3 n3 c3] 39 1 _ rfl rfl
      have hlt0 := Bx.lt x00
      have hlt1 := Bx.lt x10
      have hlt2 := Bx.lt x20
      go_wp2_with fail
      refine (cellAt_s _ m key _ B (by exact hr0.keep (keepE' (hX3.alloc _) hB)) (by simp; omega) (by omega)).mono ?_
      rintro e w4 ⟨rfl, hE4⟩
      have hz4 := hE4.size
      simp only [World.size_alloc] at hz4
      have hE4' : Ext w3 w4 := ((Ext.refl w3).alloc _).trans hE4
      clear p00 f00 p01 f01 p10 f10 p11 f11 p12 f12 p20 f20 p21 f21
      replace x00 := Bx.ext x00 hE4'
      replace x01 := Bx.ext x01 hE4'
      replace x10 := Bx.ext x10 hE4'
      replace x11 := Bx.ext x11 hE4'
      replace x12 := Bx.ext x12 hE4'
      replace x20 := Bx.ext x20 hE4'
      replace x21 := Bx.ext x21 hE4'
      obtain ⟨p00, f00⟩ := id x00
      obtain ⟨p01, f01⟩ := id x01
      obtain ⟨p10, f10⟩ := id x10
      obtain ⟨p11, f11⟩ := id x11
      obtain ⟨p12, f12⟩ := id x12
      obtain ⟨p20, f20⟩ := id x20
      obtain ⟨p21, f21⟩ := id x21
      replace y0 := Bx.ext y0 hE4
      replace y1 := Bx.ext y1 hE4
      obtain ⟨r0, t0⟩ := id y0
      obtain ⟨r1, t1⟩ := id y1
      have hX4 : Ext w w4 := hX3.trans hE4'
      replace k1 := k1.keep (keepE hE4' (Nat.le_refl _))
      replace k2 := k2.keep (keepE hE4' (Nat.le_refl _))
      rw [cellAt_ok Hok.out]
      have hge := getC_ge Hm.out.cells key
      generalize hold : getC m.cells key = old at hge ⊢
      have Hold := Lib.hid hold
      have hucur := hu.keep (keepE' hX4 hB)
      clear hold hE4 hE4' hE3 hE2 hE1
      rcases hkinds with rfl | hkinds
      · -- get
        have hf2 : Hid (res = (m, old)) := by
          show _ = _
          rw [hf.out, ← Hold.out]
          exact runC_get rfl
        go_wp2
        rw [hf2.out]
        exact bodyPost_ret (v := .tuple #[.agg #[.slice A2 n2 c2, .slice A3 n3 c3], .int .i64 old]) (by simp [results, Try.results142, go_sem, p20, p21]) rfl ⟨_, rfl, ⟨_, _, rfl, (O_CellS.keep k1 (show Kp _ _ _ _ by repeat' (first | with_reducible exact Kp.refl _ _ _ | with_reducible assumption | with_reducible refine Kp.set ?_ ?_ _ _ | with_reducible refine Kp.alloc ?_ ?_ _ | with_reducible refine Kp.drew ?_ | with_reducible refine Kp.drewN ?_ _ | with_reducible refine Kp.ext ?_ ?_ (by with_reducible assumption) | with_reducible refine Kp.fr ?_ ?_ ?_ (by with_reducible assumption) | omega | (simp; done) | (simp; omega)))).wide (by omega) (by simp; omega), (O_SeatS.keep k2 (show Kp _ _ _ _ by repeat' (first | with_reducible exact Kp.refl _ _ _ | with_reducible assumption | with_reducible refine Kp.set ?_ ?_ _ _ | with_reducible refine Kp.alloc ?_ ?_ _ | with_reducible refine Kp.drew ?_ | with_reducible refine Kp.drewN ?_ _ | with_reducible refine Kp.ext ?_ ?_ (by with_reducible assumption) | with_reducible refine Kp.fr ?_ ?_ ?_ (by with_reducible assumption) | omega | (simp; done) | (simp; omega)))).wide (by omega) (by simp; omega)⟩, by repeat' (first | with_reducible exact Ext.refl _ | with_reducible assumption | with_reducible refine Ext.set ?_ ?_ _ _ | with_reducible refine Ext.alloc ?_ _ | with_reducible refine Ext.drew ?_ | with_reducible refine Ext.drewN ?_ _ | with_reducible refine Ext.trans ?_ (by with_reducible assumption) | omega | (simp; done) | (simp; omega))⟩
      by_cases h4 : kind = 4
      · subst h4
        have hf2 : Hid (res = (⟨l2K CellD.key ⟨key, 0⟩ true m.cells, m.seats⟩, old)) := by
          show _ = _
          rw [hf.out, ← Hold.out, l2K_true]
          exact runC_drop rfl
        go_wp2_with fail
        refine (l2Cells_s _ m.cells key 0 false _ B hucur (by omega) (by rw [Hl0.out]; omega)).mono ?_
        rintro e w5 ⟨v5, rfl, o5, hE5⟩
        have hz5 := hE5.size
        clear p00 f00 p01 f01 p10 f10 p11 f11 p12 f12 p20 f20 p21 f21
        replace x00 := Bx.ext x00 hE5
        replace x01 := Bx.ext x01 hE5
        replace x10 := Bx.ext x10 hE5
        replace x11 := Bx.ext x11 hE5
        replace x12 := Bx.ext x12 hE5
        replace x20 := Bx.ext x20 hE5
        replace x21 := Bx.ext x21 hE5
        obtain ⟨p00, f00⟩ := id x00
        obtain ⟨p01, f01⟩ := id x01
        obtain ⟨p10, f10⟩ := id x10
        obtain ⟨p11, f11⟩ := id x11
        obtain ⟨p12, f12⟩ := id x12
        obtain ⟨p20, f20⟩ := id x20
        obtain ⟨p21, f21⟩ := id x21
        replace y0 := Bx.ext y0 hE5
        replace y1 := Bx.ext y1 hE5
        obtain ⟨r0, t0⟩ := id y0
        obtain ⟨r1, t1⟩ := id y1
        obtain ⟨A4, n4, c4, hv4, -⟩ := id o5
        subst hv4
        replace k2 := k2.keep (keepE hE5 (by omega))
        have hX5 : Ext w w5 := hX4.trans hE5
        have hg1 : ¬ (w.heap.size = w3.heap.size) := by omega
        have hg2 : ¬ (w.heap.size + 1 = w3.heap.size) := by omega
        have hg3 : ¬ (w.heap.size + 1 + 1 = w3.heap.size) := by omega
        clear k1 hE5
        go_wp2
        rw [hf2.out]
        exact bodyPost_ret (v := .tuple #[.agg #[.slice A4 n4 c4, .slice A3 n3 c3], .int .i64 old]) (by simp [results, Try.results142, go_sem, p20, p21]) rfl ⟨_, rfl, ⟨_, _, rfl, (O_CellS.keep o5 (show Kp _ _ _ _ by repeat' (first | with_reducible exact Kp.refl _ _ _ | with_reducible assumption | with_reducible refine Kp.set ?_ ?_ _ _ | with_reducible refine Kp.alloc ?_ ?_ _ | with_reducible refine Kp.drew ?_ | with_reducible refine Kp.drewN ?_ _ | with_reducible refine Kp.ext ?_ ?_ (by with_reducible assumption) | with_reducible refine Kp.fr ?_ ?_ ?_ (by with_reducible assumption) | omega | (simp; done) | (simp; omega)))).wide (by omega) (by simp), (O_SeatS.keep k2 (show Kp _ _ _ _ by repeat' (first | with_reducible exact Kp.refl _ _ _ | with_reducible assumption | with_reducible refine Kp.set ?_ ?_ _ _ | with_reducible refine Kp.alloc ?_ ?_ _ | with_reducible refine Kp.drew ?_ | with_reducible refine Kp.drewN ?_ _ | with_reducible refine Kp.ext ?_ ?_ (by with_reducible assumption) | with_reducible refine Kp.fr ?_ ?_ ?_ (by with_reducible assumption) | omega | (simp; done) | (simp; omega)))).wide (by omega) (by simp; omega)⟩, by repeat' (first | with_reducible exact Ext.refl _ | with_reducible assumption | with_reducible refine Ext.set ?_ ?_ _ _ | with_reducible refine Ext.alloc ?_ _ | with_reducible refine Ext.drew ?_ | with_reducible refine Ext.drewN ?_ _ | with_reducible refine Ext.trans ?_ (by with_reducible assumption) | omega | (simp; done) | (simp; omega))⟩
      have hk1 : ¬ kind = 1 := by omega
      have hk2 : kind = 2 ∨ kind = 3 := by omega
      obtain ⟨y, hy⟩ : ∃ y, (if kind = 3 then value + max old 0 else value) = y := ⟨_, rfl⟩
      have hy0 : 0 ≤ y ∧ y ≤ 2000000000 := by rw [← hy]; split <;> omega
      have hfull : (old < 0 ∧ m.cells.length = 40) ∨ 1000000000 < y → Hid (res = (m, -1)) := by
        intro h
        show _ = _
        rw [hf.out]
        have Ho := Hold.out
        exact runC_full (c := ⟨kind, key, value⟩) (v := y) hk1 h4 (by show (if kind = 3 then value + max (getC m.cells key) 0 else value) = y; rw [Ho]; exact hy) (by show (getC m.cells key < 0 ∧ m.cells.length = 40) ∨ 1000000000 < y; rw [Ho]; exact h)
      have hput : ¬ ((old < 0 ∧ m.cells.length = 40) ∨ 1000000000 < y) → Hid (res = (⟨l2K CellD.key ⟨key, y⟩ false m.cells, m.seats⟩, y)) := by
        intro h
        show _ = _
        rw [hf.out, l2K_false _ _ Hm.out.cells.asc.1]
        have Ho := Hold.out
        exact runC_put (c := ⟨kind, key, value⟩) (v := y) hk1 h4 (by show (if kind = 3 then value + max (getC m.cells key) 0 else value) = y; rw [Ho]; exact hy) (by show ¬ ((getC m.cells key < 0 ∧ m.cells.length = 40) ∨ 1000000000 < y); rw [Ho]; exact h)
      rw [Hl0.out] at hfull hput
      have Hfull := Lib.hid hfull
      have Hput := Lib.hid hput
      clear hfull hput h4 hkinds hk1
      rcases hk2 with rfl | rfl
      · rw [if_neg (by omega)] at hy
        subst hy
        by_cases hneg : old < 0
        · skip
          by_cases hn40 : n0 = 40
          · have e1 : ((n0 : Int) == 40) = true := by simp [hn40]
            have e2 : (n0 == 40) = true := by simp [hn40]
            have Hn40 := Lib.hid hn40
            clear hn40
            have hf2 := Hfull.out (by have := Hn40.out; omega)
            skip
            go_wp2
            rw [hf2.out]
            exact bodyPost_ret (v := .tuple #[.agg #[.slice A2 n2 c2, .slice A3 n3 c3], .int .i64 (-1)]) (by simp [results, Try.results142, go_sem, p20, p21]) rfl ⟨_, rfl, ⟨_, _, rfl, (O_CellS.keep k1 (show Kp _ _ _ _ by repeat' (first | with_reducible exact Kp.refl _ _ _ | with_reducible assumption | with_reducible refine Kp.set ?_ ?_ _ _ | with_reducible refine Kp.alloc ?_ ?_ _ | with_reducible refine Kp.drew ?_ | with_reducible refine Kp.drewN ?_ _ | with_reducible refine Kp.ext ?_ ?_ (by with_reducible assumption) | with_reducible refine Kp.fr ?_ ?_ ?_ (by with_reducible assumption) | omega | (simp; done) | (simp; omega)))).wide (by omega) (by simp; omega), (O_SeatS.keep k2 (show Kp _ _ _ _ by repeat' (first | with_reducible exact Kp.refl _ _ _ | with_reducible assumption | with_reducible refine Kp.set ?_ ?_ _ _ | with_reducible refine Kp.alloc ?_ ?_ _ | with_reducible refine Kp.drew ?_ | with_reducible refine Kp.drewN ?_ _ | with_reducible refine Kp.ext ?_ ?_ (by with_reducible assumption) | with_reducible refine Kp.fr ?_ ?_ ?_ (by with_reducible assumption) | omega | (simp; done) | (simp; omega)))).wide (by omega) (by simp; omega)⟩, by repeat' (first | with_reducible exact Ext.refl _ | with_reducible assumption | with_reducible refine Ext.set ?_ ?_ _ _ | with_reducible refine Ext.alloc ?_ _ | with_reducible refine Ext.drew ?_ | with_reducible refine Ext.drewN ?_ _ | with_reducible refine Ext.trans ?_ (by with_reducible assumption) | omega | (simp; done) | (simp; omega))⟩
          · have e1 : ((n0 : Int) == 40) = false := by simp; omega
            have e2 : (n0 == 40) = false := by simp; omega
            have hf2 := Hput.out (by omega)
            skip
            go_wp2_with fail
            refine (l2Cells_s _ m.cells key value true _ B hucur (by omega) (by rw [Hl0.out]; omega)).mono ?_
            rintro e w5 ⟨v5, rfl, o5, hE5⟩
            have hz5 := hE5.size
            clear p00 f00 p01 f01 p10 f10 p11 f11 p12 f12 p20 f20 p21 f21
            replace x00 := Bx.ext x00 hE5
            replace x01 := Bx.ext x01 hE5
            replace x10 := Bx.ext x10 hE5
            replace x11 := Bx.ext x11 hE5
            replace x12 := Bx.ext x12 hE5
            replace x20 := Bx.ext x20 hE5
            replace x21 := Bx.ext x21 hE5
            obtain ⟨p00, f00⟩ := id x00
            obtain ⟨p01, f01⟩ := id x01
            obtain ⟨p10, f10⟩ := id x10
            obtain ⟨p11, f11⟩ := id x11
            obtain ⟨p12, f12⟩ := id x12
            obtain ⟨p20, f20⟩ := id x20
            obtain ⟨p21, f21⟩ := id x21
            replace y0 := Bx.ext y0 hE5
            replace y1 := Bx.ext y1 hE5
            obtain ⟨r0, t0⟩ := id y0
            obtain ⟨r1, t1⟩ := id y1
            obtain ⟨A4, n4, c4, hv4, -⟩ := id o5
            subst hv4
            replace k2 := k2.keep (keepE hE5 (by omega))
            have hX5 : Ext w w5 := hX4.trans hE5
            have hg1 : ¬ (w.heap.size = w3.heap.size) := by omega
            have hg2 : ¬ (w.heap.size + 1 = w3.heap.size) := by omega
            have hg3 : ¬ (w.heap.size + 1 + 1 = w3.heap.size) := by omega
            clear k1 hE5
            go_wp2
            rw [hf2.out]
            exact bodyPost_ret (v := .tuple #[.agg #[.slice A4 n4 c4, .slice A3 n3 c3], .int .i64 value]) (by simp [results, Try.results142, go_sem, p20, p21]) rfl ⟨_, rfl, ⟨_, _, rfl, (O_CellS.keep o5 (show Kp _ _ _ _ by repeat' (first | with_reducible exact Kp.refl _ _ _ | with_reducible assumption | with_reducible refine Kp.set ?_ ?_ _ _ | with_reducible refine Kp.alloc ?_ ?_ _ | with_reducible refine Kp.drew ?_ | with_reducible refine Kp.drewN ?_ _ | with_reducible refine Kp.ext ?_ ?_ (by with_reducible assumption) | with_reducible refine Kp.fr ?_ ?_ ?_ (by with_reducible assumption) | omega | (simp; done) | (simp; omega)))).wide (by omega) (by simp), (O_SeatS.keep k2 (show Kp _ _ _ _ by repeat' (first | with_reducible exact Kp.refl _ _ _ | with_reducible assumption | with_reducible refine Kp.set ?_ ?_ _ _ | with_reducible refine Kp.alloc ?_ ?_ _ | with_reducible refine Kp.drew ?_ | with_reducible refine Kp.drewN ?_ _ | with_reducible refine Kp.ext ?_ ?_ (by with_reducible assumption) | with_reducible refine Kp.fr ?_ ?_ ?_ (by with_reducible assumption) | omega | (simp; done) | (simp; omega)))).wide (by omega) (by simp; omega)⟩, by repeat' (first | with_reducible exact Ext.refl _ | with_reducible assumption | with_reducible refine Ext.set ?_ ?_ _ _ | with_reducible refine Ext.alloc ?_ _ | with_reducible refine Ext.drew ?_ | with_reducible refine Ext.drewN ?_ _ | with_reducible refine Ext.trans ?_ (by with_reducible assumption) | omega | (simp; done) | (simp; omega))⟩
        · skip
          have hf2 := Hput.out (by omega)
          skip
          go_wp2_with fail
          refine (l2Cells_s _ m.cells key value true _ B hucur (by omega) (by rw [Hl0.out]; omega)).mono ?_
          rintro e w5 ⟨v5, rfl, o5, hE5⟩
          have hz5 := hE5.size
          clear p00 f00 p01 f01 p10 f10 p11 f11 p12 f12 p20 f20 p21 f21
          replace x00 := Bx.ext x00 hE5
          replace x01 := Bx.ext x01 hE5
          replace x10 := Bx.ext x10 hE5
          replace x11 := Bx.ext x11 hE5
          replace x12 := Bx.ext x12 hE5
          replace x20 := Bx.ext x20 hE5
          replace x21 := Bx.ext x21 hE5
          obtain ⟨p00, f00⟩ := id x00
          obtain ⟨p01, f01⟩ := id x01
          obtain ⟨p10, f10⟩ := id x10
          obtain ⟨p11, f11⟩ := id x11
          obtain ⟨p12, f12⟩ := id x12
          obtain ⟨p20, f20⟩ := id x20
          obtain ⟨p21, f21⟩ := id x21
          replace y0 := Bx.ext y0 hE5
          replace y1 := Bx.ext y1 hE5
          obtain ⟨r0, t0⟩ := id y0
          obtain ⟨r1, t1⟩ := id y1
          obtain ⟨A4, n4, c4, hv4, -⟩ := id o5
          subst hv4
          replace k2 := k2.keep (keepE hE5 (by omega))
          have hX5 : Ext w w5 := hX4.trans hE5
          have hg1 : ¬ (w.heap.size = w3.heap.size) := by omega
          have hg2 : ¬ (w.heap.size + 1 = w3.heap.size) := by omega
          have hg3 : ¬ (w.heap.size + 1 + 1 = w3.heap.size) := by omega
          clear k1 hE5
          go_wp2
          rw [hf2.out]
          exact bodyPost_ret (v := .tuple #[.agg #[.slice A4 n4 c4, .slice A3 n3 c3], .int .i64 value]) (by simp [results, Try.results142, go_sem, p20, p21]) rfl ⟨_, rfl, ⟨_, _, rfl, (O_CellS.keep o5 (show Kp _ _ _ _ by repeat' (first | with_reducible exact Kp.refl _ _ _ | with_reducible assumption | with_reducible refine Kp.set ?_ ?_ _ _ | with_reducible refine Kp.alloc ?_ ?_ _ | with_reducible refine Kp.drew ?_ | with_reducible refine Kp.drewN ?_ _ | with_reducible refine Kp.ext ?_ ?_ (by with_reducible assumption) | with_reducible refine Kp.fr ?_ ?_ ?_ (by with_reducible assumption) | omega | (simp; done) | (simp; omega)))).wide (by omega) (by simp), (O_SeatS.keep k2 (show Kp _ _ _ _ by repeat' (first | with_reducible exact Kp.refl _ _ _ | with_reducible assumption | with_reducible refine Kp.set ?_ ?_ _ _ | with_reducible refine Kp.alloc ?_ ?_ _ | with_reducible refine Kp.drew ?_ | with_reducible refine Kp.drewN ?_ _ | with_reducible refine Kp.ext ?_ ?_ (by with_reducible assumption) | with_reducible refine Kp.fr ?_ ?_ ?_ (by with_reducible assumption) | omega | (simp; done) | (simp; omega)))).wide (by omega) (by simp; omega)⟩, by repeat' (first | with_reducible exact Ext.refl _ | with_reducible assumption | with_reducible refine Ext.set ?_ ?_ _ _ | with_reducible refine Ext.alloc ?_ _ | with_reducible refine Ext.drew ?_ | with_reducible refine Ext.drewN ?_ _ | with_reducible refine Ext.trans ?_ (by with_reducible assumption) | omega | (simp; done) | (simp; omega))⟩
      · rw [if_pos rfl] at hy
        by_cases hneg : old < 0
        · rw [max_neg hneg] at hy
          have hmx := Lib.hid (max_neg hneg)
          obtain rfl : value = y := by omega
          by_cases hn40 : n0 = 40
          · have e1 : ((n0 : Int) == 40) = true := by simp [hn40]
            have e2 : (n0 == 40) = true := by simp [hn40]
            have Hn40 := Lib.hid hn40
            clear hn40
            have hf2 := Hfull.out (by have := Hn40.out; omega)
            clear hy
            go_wp2_with fail
            refine (l1Max_any _ _ _).mono ?_
            rintro e wm ⟨rfl, rfl⟩
            rw [hmx.out]
            go_wp2
            rw [hf2.out]
            exact bodyPost_ret (v := .tuple #[.agg #[.slice A2 n2 c2, .slice A3 n3 c3], .int .i64 (-1)]) (by simp [results, Try.results142, go_sem, p20, p21]) rfl ⟨_, rfl, ⟨_, _, rfl, (O_CellS.keep k1 (show Kp _ _ _ _ by repeat' (first | with_reducible exact Kp.refl _ _ _ | with_reducible assumption | with_reducible refine Kp.set ?_ ?_ _ _ | with_reducible refine Kp.alloc ?_ ?_ _ | with_reducible refine Kp.drew ?_ | with_reducible refine Kp.drewN ?_ _ | with_reducible refine Kp.ext ?_ ?_ (by with_reducible assumption) | with_reducible refine Kp.fr ?_ ?_ ?_ (by with_reducible assumption) | omega | (simp; done) | (simp; omega)))).wide (by omega) (by simp; omega), (O_SeatS.keep k2 (show Kp _ _ _ _ by repeat' (first | with_reducible exact Kp.refl _ _ _ | with_reducible assumption | with_reducible refine Kp.set ?_ ?_ _ _ | with_reducible refine Kp.alloc ?_ ?_ _ | with_reducible refine Kp.drew ?_ | with_reducible refine Kp.drewN ?_ _ | with_reducible refine Kp.ext ?_ ?_ (by with_reducible assumption) | with_reducible refine Kp.fr ?_ ?_ ?_ (by with_reducible assumption) | omega | (simp; done) | (simp; omega)))).wide (by omega) (by simp; omega)⟩, by repeat' (first | with_reducible exact Ext.refl _ | with_reducible assumption | with_reducible refine Ext.set ?_ ?_ _ _ | with_reducible refine Ext.alloc ?_ _ | with_reducible refine Ext.drew ?_ | with_reducible refine Ext.drewN ?_ _ | with_reducible refine Ext.trans ?_ (by with_reducible assumption) | omega | (simp; done) | (simp; omega))⟩
          · have e1 : ((n0 : Int) == 40) = false := by simp; omega
            have e2 : (n0 == 40) = false := by simp; omega
            have hf2 := Hput.out (by omega)
            clear hy
            go_wp2_with fail
            refine (l1Max_any _ _ _).mono ?_
            rintro e wm ⟨rfl, rfl⟩
            rw [hmx.out]
            go_wp2_with fail
            refine (l2Cells_s _ m.cells key value true _ B hucur (by omega) (by rw [Hl0.out]; omega)).mono ?_
            rintro e w5 ⟨v5, rfl, o5, hE5⟩
            have hz5 := hE5.size
            clear p00 f00 p01 f01 p10 f10 p11 f11 p12 f12 p20 f20 p21 f21
            replace x00 := Bx.ext x00 hE5
            replace x01 := Bx.ext x01 hE5
            replace x10 := Bx.ext x10 hE5
            replace x11 := Bx.ext x11 hE5
            replace x12 := Bx.ext x12 hE5
            replace x20 := Bx.ext x20 hE5
            replace x21 := Bx.ext x21 hE5
            obtain ⟨p00, f00⟩ := id x00
            obtain ⟨p01, f01⟩ := id x01
            obtain ⟨p10, f10⟩ := id x10
            obtain ⟨p11, f11⟩ := id x11
            obtain ⟨p12, f12⟩ := id x12
            obtain ⟨p20, f20⟩ := id x20
            obtain ⟨p21, f21⟩ := id x21
            replace y0 := Bx.ext y0 hE5
            replace y1 := Bx.ext y1 hE5
            obtain ⟨r0, t0⟩ := id y0
            obtain ⟨r1, t1⟩ := id y1
            obtain ⟨A4, n4, c4, hv4, -⟩ := id o5
            subst hv4
            replace k2 := k2.keep (keepE hE5 (by omega))
            have hX5 : Ext w w5 := hX4.trans hE5
            have hg1 : ¬ (w.heap.size = w3.heap.size) := by omega
            have hg2 : ¬ (w.heap.size + 1 = w3.heap.size) := by omega
            have hg3 : ¬ (w.heap.size + 1 + 1 = w3.heap.size) := by omega
            clear k1 hE5
            go_wp2
            rw [hf2.out]
            exact bodyPost_ret (v := .tuple #[.agg #[.slice A4 n4 c4, .slice A3 n3 c3], .int .i64 value]) (by simp [results, Try.results142, go_sem, p20, p21]) rfl ⟨_, rfl, ⟨_, _, rfl, (O_CellS.keep o5 (show Kp _ _ _ _ by repeat' (first | with_reducible exact Kp.refl _ _ _ | with_reducible assumption | with_reducible refine Kp.set ?_ ?_ _ _ | with_reducible refine Kp.alloc ?_ ?_ _ | with_reducible refine Kp.drew ?_ | with_reducible refine Kp.drewN ?_ _ | with_reducible refine Kp.ext ?_ ?_ (by with_reducible assumption) | with_reducible refine Kp.fr ?_ ?_ ?_ (by with_reducible assumption) | omega | (simp; done) | (simp; omega)))).wide (by omega) (by simp), (O_SeatS.keep k2 (show Kp _ _ _ _ by repeat' (first | with_reducible exact Kp.refl _ _ _ | with_reducible assumption | with_reducible refine Kp.set ?_ ?_ _ _ | with_reducible refine Kp.alloc ?_ ?_ _ | with_reducible refine Kp.drew ?_ | with_reducible refine Kp.drewN ?_ _ | with_reducible refine Kp.ext ?_ ?_ (by with_reducible assumption) | with_reducible refine Kp.fr ?_ ?_ ?_ (by with_reducible assumption) | omega | (simp; done) | (simp; omega)))).wide (by omega) (by simp; omega)⟩, by repeat' (first | with_reducible exact Ext.refl _ | with_reducible assumption | with_reducible refine Ext.set ?_ ?_ _ _ | with_reducible refine Ext.alloc ?_ _ | with_reducible refine Ext.drew ?_ | with_reducible refine Ext.drewN ?_ _ | with_reducible refine Ext.trans ?_ (by with_reducible assumption) | omega | (simp; done) | (simp; omega))⟩
        · rw [max_pos hneg] at hy
          have hmx := Lib.hid (max_pos hneg)
          subst hy
          have hnneg : 0 ≤ old := by omega
          by_cases hb : 1000000000 < value + old
          · skip
            have hf2 := Hfull.out (by omega)
            skip
            go_wp2_with fail
            refine (l1Max_any _ _ _).mono ?_
            rintro e wm ⟨rfl, rfl⟩
            rw [hmx.out]
            go_wp2
            rw [hf2.out]
            exact bodyPost_ret (v := .tuple #[.agg #[.slice A2 n2 c2, .slice A3 n3 c3], .int .i64 (-1)]) (by simp [results, Try.results142, go_sem, p20, p21]) rfl ⟨_, rfl, ⟨_, _, rfl, (O_CellS.keep k1 (show Kp _ _ _ _ by repeat' (first | with_reducible exact Kp.refl _ _ _ | with_reducible assumption | with_reducible refine Kp.set ?_ ?_ _ _ | with_reducible refine Kp.alloc ?_ ?_ _ | with_reducible refine Kp.drew ?_ | with_reducible refine Kp.drewN ?_ _ | with_reducible refine Kp.ext ?_ ?_ (by with_reducible assumption) | with_reducible refine Kp.fr ?_ ?_ ?_ (by with_reducible assumption) | omega | (simp; done) | (simp; omega)))).wide (by omega) (by simp; omega), (O_SeatS.keep k2 (show Kp _ _ _ _ by repeat' (first | with_reducible exact Kp.refl _ _ _ | with_reducible assumption | with_reducible refine Kp.set ?_ ?_ _ _ | with_reducible refine Kp.alloc ?_ ?_ _ | with_reducible refine Kp.drew ?_ | with_reducible refine Kp.drewN ?_ _ | with_reducible refine Kp.ext ?_ ?_ (by with_reducible assumption) | with_reducible refine Kp.fr ?_ ?_ ?_ (by with_reducible assumption) | omega | (simp; done) | (simp; omega)))).wide (by omega) (by simp; omega)⟩, by repeat' (first | with_reducible exact Ext.refl _ | with_reducible assumption | with_reducible refine Ext.set ?_ ?_ _ _ | with_reducible refine Ext.alloc ?_ _ | with_reducible refine Ext.drew ?_ | with_reducible refine Ext.drewN ?_ _ | with_reducible refine Ext.trans ?_ (by with_reducible assumption) | omega | (simp; done) | (simp; omega))⟩
          · skip
            have hf2 := Hput.out (by omega)
            skip
            go_wp2_with fail
            refine (l1Max_any _ _ _).mono ?_
            rintro e wm ⟨rfl, rfl⟩
            rw [hmx.out]
            go_wp2_with fail
            refine (l2Cells_s _ m.cells key (value + old) true _ B hucur (by omega) (by rw [Hl0.out]; omega)).mono ?_
            rintro e w5 ⟨v5, rfl, o5, hE5⟩
            have hz5 := hE5.size
            clear p00 f00 p01 f01 p10 f10 p11 f11 p12 f12 p20 f20 p21 f21
            replace x00 := Bx.ext x00 hE5
            replace x01 := Bx.ext x01 hE5
            replace x10 := Bx.ext x10 hE5
            replace x11 := Bx.ext x11 hE5
            replace x12 := Bx.ext x12 hE5
            replace x20 := Bx.ext x20 hE5
            replace x21 := Bx.ext x21 hE5
            obtain ⟨p00, f00⟩ := id x00
            obtain ⟨p01, f01⟩ := id x01
            obtain ⟨p10, f10⟩ := id x10
            obtain ⟨p11, f11⟩ := id x11
            obtain ⟨p12, f12⟩ := id x12
            obtain ⟨p20, f20⟩ := id x20
            obtain ⟨p21, f21⟩ := id x21
            replace y0 := Bx.ext y0 hE5
            replace y1 := Bx.ext y1 hE5
            obtain ⟨r0, t0⟩ := id y0
            obtain ⟨r1, t1⟩ := id y1
            obtain ⟨A4, n4, c4, hv4, -⟩ := id o5
            subst hv4
            replace k2 := k2.keep (keepE hE5 (by omega))
            have hX5 : Ext w w5 := hX4.trans hE5
            have hg1 : ¬ (w.heap.size = w3.heap.size) := by omega
            have hg2 : ¬ (w.heap.size + 1 = w3.heap.size) := by omega
            have hg3 : ¬ (w.heap.size + 1 + 1 = w3.heap.size) := by omega
            clear k1 hE5
            go_wp2
            rw [hf2.out]
            exact bodyPost_ret (v := .tuple #[.agg #[.slice A4 n4 c4, .slice A3 n3 c3], .int .i64 (value + old)]) (by simp [results, Try.results142, go_sem, p20, p21]) rfl ⟨_, rfl, ⟨_, _, rfl, (O_CellS.keep o5 (show Kp _ _ _ _ by repeat' (first | with_reducible exact Kp.refl _ _ _ | with_reducible assumption | with_reducible refine Kp.set ?_ ?_ _ _ | with_reducible refine Kp.alloc ?_ ?_ _ | with_reducible refine Kp.drew ?_ | with_reducible refine Kp.drewN ?_ _ | with_reducible refine Kp.ext ?_ ?_ (by with_reducible assumption) | with_reducible refine Kp.fr ?_ ?_ ?_ (by with_reducible assumption) | omega | (simp; done) | (simp; omega)))).wide (by omega) (by simp), (O_SeatS.keep k2 (show Kp _ _ _ _ by repeat' (first | with_reducible exact Kp.refl _ _ _ | with_reducible assumption | with_reducible refine Kp.set ?_ ?_ _ _ | with_reducible refine Kp.alloc ?_ ?_ _ | with_reducible refine Kp.drew ?_ | with_reducible refine Kp.drewN ?_ _ | with_reducible refine Kp.ext ?_ ?_ (by with_reducible assumption) | with_reducible refine Kp.fr ?_ ?_ ?_ (by with_reducible assumption) | omega | (simp; done) | (simp; omega)))).wide (by omega) (by simp; omega)⟩, by repeat' (first | with_reducible exact Ext.refl _ | with_reducible assumption | with_reducible refine Ext.set ?_ ?_ _ _ | with_reducible refine Ext.alloc ?_ _ | with_reducible refine Ext.drew ?_ | with_reducible refine Ext.drewN ?_ _ | with_reducible refine Ext.trans ?_ (by with_reducible assumption) | omega | (simp; done) | (simp; omega))⟩

theorem runCmd_nk (m : ImageD) (c : CmdD) : NK_Image (runCmd m c).1 ≤ 4194304 := by
  cases h : imageOk m && cmdOk c with
  | false =>
    rw [runCmd_no h]
    simp [NK_Image, NK_CellS, NK_SeatS]
  | true =>
    rw [runCmd_ok h]
    simp only [Bool.and_eq_true] at h
    have hm := imageOk_iff.1 h.1
    obtain ⟨_, h1, h2, _⟩ := runC_good hm h.2
    have := hm.ns
    unfold NK_Image NK_CellS NK_SeatS
    rw [h2]
    omega

end Go.Proofs.Ytbfbdhjeoknjkaa
