/-
  RunAll, the program's and the reference's, walked.
-/
import Derived.Test.YtbfbdhjeoknjkaaRunE
import Derived.Test.YtbfbdhjeoknjkaaEntries
import Derived.Test.YtbfbdhjeoknjkaaMg1
import Derived.Deep.DeepCutAuto
import Derived.Deep.RegionHeld3
namespace Go.Proofs.Ytbfbdhjeoknjkaa
open Go.RowKit

theorem runGo_cons {m : ImageD} {ans : List Int} {e : EntryD} {l : List EntryD} {m2 : ImageD} {a : Int} {c : Nat} (h : runEntry m e = (m2, a, c)) : runGo m ans (e :: l) = runGo (if c = 1 then m else m2) (ans ++ [a]) l := by
  rw [runGo, h]
theorem runGo_len : ∀ (l : List EntryD) (m : ImageD) (ans : List Int), (runGo m ans l).2.length = ans.length + l.length := by
  intro l
  induction l with
  | nil => intro m ans; simp [runGo]
  | cons e l ih => intro m ans; rw [runGo, ih]; simp; omega
theorem szI_good {m : ImageD} (h : GoodI m) : szI m ≤ 50 := by
  have h1 := h.nc
  have h2 := h.ns
  unfold szI
  omega
theorem runGo_szI : ∀ (l : List EntryD) (m : ImageD) (ans : List Int) (b : Nat), szI m ≤ b → 50 ≤ b → szI (runGo m ans l).1 ≤ b := by
  intro l
  induction l with
  | nil => intro m ans b h _; simpa [runGo] using h
  | cons e l ih =>
    intro m ans b h hb
    rw [runGo]
    refine ih _ _ _ ?_ hb
    split
    · exact h
    · cases hk : imageOk m && entryOk e with
      | false => rw [runE_bad hk]; simp [szI]
      | true =>
        simp only [Bool.and_eq_true] at hk
        exact Nat.le_trans (szI_good (runEntry_good (imageOk_iff.1 hk.1) hk.2)) hb
theorem runAll_szI (m : ImageD) (l : List EntryD) (b : Nat) (h : szI m ≤ b) (hb : 50 ≤ b) : szI (runAll m l).1 ≤ b := by
  unfold runAll
  split
  · exact runGo_szI l m [] b h hb
  · exact h
theorem runAll_len (m : ImageD) (l : List EntryD) : (runAll m l).2.length ≤ 60 := by
  unfold runAll
  split
  · rw [runGo_len]; simp; omega
  · simp
theorem runAll_ok {m : ImageD} {l : List EntryD} (h : l.length ≤ 60) : runAll m l = runGo m [] l := by simp [runAll, h]
theorem runAll_no {m : ImageD} {l : List EntryD} (h : ¬ l.length ≤ 60) : runAll m l = (m, []) := by simp [runAll, h]


set_option maxRecDepth 100000 in
set_option maxHeartbeats 8000000 in
theorem runAll_s (v t : Value) (m : ImageD) (l : List EntryD) (w : World) (B : Nat) (hr : R_Image w B v m) (ht : R_EntryS w B t l) (hB : B ≤ w.heap.size) (hm : szI m ≤ 2097152) (hn : l.length ≤ 2097152) :
    Calls Try.prog 136 #[v, t] w fun e w' => ∃ v' a', e = .returned (.tuple #[v', a']) ∧ O_Image w' w.heap.size w'.heap.size v' (runAll m l).1 ∧ O_IntS w' w.heap.size w'.heap.size a' (runAll m l).2 ∧ Ext w w' := by
  have hr0 := hr
  obtain ⟨u, s0, rfl, hu, hs⟩ := hr
  obtain ⟨A0, n0, c0, hv0, -⟩ := id hu
  obtain ⟨A1, n1, c1, hv1, -⟩ := id hs
  obtain ⟨A, n, c, rfl, hl, hnc, hcm, hrd⟩ := ht
  subst hv0 hv1
  have Hl := Lib.hid hl
  rw [hl] at hn
  obtain ⟨i0, hi0, hz0, hz1, hz2⟩ := info_parts info_Int
  obtain ⟨res, hres⟩ : ∃ res, runAll m l = res := ⟨_, rfl⟩
  rw [hres]
  have hlt60 : n ≤ 60 → Hid (runGo m [] l = res) := by intro h; show _ = _; rw [← hres, runAll_ok (by omega)]
  have hgt60 : ¬ n ≤ 60 → Hid (res = (m, [])) := by intro h; show _ = _; rw [← hres, runAll_no (by omega)]
  have Hlt60 := Lib.hid hlt60
  have Hgt60 := Lib.hid hgt60
  clear hl hu hs hres hlt60 hgt60
  have hX0 : Ext w ((w.alloc (.cells #[.slice A0 n0 c0, .slice A1 n1 c1] 39)).alloc (.cells #[.slice none 0 0, .slice none 0 0] 39)) := by repeat' (first | with_reducible exact Ext.refl _ | with_reducible assumption | with_reducible refine Ext.set ?_ ?_ _ _ | with_reducible refine Ext.alloc ?_ _ | with_reducible refine Ext.drew ?_ | with_reducible refine Ext.drewN ?_ _ | with_reducible refine Ext.trans ?_ (by with_reducible assumption) | omega | (simp; done) | (simp; omega))
  have x00 : Bx ((w.alloc (.cells #[.slice A0 n0 c0, .slice A1 n1 c1] 39)).alloc (.cells #[.slice none 0 0, .slice none 0 0] 39)) w.heap.size 0 (.slice A0 n0 c0) := (Bx.new w #[.slice A0 n0 c0, .slice A1 n1 c1] 39 0 (.slice A0 n0 c0) rfl rfl).alloc _
  have x01 : Bx ((w.alloc (.cells #[.slice A0 n0 c0, .slice A1 n1 c1] 39)).alloc (.cells #[.slice none 0 0, .slice none 0 0] 39)) w.heap.size 1 (.slice A1 n1 c1) := (Bx.new w #[.slice A0 n0 c0, .slice A1 n1 c1] 39 1 (.slice A1 n1 c1) rfl rfl).alloc _
  have y0 : Bx ((w.alloc (.cells #[.slice A0 n0 c0, .slice A1 n1 c1] 39)).alloc (.cells #[.slice none 0 0, .slice none 0 0] 39)) (w.heap.size + 1) 0 (.slice none 0 0) := Bx.new (w.alloc (.cells #[.slice A0 n0 c0, .slice A1 n1 c1] 39)) #[.slice none 0 0, .slice none 0 0] 39 0 (.slice none 0 0) (by simp) rfl
  have y1 : Bx ((w.alloc (.cells #[.slice A0 n0 c0, .slice A1 n1 c1] 39)).alloc (.cells #[.slice none 0 0, .slice none 0 0] 39)) (w.heap.size + 1) 1 (.slice none 0 0) := Bx.new (w.alloc (.cells #[.slice A0 n0 c0, .slice A1 n1 c1] 39)) #[.slice none 0 0, .slice none 0 0] 39 1 (.slice none 0 0) (by simp) rfl
  have zz0 : ((w.alloc (.cells #[.slice A0 n0 c0, .slice A1 n1 c1] 39)).alloc (.cells #[.slice none 0 0, .slice none 0 0] 39)).heap.size = w.heap.size + 2 := by simp
  go_enter Try.func136, Try.ntmps136
  have hA0 : Ext ((w.alloc (.cells #[.slice A0 n0 c0, .slice A1 n1 c1] 39)).alloc (.cells #[.slice none 0 0, .slice none 0 0] 39)) (((w.alloc (.cells #[.slice A0 n0 c0, .slice A1 n1 c1] 39)).alloc (.cells #[.slice none 0 0, .slice none 0 0] 39)).alloc (.cells #[] 3)) := (Ext.refl _).alloc _
  have hlt := Bx.lt x00
  go_wp2_with fail
  generalize ((w.alloc (.cells #[.slice A0 n0 c0, .slice A1 n1 c1] 39)).alloc (.cells #[.slice none 0 0, .slice none 0 0] 39)) = W0 at *
  refine (l2Copy_s _ m _ B (by exact hr0.keep (keepE' (hX0.trans hA0) hB)) (by simp; omega) hm).mono ?_
  rintro e w1 ⟨v1, rfl, o1, hE1⟩
  have hz1' := hE1.size
  simp only [World.size_alloc] at hz1'
  have hk1 := hA0.trans hE1
  have hX1 : Ext w w1 := hX0.trans hk1
  replace y0 := Bx.ext y0 hk1
  replace y1 := Bx.ext y1 hk1
  obtain ⟨u3, s3, rfl, k1, k2⟩ := o1
  obtain ⟨A2, n2, c2, hv2, -⟩ := id k1
  obtain ⟨A3, n3, c3, hv3, -⟩ := id k2
  subst hv2 hv3
  clear hE1 hk1 hA0 x00 x01
  have z0 := Bx.new w1 #[.slice A2 n2 c2, .slice A3 n3 c3] 39 0 (.slice A2 n2 c2) rfl rfl
  have z1 := Bx.new w1 #[.slice A2 n2 c2, .slice A3 n3 c3] 39 1 (.slice A3 n3 c3) rfl rfl
  have zT := BT.new w1 w1.heap.size #[.slice A2 n2 c2, .slice A3 n3 c3] 39 rfl
  have hA1 : Ext w1 (w1.alloc (.cells #[.slice A2 n2 c2, .slice A3 n3 c3] 39)) := (Ext.refl _).alloc _
  have hs3 : (w1.alloc (.cells #[.slice A2 n2 c2, .slice A3 n3 c3] 39)).heap.size = w1.heap.size + 1 := by simp
  replace y0 := Bx.ext y0 hA1
  replace y1 := Bx.ext y1 hA1
  replace k1 := (k1.keep (keepE hA1 (Nat.le_refl _))).wide (lo' := W0.heap.size) (by simp) (Nat.le_refl _)
  replace k2 := (k2.keep (keepE hA1 (Nat.le_refl _))).wide (lo' := W0.heap.size) (by simp) (Nat.le_refl _)
  have hX2 : Ext w (w1.alloc (.cells #[.slice A2 n2 c2, .slice A3 n3 c3] 39)) := hX1.trans hA1
  clear hA1
  go_upto_region 3 with (fail)
  generalize hG : w1.heap.size = G at *
  generalize hW2 : (w1.alloc (.cells #[.slice A2 n2 c2, .slice A3 n3 c3] 39)) = W2 at *
  clear hW2 hG
  have hzk : G ≤ W2.heap.size := by omega
  have hltz := Bx.lt z0
  have hlty := Bx.lt y0
  obtain ⟨a0, b0_⟩ := id z0
  obtain ⟨a1, b1_⟩ := id z1
  obtain ⟨r0, g0⟩ := id y0
  obtain ⟨r1, g1⟩ := id y1
  have hs3' : W2.heap.size = G + 1 := hs3
  clear hs3
  by_cases h60 : n ≤ 60
  · have e1 : decide ((60 : Int) < (n : Int)) = false := by simp; omega
    have e2 : decide (60 < n) = false := by simp; omega
    clear r0 g0 r1 g1
    go_wp2
    go_loopw [6, 8] (fun av iv wr => ∃ (i : Nat) (mm : ImageD) (ans : List Int) (Aa : Option Addr) (ca : Nat) (P Q : Option Addr) (pa pb qa qb : Nat), i ≤ n ∧ iv = .int .i64 i ∧ av = .slice Aa i ca ∧ Hid (ans.length = i) ∧ Own wr (G + 1) wr.heap.size 3 1 (.slice Aa i ca) i (ans.flatMap eI) ∧ Hid (runGo mm ans (l.drop i) = res) ∧ O_CellS wr W0.heap.size wr.heap.size (.slice P pa pb) mm.cells ∧ O_SeatS wr W0.heap.size wr.heap.size (.slice Q qa qb) mm.seats ∧ Bx wr G 0 (.slice P pa pb) ∧ Bx wr G 1 (.slice Q qa qb) ∧ BT wr G 39 ∧ Bx wr (w.heap.size + 1) 0 (.slice none 0 0) ∧ Bx wr (w.heap.size + 1) 1 (.slice none 0 0) ∧ Ext w wr ∧ G + 1 ≤ wr.heap.size) (fun _ iv _ => n - (intOf iv).toNat)
    case atStart => exact ⟨0, m, [], _, 0, _, _, _, _, _, _, by omega, rfl, rfl, rfl, Own.nil _ _ _ _ _ _, Hlt60.out h60, k1.wide (Nat.le_refl _) (by omega), k2.wide (Nat.le_refl _) (by omega), z0, z1, zT, y0, y1, hX2, by omega⟩
    case round =>
      clear z0 z1 zT y0 y1 k1 k2 hX2 a0 b0_ a1 b1_
      obtain ⟨i, mm, ans, Aa, ca, P, Q, pa, pb, qa, qb, hi, rfl, rfl, hans, hown, hgo, k1, k2, z0, z1, zT, y0, y1, hext, hzG⟩ := hrel
      have hzr := hext.size
      have hzz := Bx.lt y0
      have hltz0 := Bx.lt z0
      by_cases hlt : i < n
      · obtain ⟨b0, off, x, rfl, hb, hx1, hc0, hc1, hc2, hc3, hc4⟩ := (hext.rd hrd hB).Entry Hl.out hlt
        have hstep := hgo.out
        rw [drop_cons hx1] at hstep
        obtain ⟨r2, hre⟩ : ∃ r2, runEntry mm x = r2 := ⟨_, rfl⟩
        obtain ⟨m2, a2, code⟩ := r2
        rw [runGo_cons hre] at hstep
        have Hstep := Lib.hid hstep
        have Hre := Lib.hid hre
        have hRI : R_Image wr wr.heap.size (.agg #[.slice P pa pb, .slice Q qa qb]) mm := ⟨_, _, rfl, k1.rd, k2.rd⟩
        have hlt' : (i : Int) < (n : Int) := by omega
        clear hstep hre hx1 hgo
        obtain ⟨a0, b0_⟩ := id z0
        obtain ⟨a1, b1_⟩ := id z1
        have hre2 : runEntry mm ⟨x.client, x.req, ⟨x.cmd.kind, x.cmd.key, x.cmd.value⟩⟩ = (m2, a2, code) := Hre.out
        have hbw : b0 < wr.heap.size := by omega
        go_upto_region 8 with (fail)
        go_cut [9, 10, 11] (fun s9 s10 s11 wx => ∃ (g_ : Nat) (A_ : Option Addr) (n_ c_ : Nat) (B_ : Option Addr) (m_ d_ : Nat), s9 = .pointer (some ⟨g_, 0, none⟩) ∧ s10 = .int .i64 a2 ∧ s11 = .int .i64 (code : Int) ∧ Ext wr wx ∧ wr.heap.size ≤ g_ ∧ g_ < wx.heap.size ∧ wx.cell? ⟨g_, 0, none⟩ = some (.slice A_ n_ c_) ∧ wx.cell? ⟨g_, 1, none⟩ = some (.slice B_ m_ d_) ∧ O_CellS wx wr.heap.size wx.heap.size (.slice A_ n_ c_) m2.cells ∧ O_SeatS wx wr.heap.size wx.heap.size (.slice B_ m_ d_) m2.seats)
        case first =>
          go_region_held3 (fun w' => w'.cell? ⟨G, 0, none⟩ = some (.slice P pa pb) ∧ w'.cell? ⟨G, 1, none⟩ = some (.slice Q qa qb) ∧ w'.cell? ⟨b0, off + i * 5, none⟩ = some (.int .i64 x.client) ∧ w'.cell? ⟨b0, off + i * 5 + 1, none⟩ = some (.int .i64 x.req) ∧ w'.cell? ⟨b0, off + i * 5 + 2, none⟩ = some (.int .i64 x.cmd.kind) ∧ w'.cell? ⟨b0, off + i * 5 + 3, none⟩ = some (.int .i64 x.cmd.key) ∧ w'.cell? ⟨b0, off + i * 5 + 4, none⟩ = some (.int .i64 x.cmd.value)) (first | exact ⟨by rw [cell_set_ne _ _ _ _ _ _ (by omega), cell_set_ne _ _ _ _ _ _ (by omega)]; exact a0, by rw [cell_set_ne _ _ _ _ _ _ (by omega), cell_set_ne _ _ _ _ _ _ (by omega)]; exact a1, by rw [cell_set_ne _ _ _ _ _ _ (by omega), cell_set_ne _ _ _ _ _ _ (by omega)]; exact hc0, by rw [cell_set_ne _ _ _ _ _ _ (by omega), cell_set_ne _ _ _ _ _ _ (by omega)]; exact hc1, by rw [cell_set_ne _ _ _ _ _ _ (by omega), cell_set_ne _ _ _ _ _ _ (by omega)]; exact hc2, by rw [cell_set_ne _ _ _ _ _ _ (by omega), cell_set_ne _ _ _ _ _ _ (by omega)]; exact hc3, by rw [cell_set_ne _ _ _ _ _ _ (by omega), cell_set_ne _ _ _ _ _ _ (by omega)]; exact hc4⟩ | exact ⟨a0, a1, hc0, hc1, hc2, hc3, hc4⟩ | exact ⟨Ext.cellAt ((Ext.refl _).alloc _) a0, Ext.cellAt ((Ext.refl _).alloc _) a1, Ext.cellAt ((Ext.refl _).alloc _) hc0, Ext.cellAt ((Ext.refl _).alloc _) hc1, Ext.cellAt ((Ext.refl _).alloc _) hc2, Ext.cellAt ((Ext.refl _).alloc _) hc3, Ext.cellAt ((Ext.refl _).alloc _) hc4⟩)
            (first
              | (go_at_call 140; refine (runEntry_s _ mm x.client x.req x.cmd.kind x.cmd.key x.cmd.value _ wr.heap.size (by exact hRI.keep (keepE' (by first | exact Ext.refl _ | exact (Ext.refl _).drew | exact (Ext.refl _).drewN _ | exact (Ext.refl _).alloc _ | exact ((Ext.refl _).alloc _).drew) (Nat.le_refl _))) (by first | omega | (simp; done) | (simp; omega))).mono ?_; rw [hre2]; rintro e w3 ⟨v3, rfl, o3, hE3⟩; have hk3 : Ext wr w3 := (by first | exact hE3 | exact ((Ext.refl _).drew).trans hE3 | exact ((Ext.refl _).drewN _).trans hE3 | exact ((Ext.refl _).alloc _).trans hE3 | exact (((Ext.refl _).alloc _).drew).trans hE3); (first | have bx0 := Bx.ext (Bx.new wr #[.slice none 0 0, .slice none 0 0] 39 0 (.slice none 0 0) rfl rfl) hE3 | have bx0 := Bx.ext (Bx.drew (Bx.new wr #[.slice none 0 0, .slice none 0 0] 39 0 (.slice none 0 0) rfl rfl)) hE3 | skip); (first | have bx1 := Bx.ext (Bx.new wr #[.slice none 0 0, .slice none 0 0] 39 1 (.slice none 0 0) rfl rfl) hE3 | have bx1 := Bx.ext (Bx.drew (Bx.new wr #[.slice none 0 0, .slice none 0 0] 39 1 (.slice none 0 0) rfl rfl)) hE3 | skip); (first | (have bxp0 := bx0.1; have bxf0 := bx0.2; have bxp1 := bx1.1; have bxf1 := bx1.2; have bxlt := Bx.lt bx0) | skip); have z3 := hk3.size; replace a0 := hk3.cellAt a0; replace a1 := hk3.cellAt a1; replace hc0 := hk3.cellAt hc0; replace hc1 := hk3.cellAt hc1; replace hc2 := hk3.cellAt hc2; replace hc3 := hk3.cellAt hc3; replace hc4 := hk3.cellAt hc4; have hB3 := hext.trans hk3; clear hE3; obtain ⟨u4, s4, hv4, j1, j2⟩ := o3; obtain ⟨A5, n5, c5, hv5, -⟩ := id j1; obtain ⟨A6, n6, c6, hv6, -⟩ := id j2; subst hv5 hv6; subst hv4))
          all_goals
            go_wp2_with fail
            go_meet
            exact ⟨_, A5, n5, c5, A6, n6, c6, by first | rfl | (simp; done), by first | rfl | (simp; done), by first | rfl | (simp; done), by repeat' (first | with_reducible exact Ext.refl _ | with_reducible assumption | with_reducible refine Ext.set ?_ ?_ _ _ | with_reducible refine Ext.alloc ?_ _ | with_reducible refine Ext.drew ?_ | with_reducible refine Ext.drewN ?_ _ | with_reducible refine Ext.trans ?_ (by with_reducible assumption) | omega | (simp; done) | (simp; omega)), by first | omega | (simp; omega), by first | omega | (simp; done) | (simp; omega), by first | exact new_box _ _ #[.slice A5 n5 c5, .slice A6 n6 c6] _ 0 _ (by simp) rfl | exact (Bx.off (Bx.same bx0 _) (by omega) _).1, by first | exact new_box _ _ #[.slice A5 n5 c5, .slice A6 n6 c6] _ 1 _ (by simp) rfl | exact (Bx.same (Bx.off bx1 (by omega) _) _).1, by first | exact (O_CellS.keep j1 (show Kp _ _ _ _ by repeat' (first | with_reducible exact Kp.refl _ _ _ | with_reducible assumption | with_reducible refine Kp.set ?_ ?_ _ _ | with_reducible refine Kp.alloc ?_ ?_ _ | with_reducible refine Kp.drew ?_ | with_reducible refine Kp.drewN ?_ _ | with_reducible refine Kp.ext ?_ ?_ (by with_reducible assumption) | with_reducible refine Kp.fr ?_ ?_ ?_ (by with_reducible assumption) | omega | (simp; done) | (simp; omega)))).wide (by first | omega | (simp; done) | (simp; omega)) (by first | omega | (simp; done) | (simp; omega)), by first | exact (O_SeatS.keep j2 (show Kp _ _ _ _ by repeat' (first | with_reducible exact Kp.refl _ _ _ | with_reducible assumption | with_reducible refine Kp.set ?_ ?_ _ _ | with_reducible refine Kp.alloc ?_ ?_ _ | with_reducible refine Kp.drew ?_ | with_reducible refine Kp.drewN ?_ _ | with_reducible refine Kp.ext ?_ ?_ (by with_reducible assumption) | with_reducible refine Kp.fr ?_ ?_ ?_ (by with_reducible assumption) | omega | (simp; done) | (simp; omega)))).wide (by first | omega | (simp; done) | (simp; omega)) (by first | omega | (simp; done) | (simp; omega))⟩
        obtain ⟨gn, A5, n5, c5, A6, n6, c6, rfl, rfl, rfl, hA5, hg5, hg6, p0, p1, j1, j2⟩ := hcut
        rename World => W5
        have hz5 := hA5.size
        clear hre2 hRI a0 b0_ a1 b1_
        replace z0 := Bx.ext z0 hA5
        replace z1 := Bx.ext z1 hA5
        replace zT := BT.ext zT hA5
        replace y0 := Bx.ext y0 hA5
        replace y1 := Bx.ext y1 hA5
        replace k1 := k1.keep (keepE hA5 (by omega))
        replace k2 := k2.keep (keepE hA5 (by omega))
        replace hown := hA5.own hown (by omega)
        have hX5 := hext.trans hA5
        clear hA5
        go_wp2_with (at_builtin; refine wpList_app _ rfl _ _ 84 rfl 3 i0 _ 1 8 Try.underlying84 hi0 hz0 hz1 hz2 rfl (by omega) (G + 1) wr.heap.size (.slice Aa i ca) i (ans.flatMap eI) rfl (((Ext.refl W5).alloc _).own hown (by omega)) (by simp; omega) (by simp; omega) (W5.heap.size + 1) (some ⟨W5.heap.size, 0, none⟩) 1 1 (eI a2) rfl (own_made W5 #[.int .i64 a2] 1 3 1 (by unfold maxLen; omega) rfl).rd.2.2.2 (by simp [eI, Value.oneCell']) (by unfold maxLen; omega) (by omega) ?_)
        intro A7 c7 w7 o7 hg7
        have hFr : Fr _ _ _ w7 := Fr.of_grown hg7 (fun g h => hown.lt g h)
        have hX7 : Ext w w7 := (hX5.alloc _).grown hg7 (fun g h => by have := (hown.lt g h).1; omega)
        have hs7 := hg7.size
        simp only [World.size_alloc] at hs7
        have hA6 : Ext W5 (W5.alloc (.cells #[.int .i64 a2] 3)) := (Ext.refl _).alloc _
        have o8 : OwnS _ _ _ _ _ _ _ _ := OwnS.of (hA6.own hown (by omega)) hans.out
        replace k1 := ((k1.keep (keepE hA6 (by omega))).apart o8 (by decide) hg7).wide (Nat.le_refl _) (show _ ≤ w7.heap.size by omega)
        replace k2 := ((k2.keep (keepE hA6 (by omega))).apart o8 (by decide) hg7).wide (Nat.le_refl _) (show _ ≤ w7.heap.size by omega)
        replace j1 := ((j1.keep (keepE hA6 (by omega))).apart o8 (by decide) hg7).wide (show W0.heap.size ≤ _ by omega) (show _ ≤ w7.heap.size by omega)
        replace j2 := ((j2.keep (keepE hA6 (by omega))).apart o8 (by decide) hg7).wide (show W0.heap.size ≤ _ by omega) (show _ ≤ w7.heap.size by omega)
        replace z0 := Bx.fr (Bx.alloc z0 _) hFr (by omega)
        replace z1 := Bx.fr (Bx.alloc z1 _) hFr (by omega)
        replace zT := BT.fr (BT.ext zT hA6) hFr (by omega)
        replace p0 := hFr.cellAt (Ext.cellAt hA6 p0) (by omega)
        replace p1 := hFr.cellAt (Ext.cellAt hA6 p1) (by omega)
        replace y0 := Bx.fr (Bx.alloc y0 _) hFr (by omega)
        replace y1 := Bx.fr (Bx.alloc y1 _) hFr (by omega)
        replace o7 : Own w7 (G + 1) w7.heap.size 3 1 (.slice A7 (i + 1) c7) (i + 1) ((ans ++ [a2]).flatMap eI) := by rw [List.flatMap_append, List.flatMap_cons, List.flatMap_nil, List.append_nil]; exact o7
        have hal : Hid ((ans ++ [a2]).length = i + 1) := by show _ = _; rw [List.length_append, hans.out]; rfl
        clear hown o8 hg7 hFr hA6
        have hzw : G + 1 ≤ w7.heap.size := by omega
        have hgw : gn < w7.heap.size := by omega
        obtain ⟨a0, b0_⟩ := id z0
        obtain ⟨a1, b1_⟩ := id z1
        by_cases hc : code = 1
        · have e3 : ((code : Int) != 1) = false := by simp [hc]
          have e4 : (code != 1) = false := by simp [hc]
          have hs2 : Hid (runGo mm (ans ++ [a2]) (l.drop (i + 1)) = res) := by show _ = _; rw [← Hstep.out, if_pos hc]
          clear hc
          go_wp2
          go_roundw
          case rel => exact ⟨i + 1, mm, ans ++ [a2], A7, c7, _, _, _, _, _, _, by omega, by go_num, rfl, hal, o7, hs2, k1, k2, z0, z1, zT, y0, y1, hX7, hzw⟩
          case measure => simp [intOf]; omega
        · have e3 : ((code : Int) != 1) = true := by simp; omega
          have e4 : (code != 1) = true := by simp; omega
          have hs2 : Hid (runGo m2 (ans ++ [a2]) (l.drop (i + 1)) = res) := by show _ = _; rw [← Hstep.out, if_neg hc]
          clear hc
          have q1 : ¬ gn = G := by omega
          have q2 : ¬ G = gn := by omega
          have z0' := Bx.off (Bx.same z0 (.slice A5 n5 c5)) (by omega) (k := 1) (.slice A6 n6 c6)
          have z1' := Bx.same (Bx.off z1 (by omega) (k := 0) (.slice A5 n5 c5)) (.slice A6 n6 c6)
          have zT' := BT.set (BT.set zT G 0 (.slice A5 n5 c5)) G 1 (.slice A6 n6 c6)
          have y0' := Bx.far (Bx.far y0 (h := G) (by omega) 0 (.slice A5 n5 c5)) (h := G) (by omega) 1 (.slice A6 n6 c6)
          have y1' := Bx.far (Bx.far y1 (h := G) (by omega) 0 (.slice A5 n5 c5)) (h := G) (by omega) 1 (.slice A6 n6 c6)
          have hX8 : Ext w ((w7.setCell ⟨G, 0, none⟩ (.slice A5 n5 c5)).setCell ⟨G, 1, none⟩ (.slice A6 n6 c6)) := (hX7.set (by omega) _ _).set (by omega) _ _
          have j1' : O_CellS ((w7.setCell ⟨G, 0, none⟩ (.slice A5 n5 c5)).setCell ⟨G, 1, none⟩ (.slice A6 n6 c6)) _ _ _ _ := OwnS.dodge (OwnS.dodge j1 zT (by decide) 0 _) (BT.set zT G 0 _) (by decide) 1 _
          have j2' : O_SeatS ((w7.setCell ⟨G, 0, none⟩ (.slice A5 n5 c5)).setCell ⟨G, 1, none⟩ (.slice A6 n6 c6)) _ _ _ _ := OwnS.dodge (OwnS.dodge j2 zT (by decide) 0 _) (BT.set zT G 0 _) (by decide) 1 _
          have o7' : Own ((w7.setCell ⟨G, 0, none⟩ (.slice A5 n5 c5)).setCell ⟨G, 1, none⟩ (.slice A6 n6 c6)) (G + 1) w7.heap.size 3 1 (.slice A7 (i + 1) c7) (i + 1) ((ans ++ [a2]).flatMap eI) := o7.keep (show Kp _ _ _ _ by repeat' (first | with_reducible exact Kp.refl _ _ _ | with_reducible assumption | with_reducible refine Kp.set ?_ ?_ _ _ | with_reducible refine Kp.alloc ?_ ?_ _ | with_reducible refine Kp.drew ?_ | with_reducible refine Kp.drewN ?_ _ | with_reducible refine Kp.ext ?_ ?_ (by with_reducible assumption) | with_reducible refine Kp.fr ?_ ?_ ?_ (by with_reducible assumption) | omega | (simp; done) | (simp; omega)))
          clear z0 z1 zT y0 y1 k1 k2 j1 j2 o7 hX7
          go_wp2
          go_roundw
          case rel => exact ⟨i + 1, m2, ans ++ [a2], A7, c7, _, _, _, _, _, _, by omega, by go_num, rfl, hal, o7'.wide (Nat.le_refl _) (by simp), hs2, O_CellS.wide j1' (Nat.le_refl _) (by simp), O_SeatS.wide j2' (Nat.le_refl _) (by simp), z0', z1', zT', y0', y1', hX8, by simp; omega⟩
          case measure => simp [intOf]; omega
      · obtain rfl : n = i := by omega
        have hfin : Hid ((mm, ans) = res) := by
          show _ = _
          rw [← hgo.out, List.drop_of_length_le (by rw [Hl.out]; omega)]
          rfl
        obtain ⟨a0, b0_⟩ := id z0
        obtain ⟨a1, b1_⟩ := id z1
        obtain ⟨r0, g0⟩ := id y0
        obtain ⟨r1, g1⟩ := id y1
        have k3 : O_IntS wr (G + 1) wr.heap.size (.slice Aa n ca) ans := OwnS.of hown hans.out
        clear hgo
        go_wp2
        rw [← hfin.out]
        exact bodyPost_ret (v := .tuple #[.agg #[.slice P pa pb, .slice Q qa qb], .slice Aa n ca]) (by simp [results, Try.results136, go_sem, r0, r1]) rfl ⟨_, _, rfl, ⟨_, _, rfl, (O_CellS.keep k1 (show Kp _ _ _ _ by repeat' (first | with_reducible exact Kp.refl _ _ _ | with_reducible assumption | with_reducible refine Kp.set ?_ ?_ _ _ | with_reducible refine Kp.alloc ?_ ?_ _ | with_reducible refine Kp.drew ?_ | with_reducible refine Kp.drewN ?_ _ | with_reducible refine Kp.ext ?_ ?_ (by with_reducible assumption) | with_reducible refine Kp.fr ?_ ?_ ?_ (by with_reducible assumption) | omega | (simp; done) | (simp; omega)))).wide (by omega) (by first | (simp; done) | (simp; omega)), (O_SeatS.keep k2 (show Kp _ _ _ _ by repeat' (first | with_reducible exact Kp.refl _ _ _ | with_reducible assumption | with_reducible refine Kp.set ?_ ?_ _ _ | with_reducible refine Kp.alloc ?_ ?_ _ | with_reducible refine Kp.drew ?_ | with_reducible refine Kp.drewN ?_ _ | with_reducible refine Kp.ext ?_ ?_ (by with_reducible assumption) | with_reducible refine Kp.fr ?_ ?_ ?_ (by with_reducible assumption) | omega | (simp; done) | (simp; omega)))).wide (by omega) (by first | (simp; done) | (simp; omega))⟩, (O_IntS.keep k3 (show Kp _ _ _ _ by repeat' (first | with_reducible exact Kp.refl _ _ _ | with_reducible assumption | with_reducible refine Kp.set ?_ ?_ _ _ | with_reducible refine Kp.alloc ?_ ?_ _ | with_reducible refine Kp.drew ?_ | with_reducible refine Kp.drewN ?_ _ | with_reducible refine Kp.ext ?_ ?_ (by with_reducible assumption) | with_reducible refine Kp.fr ?_ ?_ ?_ (by with_reducible assumption) | omega | (simp; done) | (simp; omega)))).wide (by omega) (by first | (simp; done) | (simp; omega)), by repeat' (first | with_reducible exact Ext.refl _ | with_reducible assumption | with_reducible refine Ext.set ?_ ?_ _ _ | with_reducible refine Ext.alloc ?_ _ | with_reducible refine Ext.drew ?_ | with_reducible refine Ext.drewN ?_ _ | with_reducible refine Ext.trans ?_ (by with_reducible assumption) | omega | (simp; done) | (simp; omega))⟩
  · have hf := Hgt60.out h60
    have e1 : decide ((60 : Int) < (n : Int)) = true := by simp; omega
    have e2 : decide (60 < n) = true := by simp; omega
    go_wp2
    rw [hf.out]
    exact bodyPost_ret (v := .tuple #[.agg #[.slice A2 n2 c2, .slice A3 n3 c3], .slice (some ⟨W0.heap.size, 0, none⟩) 0 0]) (by simp [results, Try.results136, go_sem, r0, r1]) rfl ⟨_, _, rfl, ⟨_, _, rfl, (O_CellS.keep k1 (show Kp _ _ _ _ by repeat' (first | with_reducible exact Kp.refl _ _ _ | with_reducible assumption | with_reducible refine Kp.set ?_ ?_ _ _ | with_reducible refine Kp.alloc ?_ ?_ _ | with_reducible refine Kp.drew ?_ | with_reducible refine Kp.drewN ?_ _ | with_reducible refine Kp.ext ?_ ?_ (by with_reducible assumption) | with_reducible refine Kp.fr ?_ ?_ ?_ (by with_reducible assumption) | omega | (simp; done) | (simp; omega)))).wide (by omega) (by first | (simp; done) | (simp; omega)), (O_SeatS.keep k2 (show Kp _ _ _ _ by repeat' (first | with_reducible exact Kp.refl _ _ _ | with_reducible assumption | with_reducible refine Kp.set ?_ ?_ _ _ | with_reducible refine Kp.alloc ?_ ?_ _ | with_reducible refine Kp.drew ?_ | with_reducible refine Kp.drewN ?_ _ | with_reducible refine Kp.ext ?_ ?_ (by with_reducible assumption) | with_reducible refine Kp.fr ?_ ?_ ?_ (by with_reducible assumption) | omega | (simp; done) | (simp; omega)))).wide (by omega) (by first | (simp; done) | (simp; omega))⟩, OwnS.nil _, by repeat' (first | with_reducible exact Ext.refl _ | with_reducible assumption | with_reducible refine Ext.set ?_ ?_ _ _ | with_reducible refine Ext.alloc ?_ _ | with_reducible refine Ext.drew ?_ | with_reducible refine Ext.drewN ?_ _ | with_reducible refine Ext.trans ?_ (by with_reducible assumption) | omega | (simp; done) | (simp; omega))⟩

end Go.Proofs.Ytbfbdhjeoknjkaa
