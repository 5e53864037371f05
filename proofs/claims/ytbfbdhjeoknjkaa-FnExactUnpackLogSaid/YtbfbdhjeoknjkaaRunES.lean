/-
  RunEntry of the reference, walked.
-/
import Derived.Test.YtbfbdhjeoknjkaaRun2
import Derived.Test.YtbfbdhjeoknjkaaPut3
namespace Go.Proofs.Ytbfbdhjeoknjkaa
open Go.RowKit

set_option maxRecDepth 100000 in
set_option maxHeartbeats 8000000 in
theorem runEntry_s (v : Value) (m : ImageD) (p q kind key value : Int) (w : World) (B : Nat) (hr : R_Image w B v m) (hB : B ≤ w.heap.size) :
    Calls Try.prog 140 #[v, .agg #[.int .i64 p, .int .i64 q, .int .i64 kind, .int .i64 key, .int .i64 value]] w fun e w' => ∃ v', e = .returned (.tuple #[v', .int .i64 (runEntry m ⟨p, q, ⟨kind, key, value⟩⟩).2.1, .int .i64 ((runEntry m ⟨p, q, ⟨kind, key, value⟩⟩).2.2 : Int)]) ∧ O_Image w' w.heap.size w'.heap.size v' (runEntry m ⟨p, q, ⟨kind, key, value⟩⟩).1 ∧ Ext w w' := by
  have hr0 := hr
  obtain ⟨u, s0, rfl, hu, hs⟩ := hr
  obtain ⟨A0, n0, c0, hv0, -⟩ := id hu
  obtain ⟨A1, n1, c1, hv1, hl1, -⟩ := id hs
  subst hv0 hv1
  have Hl1 := Lib.hid hl1
  clear hl1
  obtain ⟨res, hres⟩ : ∃ res, runEntry m ⟨p, q, ⟨kind, key, value⟩⟩ = res := ⟨_, rfl⟩
  rw [hres]
  have Hres := Lib.hid hres
  clear hres
  have hX0 : Ext w (((w.alloc (.cells #[.slice A0 n0 c0, .slice A1 n1 c1] 39)).alloc (.cells #[.int .i64 p, .int .i64 q, .int .i64 kind, .int .i64 key, .int .i64 value] 90)).alloc (.cells #[.slice none 0 0, .slice none 0 0] 39)) := by repeat' (first | with_reducible exact Ext.refl _ | with_reducible assumption | with_reducible refine Ext.set ?_ ?_ _ _ | with_reducible refine Ext.alloc ?_ _ | with_reducible refine Ext.drew ?_ | with_reducible refine Ext.drewN ?_ _ | with_reducible refine Ext.trans ?_ (by with_reducible assumption) | omega | (simp; done) | (simp; omega))
  have x00 : Bx (((w.alloc (.cells #[.slice A0 n0 c0, .slice A1 n1 c1] 39)).alloc (.cells #[.int .i64 p, .int .i64 q, .int .i64 kind, .int .i64 key, .int .i64 value] 90)).alloc (.cells #[.slice none 0 0, .slice none 0 0] 39)) (w.heap.size) 0 (.slice A0 n0 c0) := (((Bx.new w #[.slice A0 n0 c0, .slice A1 n1 c1] 39 0 (.slice A0 n0 c0) (by simp) rfl).alloc _).alloc _)
  have x01 : Bx (((w.alloc (.cells #[.slice A0 n0 c0, .slice A1 n1 c1] 39)).alloc (.cells #[.int .i64 p, .int .i64 q, .int .i64 kind, .int .i64 key, .int .i64 value] 90)).alloc (.cells #[.slice none 0 0, .slice none 0 0] 39)) (w.heap.size) 1 (.slice A1 n1 c1) := (((Bx.new w #[.slice A0 n0 c0, .slice A1 n1 c1] 39 1 (.slice A1 n1 c1) (by simp) rfl).alloc _).alloc _)
  have x10 : Bx (((w.alloc (.cells #[.slice A0 n0 c0, .slice A1 n1 c1] 39)).alloc (.cells #[.int .i64 p, .int .i64 q, .int .i64 kind, .int .i64 key, .int .i64 value] 90)).alloc (.cells #[.slice none 0 0, .slice none 0 0] 39)) (w.heap.size + 1) 0 (.int .i64 p) := ((Bx.new (w.alloc (.cells #[.slice A0 n0 c0, .slice A1 n1 c1] 39)) #[.int .i64 p, .int .i64 q, .int .i64 kind, .int .i64 key, .int .i64 value] 90 0 (.int .i64 p) (by simp) rfl).alloc _)
  have x11 : Bx (((w.alloc (.cells #[.slice A0 n0 c0, .slice A1 n1 c1] 39)).alloc (.cells #[.int .i64 p, .int .i64 q, .int .i64 kind, .int .i64 key, .int .i64 value] 90)).alloc (.cells #[.slice none 0 0, .slice none 0 0] 39)) (w.heap.size + 1) 1 (.int .i64 q) := ((Bx.new (w.alloc (.cells #[.slice A0 n0 c0, .slice A1 n1 c1] 39)) #[.int .i64 p, .int .i64 q, .int .i64 kind, .int .i64 key, .int .i64 value] 90 1 (.int .i64 q) (by simp) rfl).alloc _)
  have x12 : Bx (((w.alloc (.cells #[.slice A0 n0 c0, .slice A1 n1 c1] 39)).alloc (.cells #[.int .i64 p, .int .i64 q, .int .i64 kind, .int .i64 key, .int .i64 value] 90)).alloc (.cells #[.slice none 0 0, .slice none 0 0] 39)) (w.heap.size + 1) 2 (.int .i64 kind) := ((Bx.new (w.alloc (.cells #[.slice A0 n0 c0, .slice A1 n1 c1] 39)) #[.int .i64 p, .int .i64 q, .int .i64 kind, .int .i64 key, .int .i64 value] 90 2 (.int .i64 kind) (by simp) rfl).alloc _)
  have x13 : Bx (((w.alloc (.cells #[.slice A0 n0 c0, .slice A1 n1 c1] 39)).alloc (.cells #[.int .i64 p, .int .i64 q, .int .i64 kind, .int .i64 key, .int .i64 value] 90)).alloc (.cells #[.slice none 0 0, .slice none 0 0] 39)) (w.heap.size + 1) 3 (.int .i64 key) := ((Bx.new (w.alloc (.cells #[.slice A0 n0 c0, .slice A1 n1 c1] 39)) #[.int .i64 p, .int .i64 q, .int .i64 kind, .int .i64 key, .int .i64 value] 90 3 (.int .i64 key) (by simp) rfl).alloc _)
  have x14 : Bx (((w.alloc (.cells #[.slice A0 n0 c0, .slice A1 n1 c1] 39)).alloc (.cells #[.int .i64 p, .int .i64 q, .int .i64 kind, .int .i64 key, .int .i64 value] 90)).alloc (.cells #[.slice none 0 0, .slice none 0 0] 39)) (w.heap.size + 1) 4 (.int .i64 value) := ((Bx.new (w.alloc (.cells #[.slice A0 n0 c0, .slice A1 n1 c1] 39)) #[.int .i64 p, .int .i64 q, .int .i64 kind, .int .i64 key, .int .i64 value] 90 4 (.int .i64 value) (by simp) rfl).alloc _)
  have x20 : Bx (((w.alloc (.cells #[.slice A0 n0 c0, .slice A1 n1 c1] 39)).alloc (.cells #[.int .i64 p, .int .i64 q, .int .i64 kind, .int .i64 key, .int .i64 value] 90)).alloc (.cells #[.slice none 0 0, .slice none 0 0] 39)) (w.heap.size + 1 + 1) 0 (.slice none 0 0) := (Bx.new ((w.alloc (.cells #[.slice A0 n0 c0, .slice A1 n1 c1] 39)).alloc (.cells #[.int .i64 p, .int .i64 q, .int .i64 kind, .int .i64 key, .int .i64 value] 90)) #[.slice none 0 0, .slice none 0 0] 39 0 (.slice none 0 0) (by simp) rfl)
  have x21 : Bx (((w.alloc (.cells #[.slice A0 n0 c0, .slice A1 n1 c1] 39)).alloc (.cells #[.int .i64 p, .int .i64 q, .int .i64 kind, .int .i64 key, .int .i64 value] 90)).alloc (.cells #[.slice none 0 0, .slice none 0 0] 39)) (w.heap.size + 1 + 1) 1 (.slice none 0 0) := (Bx.new ((w.alloc (.cells #[.slice A0 n0 c0, .slice A1 n1 c1] 39)).alloc (.cells #[.int .i64 p, .int .i64 q, .int .i64 kind, .int .i64 key, .int .i64 value] 90)) #[.slice none 0 0, .slice none 0 0] 39 1 (.slice none 0 0) (by simp) rfl)
  have zz0 : (((w.alloc (.cells #[.slice A0 n0 c0, .slice A1 n1 c1] 39)).alloc (.cells #[.int .i64 p, .int .i64 q, .int .i64 kind, .int .i64 key, .int .i64 value] 90)).alloc (.cells #[.slice none 0 0, .slice none 0 0] 39)).heap.size = w.heap.size + 3 := by simp
  have hbad : (imageOk m && entryOk ⟨p, q, ⟨kind, key, value⟩⟩) = false → Hid (res = (⟨[], []⟩, 0, 1)) := by
    intro h
    show _ = _
    rw [← Hres.out]
    exact runE_bad h
  have Hbad := Lib.hid hbad
  clear hbad
  obtain ⟨ok, hok⟩ : ∃ ok, imageOk m = ok := ⟨_, rfl⟩
  obtain ⟨ok2, hok2⟩ : ∃ ok2, entryOk ⟨p, q, ⟨kind, key, value⟩⟩ = ok2 := ⟨_, rfl⟩
  have Hok := Lib.hid hok
  have Hok2 := Lib.hid hok2
  clear hok hok2
  go_enter Try.func140, Try.ntmps140
  go_wp2_with fail
  generalize (((w.alloc (.cells #[.slice A0 n0 c0, .slice A1 n1 c1] 39)).alloc (.cells #[.int .i64 p, .int .i64 q, .int .i64 kind, .int .i64 key, .int .i64 value] 90)).alloc (.cells #[.slice none 0 0, .slice none 0 0] 39)) = W0 at *
  refine (imageOk_s _ m _ B (by exact hr0.keep (keepE' hX0 hB)) (by omega)).mono ?_
  rw [Hok.out]
  rintro e w1 ⟨rfl, hE1⟩
  have hz1 := hE1.size
  replace x00 := Bx.ext x00 hE1
  replace x01 := Bx.ext x01 hE1
  replace x10 := Bx.ext x10 hE1
  replace x11 := Bx.ext x11 hE1
  replace x12 := Bx.ext x12 hE1
  replace x13 := Bx.ext x13 hE1
  replace x14 := Bx.ext x14 hE1
  replace x20 := Bx.ext x20 hE1
  replace x21 := Bx.ext x21 hE1
  obtain ⟨p00, f00⟩ := id x00
  obtain ⟨p01, f01⟩ := id x01
  obtain ⟨p10, f10⟩ := id x10
  obtain ⟨p11, f11⟩ := id x11
  obtain ⟨p12, f12⟩ := id x12
  obtain ⟨p13, f13⟩ := id x13
  obtain ⟨p14, f14⟩ := id x14
  obtain ⟨p20, f20⟩ := id x20
  obtain ⟨p21, f21⟩ := id x21
  have hX1 : Ext w w1 := hX0.trans hE1
  cases ok with
  | false =>
    have hf := Hbad.out (by rw [Hok.out]; rfl)
    go_wp2
    rw [hf.out]
    exact bodyPost_ret (v := .tuple #[.agg #[.slice none 0 0, .slice none 0 0], .int .i64 0, .int .i64 1]) (by simp [results, Try.results140, go_sem, p20, p21]) rfl ⟨_, rfl, ⟨_, _, rfl, OwnS.nil _, OwnS.nil _⟩, by repeat' (first | with_reducible exact Ext.refl _ | with_reducible assumption | with_reducible refine Ext.set ?_ ?_ _ _ | with_reducible refine Ext.alloc ?_ _ | with_reducible refine Ext.drew ?_ | with_reducible refine Ext.drewN ?_ _ | with_reducible refine Ext.trans ?_ (by with_reducible assumption) | omega | (simp; done) | (simp; omega))⟩
  | true =>
    go_wp2_with fail
    refine (entryOk_s p q kind key value _).mono ?_
    rw [Hok2.out]
    rintro e w2 ⟨rfl, hE2⟩
    have hz2 := hE2.size
    clear p00 f00 p01 f01 p10 f10 p11 f11 p12 f12 p13 f13 p14 f14 p20 f20 p21 f21
    replace x00 := Bx.ext x00 hE2
    replace x01 := Bx.ext x01 hE2
    replace x10 := Bx.ext x10 hE2
    replace x11 := Bx.ext x11 hE2
    replace x12 := Bx.ext x12 hE2
    replace x13 := Bx.ext x13 hE2
    replace x14 := Bx.ext x14 hE2
    replace x20 := Bx.ext x20 hE2
    replace x21 := Bx.ext x21 hE2
    obtain ⟨p00, f00⟩ := id x00
    obtain ⟨p01, f01⟩ := id x01
    obtain ⟨p10, f10⟩ := id x10
    obtain ⟨p11, f11⟩ := id x11
    obtain ⟨p12, f12⟩ := id x12
    obtain ⟨p13, f13⟩ := id x13
    obtain ⟨p14, f14⟩ := id x14
    obtain ⟨p20, f20⟩ := id x20
    obtain ⟨p21, f21⟩ := id x21
    have hX2 : Ext w w2 := hX1.trans hE2
    cases ok2 with
    | false =>
      have hf := Hbad.out (by rw [Hok.out, Hok2.out]; rfl)
      go_wp2
      rw [hf.out]
      exact bodyPost_ret (v := .tuple #[.agg #[.slice none 0 0, .slice none 0 0], .int .i64 0, .int .i64 1]) (by simp [results, Try.results140, go_sem, p20, p21]) rfl ⟨_, rfl, ⟨_, _, rfl, OwnS.nil _, OwnS.nil _⟩, by repeat' (first | with_reducible exact Ext.refl _ | with_reducible assumption | with_reducible refine Ext.set ?_ ?_ _ _ | with_reducible refine Ext.alloc ?_ _ | with_reducible refine Ext.drew ?_ | with_reducible refine Ext.drewN ?_ _ | with_reducible refine Ext.trans ?_ (by with_reducible assumption) | omega | (simp; done) | (simp; omega))⟩
    | true =>
      have Hb : Hid ((imageOk m && entryOk ⟨p, q, ⟨kind, key, value⟩⟩) = true) := by show _ = _; rw [Hok.out, Hok2.out]; rfl
      have Hm := Lib.hid (imageOk_iff.1 Hok.out)
      obtain ⟨hp, hq, hc⟩ := entryOk_parts Hok2.out
      replace hp : 0 ≤ p ∧ p ≤ 1000000000 := hp
      replace hq : 1 ≤ q ∧ q ≤ 1000000000 := hq
      have Hc := Lib.hid hc
      clear hc
      have hnc := Hm.out.nc
      have hns := Hm.out.ns
      have hsz : szI m ≤ 2097152 := by unfold szI; omega
      rw [Hl1.out] at hns
      cases hfk : findK SeatD.client m.seats p with
      | some s =>
        have hsv := Hm.out.seats.val s (findK_mem hfk)
        have Hfk := Lib.hid hfk
        clear hfk
        have hso : Hid (seatOf m p = (s, true)) := by show _ = _; rw [seatOf_ok Hok.out, getS_some Hfk.out]
        have hc3 : s.req = q ∨ q < s.req ∨ s.req < q := by omega
        have Hc3 := Lib.hid hc3
        clear hc3
        go_wp2_with fail
        refine (seatOf_s _ m p _ B (by exact hr0.keep (keepE' hX2 hB)) (by omega) (by omega)).mono ?_
        rw [hso.out]
        rintro e w3 ⟨rfl, hE3⟩
        have hz3 := hE3.size
        clear p00 f00 p01 f01 p10 f10 p11 f11 p12 f12 p13 f13 p14 f14 p20 f20 p21 f21
        replace x00 := Bx.ext x00 hE3
        replace x01 := Bx.ext x01 hE3
        replace x10 := Bx.ext x10 hE3
        replace x11 := Bx.ext x11 hE3
        replace x12 := Bx.ext x12 hE3
        replace x13 := Bx.ext x13 hE3
        replace x14 := Bx.ext x14 hE3
        replace x20 := Bx.ext x20 hE3
        replace x21 := Bx.ext x21 hE3
        replace x00 := Bx.alloc x00 (.cells #[.int .i64 s.client, .int .i64 s.req, .int .i64 s.answer] 88)
        replace x01 := Bx.alloc x01 (.cells #[.int .i64 s.client, .int .i64 s.req, .int .i64 s.answer] 88)
        replace x10 := Bx.alloc x10 (.cells #[.int .i64 s.client, .int .i64 s.req, .int .i64 s.answer] 88)
        replace x11 := Bx.alloc x11 (.cells #[.int .i64 s.client, .int .i64 s.req, .int .i64 s.answer] 88)
        replace x12 := Bx.alloc x12 (.cells #[.int .i64 s.client, .int .i64 s.req, .int .i64 s.answer] 88)
        replace x13 := Bx.alloc x13 (.cells #[.int .i64 s.client, .int .i64 s.req, .int .i64 s.answer] 88)
        replace x14 := Bx.alloc x14 (.cells #[.int .i64 s.client, .int .i64 s.req, .int .i64 s.answer] 88)
        replace x20 := Bx.alloc x20 (.cells #[.int .i64 s.client, .int .i64 s.req, .int .i64 s.answer] 88)
        replace x21 := Bx.alloc x21 (.cells #[.int .i64 s.client, .int .i64 s.req, .int .i64 s.answer] 88)
        have y0 := Bx.new w3 #[.int .i64 s.client, .int .i64 s.req, .int .i64 s.answer] 88 0 _ rfl rfl
        have y1 := Bx.new w3 #[.int .i64 s.client, .int .i64 s.req, .int .i64 s.answer] 88 1 _ rfl rfl
        have y2 := Bx.new w3 #[.int .i64 s.client, .int .i64 s.req, .int .i64 s.answer] 88 2 _ rfl rfl
        have hX3 : Ext w (w3.alloc (.cells #[.int .i64 s.client, .int .i64 s.req, .int .i64 s.answer] 88)) := (hX2.trans hE3).alloc _
        have hzz3 : (w3.alloc (.cells #[.int .i64 s.client, .int .i64 s.req, .int .i64 s.answer] 88)).heap.size = w3.heap.size + 1 := by simp
        obtain ⟨p00, f00⟩ := id x00
        obtain ⟨p01, f01⟩ := id x01
        obtain ⟨p10, f10⟩ := id x10
        obtain ⟨p11, f11⟩ := id x11
        obtain ⟨p12, f12⟩ := id x12
        obtain ⟨p13, f13⟩ := id x13
        obtain ⟨p14, f14⟩ := id x14
        obtain ⟨p20, f20⟩ := id x20
        obtain ⟨p21, f21⟩ := id x21
        obtain ⟨r0, t0⟩ := id y0
        obtain ⟨r1, t1⟩ := id y1
        obtain ⟨r2, t2⟩ := id y2
        rcases Hc3.out with he | hlt | hlt
        · subst he
          have hf : Hid (res = (m, s.answer, 2)) := by
            show _ = _
            rw [← Hres.out]
            exact runE_same Hb.out Hfk.out rfl
          go_wp2_with fail
          generalize (w3.alloc (.cells #[.int .i64 s.client, .int .i64 s.req, .int .i64 s.answer] 88)) = WY at *
          have hzd : WY.drew.heap.size = WY.heap.size := rfl
          have hgy := Bx.lt x20
          go_region_held3 (fun w' => w'.cell? ⟨w.heap.size, 0, none⟩ = some (.slice A0 n0 c0) ∧ w'.cell? ⟨w.heap.size, 1, none⟩ = some (.slice A1 n1 c1) ∧ w'.cell? ⟨w3.heap.size, 2, none⟩ = some (.int .i64 s.answer)) (first | exact ⟨p00, p01, r2⟩ | exact ⟨by (repeat rw [cell_set_ne _ _ _ _ _ _ (by omega)]); exact p00, by (repeat rw [cell_set_ne _ _ _ _ _ _ (by omega)]); exact p01, by (repeat rw [cell_set_ne _ _ _ _ _ _ (by omega)]); exact r2⟩)
            (first
              | (go_at_call 139; refine (l2Copy_s _ m _ B (by exact hr0.keep (keepE' (by first | exact hX3 | exact hX3.drew | exact hX3.drewN _) hB)) (by first | omega | (simp; omega)) hsz).mono ?_; rintro e w5 ⟨v5, rfl, o5, hE5⟩; have hk : Ext WY w5 := (by first | exact hE5 | exact ((Ext.refl _).drew).trans hE5 | exact ((Ext.refl _).drewN _).trans hE5); have hz5 := hk.size; have hX5 := hX3.trans hk; have hgw := Bx.lt y2; clear p00 f00 p01 f01 p10 f10 p11 f11 p12 f12 p13 f13 p14 f14 p20 f20 p21 f21 r0 t0 r1 t1 r2 t2; replace x00 := Bx.ext x00 hk; replace x01 := Bx.ext x01 hk; replace x10 := Bx.ext x10 hk; replace x11 := Bx.ext x11 hk; replace x12 := Bx.ext x12 hk; replace x13 := Bx.ext x13 hk; replace x14 := Bx.ext x14 hk; replace x20 := Bx.ext x20 hk; replace x21 := Bx.ext x21 hk; replace y0 := Bx.ext y0 hk; replace y1 := Bx.ext y1 hk; replace y2 := Bx.ext y2 hk; obtain ⟨p00, f00⟩ := id x00; obtain ⟨p01, f01⟩ := id x01; obtain ⟨p10, f10⟩ := id x10; obtain ⟨p11, f11⟩ := id x11; obtain ⟨p12, f12⟩ := id x12; obtain ⟨p13, f13⟩ := id x13; obtain ⟨p14, f14⟩ := id x14; obtain ⟨p20, f20⟩ := id x20; obtain ⟨p21, f21⟩ := id x21; obtain ⟨r0, t0⟩ := id y0; obtain ⟨r1, t1⟩ := id y1; obtain ⟨r2, t2⟩ := id y2; obtain ⟨u5, s5, rfl, k1, k2⟩ := o5; obtain ⟨A2, n2, c2, hv2, -⟩ := id k1; obtain ⟨A3, n3, c3, hv3, -⟩ := id k2; subst hv2 hv3))
          all_goals go_wp2
          all_goals rw [hf.out]
          all_goals
            exact bodyPost_ret (v := .tuple #[.agg #[.slice A2 n2 c2, .slice A3 n3 c3], .int .i64 s.answer, .int .i64 2]) (by simp [results, Try.results140, go_sem, p20, p21]) rfl ⟨_, rfl, ⟨_, _, rfl, (O_CellS.keep k1 (show Kp _ _ _ _ by repeat' (first | with_reducible exact Kp.refl _ _ _ | with_reducible assumption | with_reducible refine Kp.set ?_ ?_ _ _ | with_reducible refine Kp.alloc ?_ ?_ _ | with_reducible refine Kp.drew ?_ | with_reducible refine Kp.drewN ?_ _ | with_reducible refine Kp.ext ?_ ?_ (by with_reducible assumption) | with_reducible refine Kp.fr ?_ ?_ ?_ (by with_reducible assumption) | omega | (simp; done) | (simp; omega)))).wide (by omega) (by simp), (O_SeatS.keep k2 (show Kp _ _ _ _ by repeat' (first | with_reducible exact Kp.refl _ _ _ | with_reducible assumption | with_reducible refine Kp.set ?_ ?_ _ _ | with_reducible refine Kp.alloc ?_ ?_ _ | with_reducible refine Kp.drew ?_ | with_reducible refine Kp.drewN ?_ _ | with_reducible refine Kp.ext ?_ ?_ (by with_reducible assumption) | with_reducible refine Kp.fr ?_ ?_ ?_ (by with_reducible assumption) | omega | (simp; done) | (simp; omega)))).wide (by omega) (by simp)⟩, by repeat' (first | with_reducible exact Ext.refl _ | with_reducible assumption | with_reducible refine Ext.set ?_ ?_ _ _ | with_reducible refine Ext.alloc ?_ _ | with_reducible refine Ext.drew ?_ | with_reducible refine Ext.drewN ?_ _ | with_reducible refine Ext.trans ?_ (by with_reducible assumption) | omega | (simp; done) | (simp; omega))⟩
        · have he1 : (s.req == q) = false := by simp; omega
          have hne : ¬ s.req = q := by omega
          have hf : Hid (res = (m, -1, 2)) := by
            show _ = _
            rw [← Hres.out]
            exact runE_old Hb.out Hfk.out hlt
          go_wp2_with fail
          refine (l2Copy_s _ m _ B (by exact hr0.keep (keepE' (by repeat' (first | with_reducible exact Ext.refl _ | with_reducible assumption | with_reducible refine Ext.set ?_ ?_ _ _ | with_reducible refine Ext.alloc ?_ _ | with_reducible refine Ext.drew ?_ | with_reducible refine Ext.drewN ?_ _ | with_reducible refine Ext.trans ?_ (by with_reducible assumption) | omega | (simp; done) | (simp; omega))) hB)) (by first | omega | (simp; omega)) hsz).mono ?_
          rintro e w5 ⟨v5, rfl, o5, hE5⟩
          have hz5 := hE5.size
          clear p00 f00 p01 f01 p10 f10 p11 f11 p12 f12 p13 f13 p14 f14 p20 f20 p21 f21 r0 t0 r1 t1 r2 t2
          replace x00 := Bx.ext x00 hE5
          replace x01 := Bx.ext x01 hE5
          replace x10 := Bx.ext x10 hE5
          replace x11 := Bx.ext x11 hE5
          replace x12 := Bx.ext x12 hE5
          replace x13 := Bx.ext x13 hE5
          replace x14 := Bx.ext x14 hE5
          replace x20 := Bx.ext x20 hE5
          replace x21 := Bx.ext x21 hE5
          replace y0 := Bx.ext y0 hE5
          replace y1 := Bx.ext y1 hE5
          replace y2 := Bx.ext y2 hE5
          obtain ⟨p00, f00⟩ := id x00
          obtain ⟨p01, f01⟩ := id x01
          obtain ⟨p10, f10⟩ := id x10
          obtain ⟨p11, f11⟩ := id x11
          obtain ⟨p12, f12⟩ := id x12
          obtain ⟨p13, f13⟩ := id x13
          obtain ⟨p14, f14⟩ := id x14
          obtain ⟨p20, f20⟩ := id x20
          obtain ⟨p21, f21⟩ := id x21
          obtain ⟨r0, t0⟩ := id y0
          obtain ⟨r1, t1⟩ := id y1
          obtain ⟨r2, t2⟩ := id y2
          have hX5 : Ext w w5 := hX3.trans hE5
          obtain ⟨u5, s5, rfl, k1, k2⟩ := o5
          obtain ⟨A2, n2, c2, hv2, -⟩ := id k1
          obtain ⟨A3, n3, c3, hv3, -⟩ := id k2
          subst hv2 hv3
          go_wp2
          rw [hf.out]
          exact bodyPost_ret (v := .tuple #[.agg #[.slice A2 n2 c2, .slice A3 n3 c3], .int .i64 (-1), .int .i64 2]) (by simp [results, Try.results140, go_sem, p20, p21]) rfl ⟨_, rfl, ⟨_, _, rfl, (O_CellS.keep k1 (show Kp _ _ _ _ by repeat' (first | with_reducible exact Kp.refl _ _ _ | with_reducible assumption | with_reducible refine Kp.set ?_ ?_ _ _ | with_reducible refine Kp.alloc ?_ ?_ _ | with_reducible refine Kp.drew ?_ | with_reducible refine Kp.drewN ?_ _ | with_reducible refine Kp.ext ?_ ?_ (by with_reducible assumption) | with_reducible refine Kp.fr ?_ ?_ ?_ (by with_reducible assumption) | omega | (simp; done) | (simp; omega)))).wide (by omega) (by simp), (O_SeatS.keep k2 (show Kp _ _ _ _ by repeat' (first | with_reducible exact Kp.refl _ _ _ | with_reducible assumption | with_reducible refine Kp.set ?_ ?_ _ _ | with_reducible refine Kp.alloc ?_ ?_ _ | with_reducible refine Kp.drew ?_ | with_reducible refine Kp.drewN ?_ _ | with_reducible refine Kp.ext ?_ ?_ (by with_reducible assumption) | with_reducible refine Kp.fr ?_ ?_ ?_ (by with_reducible assumption) | omega | (simp; done) | (simp; omega)))).wide (by omega) (by simp)⟩, by repeat' (first | with_reducible exact Ext.refl _ | with_reducible assumption | with_reducible refine Ext.set ?_ ?_ _ _ | with_reducible refine Ext.alloc ?_ _ | with_reducible refine Ext.drew ?_ | with_reducible refine Ext.drewN ?_ _ | with_reducible refine Ext.trans ?_ (by with_reducible assumption) | omega | (simp; done) | (simp; omega))⟩
        · have he1 : (s.req == q) = false := by simp; omega
          have hne : ¬ s.req = q := by omega
          have hf : Hid (res = ((runNew m ⟨p, q, ⟨kind, key, value⟩⟩).1, (runNew m ⟨p, q, ⟨kind, key, value⟩⟩).2, 0)) := by
            show _ = _
            rw [← Hres.out]
            exact runE_new Hb.out Hfk.out hlt
          go_wp2_with fail
          refine (runCmd_s _ m kind key value _ B (by exact hr0.keep (keepE' (by repeat' (first | with_reducible exact Ext.refl _ | with_reducible assumption | with_reducible refine Ext.set ?_ ?_ _ _ | with_reducible refine Ext.alloc ?_ _ | with_reducible refine Ext.drew ?_ | with_reducible refine Ext.drewN ?_ _ | with_reducible refine Ext.trans ?_ (by with_reducible assumption) | omega | (simp; done) | (simp; omega))) hB)) (by first | omega | (simp; omega))).mono ?_
          rw [runCmd_ok (show (imageOk m && cmdOk ⟨kind, key, value⟩) = true by rw [Hok.out, Hc.out]; rfl)]
          rintro e w5 ⟨v5, rfl, o5, hE5⟩
          have hz5 := hE5.size
          clear p00 f00 p01 f01 p10 f10 p11 f11 p12 f12 p13 f13 p14 f14 p20 f20 p21 f21 r0 t0 r1 t1 r2 t2
          replace x00 := Bx.ext x00 hE5
          replace x01 := Bx.ext x01 hE5
          replace x10 := Bx.ext x10 hE5
          replace x11 := Bx.ext x11 hE5
          replace x12 := Bx.ext x12 hE5
          replace x13 := Bx.ext x13 hE5
          replace x14 := Bx.ext x14 hE5
          replace x20 := Bx.ext x20 hE5
          replace x21 := Bx.ext x21 hE5
          have hX5 : Ext w w5 := hX3.trans hE5
          obtain ⟨u5, s5, rfl, k1, k2⟩ := o5
          obtain ⟨A2, n2, c2, hv2, -⟩ := id k1
          obtain ⟨A3, n3, c3, hv3, -⟩ := id k2
          subst hv2 hv3
          clear y0 y1 y2
          have hans := (runC_good Hm.out Hc.out).2.2.2
          have hf2 : Hid (res = (⟨(runC m ⟨kind, key, value⟩).1.cells, l2K SeatD.client ⟨p, q, (runC m ⟨kind, key, value⟩).2⟩ false m.seats⟩, (runC m ⟨kind, key, value⟩).2, 0)) := by
            show _ = _
            rw [hf.out, l2K_false _ _ Hm.out.seats.asc.1]
            rfl
          clear hf
          generalize runC m ⟨kind, key, value⟩ = rc at *
          obtain ⟨⟨rcC, rcS⟩, ra⟩ := rc
          replace k1 : O_CellS w5 _ _ _ rcC := k1
          replace hans : -1 ≤ ra ∧ ra ≤ 1000000000 := hans
          replace hf2 : Hid (res = (⟨rcC, l2K SeatD.client ⟨p, q, ra⟩ false m.seats⟩, ra, 0)) := hf2
          have z0 := Bx.new w5 #[.slice A2 n2 c2, .slice A3 n3 c3] 39 0 _ rfl rfl
          have z1 := Bx.new w5 #[.slice A2 n2 c2, .slice A3 n3 c3] 39 1 _ rfl rfl
          have hlt0 := Bx.lt x00
          have hlt2 := Bx.lt x20
          replace x00 := Bx.alloc x00 (.cells #[.slice A2 n2 c2, .slice A3 n3 c3] 39)
          replace x01 := Bx.alloc x01 (.cells #[.slice A2 n2 c2, .slice A3 n3 c3] 39)
          replace x10 := Bx.alloc x10 (.cells #[.slice A2 n2 c2, .slice A3 n3 c3] 39)
          replace x11 := Bx.alloc x11 (.cells #[.slice A2 n2 c2, .slice A3 n3 c3] 39)
          replace x12 := Bx.alloc x12 (.cells #[.slice A2 n2 c2, .slice A3 n3 c3] 39)
          replace x13 := Bx.alloc x13 (.cells #[.slice A2 n2 c2, .slice A3 n3 c3] 39)
          replace x14 := Bx.alloc x14 (.cells #[.slice A2 n2 c2, .slice A3 n3 c3] 39)
          replace x20 := Bx.alloc x20 (.cells #[.slice A2 n2 c2, .slice A3 n3 c3] 39)
          replace x21 := Bx.alloc x21 (.cells #[.slice A2 n2 c2, .slice A3 n3 c3] 39)
          obtain ⟨p00, f00⟩ := id x00
          obtain ⟨p01, f01⟩ := id x01
          obtain ⟨p10, f10⟩ := id x10
          obtain ⟨p11, f11⟩ := id x11
          obtain ⟨p12, f12⟩ := id x12
          obtain ⟨p13, f13⟩ := id x13
          obtain ⟨p14, f14⟩ := id x14
          obtain ⟨p20, f20⟩ := id x20
          obtain ⟨p21, f21⟩ := id x21
          have hX6 : Ext w (w5.alloc (.cells #[.slice A2 n2 c2, .slice A3 n3 c3] 39)) := hX5.alloc _
          have hz6 : (w5.alloc (.cells #[.slice A2 n2 c2, .slice A3 n3 c3] 39)).heap.size = w5.heap.size + 1 := by simp
          replace k1 := k1.keep (keepE ((Ext.refl w5).alloc (.cells #[.slice A2 n2 c2, .slice A3 n3 c3] 39)) (Nat.le_refl _))
          have hzz0 := hX0.size
          clear hE5 k2
          go_wp2_with fail
          generalize (w5.alloc (.cells #[.slice A2 n2 c2, .slice A3 n3 c3] 39)) = W6 at *
          refine (l2Seats_s _ m.seats ⟨p, q, ra⟩ _ B (by exact hs.keep (keepE' (by repeat' (first | with_reducible exact Ext.refl _ | with_reducible assumption | with_reducible refine Ext.set ?_ ?_ _ _ | with_reducible refine Ext.alloc ?_ _ | with_reducible refine Ext.drew ?_ | with_reducible refine Ext.drewN ?_ _ | with_reducible refine Ext.trans ?_ (by with_reducible assumption) | omega | (simp; done) | (simp; omega))) hB)) (by first | omega | (simp; omega)) (by rw [Hl1.out]; omega)).mono ?_
          rintro e w7 ⟨v7, rfl, o7, hE7⟩
          have hz7 := hE7.size
          clear p00 f00 p01 f01 p10 f10 p11 f11 p12 f12 p13 f13 p14 f14 p20 f20 p21 f21
          replace x00 := Bx.ext x00 hE7
          replace x01 := Bx.ext x01 hE7
          replace x10 := Bx.ext x10 hE7
          replace x11 := Bx.ext x11 hE7
          replace x12 := Bx.ext x12 hE7
          replace x13 := Bx.ext x13 hE7
          replace x14 := Bx.ext x14 hE7
          replace x20 := Bx.ext x20 hE7
          replace x21 := Bx.ext x21 hE7
          replace z0 := Bx.ext z0 hE7
          replace z1 := Bx.ext z1 hE7
          obtain ⟨a0, b0⟩ := id z0
          obtain ⟨a1, b1⟩ := id z1
          obtain ⟨p00, f00⟩ := id x00
          obtain ⟨p01, f01⟩ := id x01
          obtain ⟨p10, f10⟩ := id x10
          obtain ⟨p11, f11⟩ := id x11
          obtain ⟨p12, f12⟩ := id x12
          obtain ⟨p13, f13⟩ := id x13
          obtain ⟨p14, f14⟩ := id x14
          obtain ⟨p20, f20⟩ := id x20
          obtain ⟨p21, f21⟩ := id x21
          obtain ⟨A4, n4, c4, hv4, -⟩ := id o7
          subst hv4
          replace k1 := k1.keep (keepE hE7 (by omega))
          have hX7 : Ext w w7 := hX6.trans hE7
          have hg1 : ¬ (w.heap.size = w5.heap.size) := by omega
          have hg2 : ¬ (w.heap.size + 1 = w5.heap.size) := by omega
          have hg3 : ¬ (w.heap.size + 1 + 1 = w5.heap.size) := by omega
          clear hE7
          go_wp2
          rw [hf2.out]
          exact bodyPost_ret (v := .tuple #[.agg #[.slice A2 n2 c2, .slice A4 n4 c4], .int .i64 ra, .int .i64 0]) (by simp [results, Try.results140, go_sem, p20, p21]) rfl ⟨_, rfl, ⟨_, _, rfl, (O_CellS.keep k1 (show Kp _ _ _ _ by repeat' (first | with_reducible exact Kp.refl _ _ _ | with_reducible assumption | with_reducible refine Kp.set ?_ ?_ _ _ | with_reducible refine Kp.alloc ?_ ?_ _ | with_reducible refine Kp.drew ?_ | with_reducible refine Kp.drewN ?_ _ | with_reducible refine Kp.ext ?_ ?_ (by with_reducible assumption) | with_reducible refine Kp.fr ?_ ?_ ?_ (by with_reducible assumption) | omega | (simp; done) | (simp; omega)))).wide (by omega) (by simp; omega), (O_SeatS.keep o7 (show Kp _ _ _ _ by repeat' (first | with_reducible exact Kp.refl _ _ _ | with_reducible assumption | with_reducible refine Kp.set ?_ ?_ _ _ | with_reducible refine Kp.alloc ?_ ?_ _ | with_reducible refine Kp.drew ?_ | with_reducible refine Kp.drewN ?_ _ | with_reducible refine Kp.ext ?_ ?_ (by with_reducible assumption) | with_reducible refine Kp.fr ?_ ?_ ?_ (by with_reducible assumption) | omega | (simp; done) | (simp; omega)))).wide (by omega) (by simp)⟩, by repeat' (first | with_reducible exact Ext.refl _ | with_reducible assumption | with_reducible refine Ext.set ?_ ?_ _ _ | with_reducible refine Ext.alloc ?_ _ | with_reducible refine Ext.drew ?_ | with_reducible refine Ext.drewN ?_ _ | with_reducible refine Ext.trans ?_ (by with_reducible assumption) | omega | (simp; done) | (simp; omega))⟩
      | none =>
        have Hfk := Lib.hid hfk
        clear hfk
        have hso : Hid (seatOf m p = (⟨0, 0, 0⟩, false)) := by show _ = _; rw [seatOf_ok Hok.out, getS_none Hfk.out]
        go_wp2_with fail
        refine (seatOf_s _ m p _ B (by exact hr0.keep (keepE' hX2 hB)) (by omega) (by omega)).mono ?_
        rw [hso.out]
        rintro e w3 ⟨rfl, hE3⟩
        have hz3 := hE3.size
        clear p00 f00 p01 f01 p10 f10 p11 f11 p12 f12 p13 f13 p14 f14 p20 f20 p21 f21
        replace x00 := Bx.ext x00 hE3
        replace x01 := Bx.ext x01 hE3
        replace x10 := Bx.ext x10 hE3
        replace x11 := Bx.ext x11 hE3
        replace x12 := Bx.ext x12 hE3
        replace x13 := Bx.ext x13 hE3
        replace x14 := Bx.ext x14 hE3
        replace x20 := Bx.ext x20 hE3
        replace x21 := Bx.ext x21 hE3
        replace x00 := Bx.alloc x00 (.cells #[.int .i64 0, .int .i64 0, .int .i64 0] 88)
        replace x01 := Bx.alloc x01 (.cells #[.int .i64 0, .int .i64 0, .int .i64 0] 88)
        replace x10 := Bx.alloc x10 (.cells #[.int .i64 0, .int .i64 0, .int .i64 0] 88)
        replace x11 := Bx.alloc x11 (.cells #[.int .i64 0, .int .i64 0, .int .i64 0] 88)
        replace x12 := Bx.alloc x12 (.cells #[.int .i64 0, .int .i64 0, .int .i64 0] 88)
        replace x13 := Bx.alloc x13 (.cells #[.int .i64 0, .int .i64 0, .int .i64 0] 88)
        replace x14 := Bx.alloc x14 (.cells #[.int .i64 0, .int .i64 0, .int .i64 0] 88)
        replace x20 := Bx.alloc x20 (.cells #[.int .i64 0, .int .i64 0, .int .i64 0] 88)
        replace x21 := Bx.alloc x21 (.cells #[.int .i64 0, .int .i64 0, .int .i64 0] 88)
        have y0 := Bx.new w3 #[.int .i64 0, .int .i64 0, .int .i64 0] 88 0 _ rfl rfl
        have y1 := Bx.new w3 #[.int .i64 0, .int .i64 0, .int .i64 0] 88 1 _ rfl rfl
        have y2 := Bx.new w3 #[.int .i64 0, .int .i64 0, .int .i64 0] 88 2 _ rfl rfl
        have hX3 : Ext w (w3.alloc (.cells #[.int .i64 0, .int .i64 0, .int .i64 0] 88)) := (hX2.trans hE3).alloc _
        have hzz3 : (w3.alloc (.cells #[.int .i64 0, .int .i64 0, .int .i64 0] 88)).heap.size = w3.heap.size + 1 := by simp
        obtain ⟨p00, f00⟩ := id x00
        obtain ⟨p01, f01⟩ := id x01
        obtain ⟨p10, f10⟩ := id x10
        obtain ⟨p11, f11⟩ := id x11
        obtain ⟨p12, f12⟩ := id x12
        obtain ⟨p13, f13⟩ := id x13
        obtain ⟨p14, f14⟩ := id x14
        obtain ⟨p20, f20⟩ := id x20
        obtain ⟨p21, f21⟩ := id x21
        obtain ⟨r0, t0⟩ := id y0
        obtain ⟨r1, t1⟩ := id y1
        obtain ⟨r2, t2⟩ := id y2
        by_cases hn10 : n1 = 10
        · have e1 : ((n1 : Int) == 10) = true := by simp [hn10]
          have e2 : (n1 == 10) = true := by simp [hn10]
          have hf : Hid (res = (m, -1, 3)) := by
            show _ = _
            rw [← Hres.out]
            exact runE_full Hb.out Hfk.out (by show m.seats.length = 10; rw [Hl1.out]; exact hn10)
          clear hn10
          go_wp2_with fail
          refine (l2Copy_s _ m _ B (by exact hr0.keep (keepE' (by repeat' (first | with_reducible exact Ext.refl _ | with_reducible assumption | with_reducible refine Ext.set ?_ ?_ _ _ | with_reducible refine Ext.alloc ?_ _ | with_reducible refine Ext.drew ?_ | with_reducible refine Ext.drewN ?_ _ | with_reducible refine Ext.trans ?_ (by with_reducible assumption) | omega | (simp; done) | (simp; omega))) hB)) (by first | omega | (simp; omega)) hsz).mono ?_
          rintro e w5 ⟨v5, rfl, o5, hE5⟩
          have hz5 := hE5.size
          clear p00 f00 p01 f01 p10 f10 p11 f11 p12 f12 p13 f13 p14 f14 p20 f20 p21 f21 r0 t0 r1 t1 r2 t2
          replace x00 := Bx.ext x00 hE5
          replace x01 := Bx.ext x01 hE5
          replace x10 := Bx.ext x10 hE5
          replace x11 := Bx.ext x11 hE5
          replace x12 := Bx.ext x12 hE5
          replace x13 := Bx.ext x13 hE5
          replace x14 := Bx.ext x14 hE5
          replace x20 := Bx.ext x20 hE5
          replace x21 := Bx.ext x21 hE5
          replace y0 := Bx.ext y0 hE5
          replace y1 := Bx.ext y1 hE5
          replace y2 := Bx.ext y2 hE5
          obtain ⟨p00, f00⟩ := id x00
          obtain ⟨p01, f01⟩ := id x01
          obtain ⟨p10, f10⟩ := id x10
          obtain ⟨p11, f11⟩ := id x11
          obtain ⟨p12, f12⟩ := id x12
          obtain ⟨p13, f13⟩ := id x13
          obtain ⟨p14, f14⟩ := id x14
          obtain ⟨p20, f20⟩ := id x20
          obtain ⟨p21, f21⟩ := id x21
          obtain ⟨r0, t0⟩ := id y0
          obtain ⟨r1, t1⟩ := id y1
          obtain ⟨r2, t2⟩ := id y2
          have hX5 : Ext w w5 := hX3.trans hE5
          obtain ⟨u5, s5, rfl, k1, k2⟩ := o5
          obtain ⟨A2, n2, c2, hv2, -⟩ := id k1
          obtain ⟨A3, n3, c3, hv3, -⟩ := id k2
          subst hv2 hv3
          go_wp2
          rw [hf.out]
          exact bodyPost_ret (v := .tuple #[.agg #[.slice A2 n2 c2, .slice A3 n3 c3], .int .i64 (-1), .int .i64 3]) (by simp [results, Try.results140, go_sem, p20, p21]) rfl ⟨_, rfl, ⟨_, _, rfl, (O_CellS.keep k1 (show Kp _ _ _ _ by repeat' (first | with_reducible exact Kp.refl _ _ _ | with_reducible assumption | with_reducible refine Kp.set ?_ ?_ _ _ | with_reducible refine Kp.alloc ?_ ?_ _ | with_reducible refine Kp.drew ?_ | with_reducible refine Kp.drewN ?_ _ | with_reducible refine Kp.ext ?_ ?_ (by with_reducible assumption) | with_reducible refine Kp.fr ?_ ?_ ?_ (by with_reducible assumption) | omega | (simp; done) | (simp; omega)))).wide (by omega) (by simp), (O_SeatS.keep k2 (show Kp _ _ _ _ by repeat' (first | with_reducible exact Kp.refl _ _ _ | with_reducible assumption | with_reducible refine Kp.set ?_ ?_ _ _ | with_reducible refine Kp.alloc ?_ ?_ _ | with_reducible refine Kp.drew ?_ | with_reducible refine Kp.drewN ?_ _ | with_reducible refine Kp.ext ?_ ?_ (by with_reducible assumption) | with_reducible refine Kp.fr ?_ ?_ ?_ (by with_reducible assumption) | omega | (simp; done) | (simp; omega)))).wide (by omega) (by simp)⟩, by repeat' (first | with_reducible exact Ext.refl _ | with_reducible assumption | with_reducible refine Ext.set ?_ ?_ _ _ | with_reducible refine Ext.alloc ?_ _ | with_reducible refine Ext.drew ?_ | with_reducible refine Ext.drewN ?_ _ | with_reducible refine Ext.trans ?_ (by with_reducible assumption) | omega | (simp; done) | (simp; omega))⟩
        · have e1 : ((n1 : Int) == 10) = false := by simp; omega
          have e2 : (n1 == 10) = false := by simp; omega
          have hf : Hid (res = ((runNew m ⟨p, q, ⟨kind, key, value⟩⟩).1, (runNew m ⟨p, q, ⟨kind, key, value⟩⟩).2, 0)) := by
            show _ = _
            rw [← Hres.out]
            exact runE_first Hb.out Hfk.out (by show ¬ m.seats.length = 10; rw [Hl1.out]; exact hn10)
          go_wp2_with fail
          refine (runCmd_s _ m kind key value _ B (by exact hr0.keep (keepE' (by repeat' (first | with_reducible exact Ext.refl _ | with_reducible assumption | with_reducible refine Ext.set ?_ ?_ _ _ | with_reducible refine Ext.alloc ?_ _ | with_reducible refine Ext.drew ?_ | with_reducible refine Ext.drewN ?_ _ | with_reducible refine Ext.trans ?_ (by with_reducible assumption) | omega | (simp; done) | (simp; omega))) hB)) (by first | omega | (simp; omega))).mono ?_
          rw [runCmd_ok (show (imageOk m && cmdOk ⟨kind, key, value⟩) = true by rw [Hok.out, Hc.out]; rfl)]
          rintro e w5 ⟨v5, rfl, o5, hE5⟩
          have hz5 := hE5.size
          clear p00 f00 p01 f01 p10 f10 p11 f11 p12 f12 p13 f13 p14 f14 p20 f20 p21 f21 r0 t0 r1 t1 r2 t2
          replace x00 := Bx.ext x00 hE5
          replace x01 := Bx.ext x01 hE5
          replace x10 := Bx.ext x10 hE5
          replace x11 := Bx.ext x11 hE5
          replace x12 := Bx.ext x12 hE5
          replace x13 := Bx.ext x13 hE5
          replace x14 := Bx.ext x14 hE5
          replace x20 := Bx.ext x20 hE5
          replace x21 := Bx.ext x21 hE5
          have hX5 : Ext w w5 := hX3.trans hE5
          obtain ⟨u5, s5, rfl, k1, k2⟩ := o5
          obtain ⟨A2, n2, c2, hv2, -⟩ := id k1
          obtain ⟨A3, n3, c3, hv3, -⟩ := id k2
          subst hv2 hv3
          clear y0 y1 y2
          have hans := (runC_good Hm.out Hc.out).2.2.2
          have hf2 : Hid (res = (⟨(runC m ⟨kind, key, value⟩).1.cells, l2K SeatD.client ⟨p, q, (runC m ⟨kind, key, value⟩).2⟩ false m.seats⟩, (runC m ⟨kind, key, value⟩).2, 0)) := by
            show _ = _
            rw [hf.out, l2K_false _ _ Hm.out.seats.asc.1]
            rfl
          clear hf
          generalize runC m ⟨kind, key, value⟩ = rc at *
          obtain ⟨⟨rcC, rcS⟩, ra⟩ := rc
          replace k1 : O_CellS w5 _ _ _ rcC := k1
          replace hans : -1 ≤ ra ∧ ra ≤ 1000000000 := hans
          replace hf2 : Hid (res = (⟨rcC, l2K SeatD.client ⟨p, q, ra⟩ false m.seats⟩, ra, 0)) := hf2
          have z0 := Bx.new w5 #[.slice A2 n2 c2, .slice A3 n3 c3] 39 0 _ rfl rfl
          have z1 := Bx.new w5 #[.slice A2 n2 c2, .slice A3 n3 c3] 39 1 _ rfl rfl
          have hlt0 := Bx.lt x00
          have hlt2 := Bx.lt x20
          replace x00 := Bx.alloc x00 (.cells #[.slice A2 n2 c2, .slice A3 n3 c3] 39)
          replace x01 := Bx.alloc x01 (.cells #[.slice A2 n2 c2, .slice A3 n3 c3] 39)
          replace x10 := Bx.alloc x10 (.cells #[.slice A2 n2 c2, .slice A3 n3 c3] 39)
          replace x11 := Bx.alloc x11 (.cells #[.slice A2 n2 c2, .slice A3 n3 c3] 39)
          replace x12 := Bx.alloc x12 (.cells #[.slice A2 n2 c2, .slice A3 n3 c3] 39)
          replace x13 := Bx.alloc x13 (.cells #[.slice A2 n2 c2, .slice A3 n3 c3] 39)
          replace x14 := Bx.alloc x14 (.cells #[.slice A2 n2 c2, .slice A3 n3 c3] 39)
          replace x20 := Bx.alloc x20 (.cells #[.slice A2 n2 c2, .slice A3 n3 c3] 39)
          replace x21 := Bx.alloc x21 (.cells #[.slice A2 n2 c2, .slice A3 n3 c3] 39)
          obtain ⟨p00, f00⟩ := id x00
          obtain ⟨p01, f01⟩ := id x01
          obtain ⟨p10, f10⟩ := id x10
          obtain ⟨p11, f11⟩ := id x11
          obtain ⟨p12, f12⟩ := id x12
          obtain ⟨p13, f13⟩ := id x13
          obtain ⟨p14, f14⟩ := id x14
          obtain ⟨p20, f20⟩ := id x20
          obtain ⟨p21, f21⟩ := id x21
          have hX6 : Ext w (w5.alloc (.cells #[.slice A2 n2 c2, .slice A3 n3 c3] 39)) := hX5.alloc _
          have hz6 : (w5.alloc (.cells #[.slice A2 n2 c2, .slice A3 n3 c3] 39)).heap.size = w5.heap.size + 1 := by simp
          replace k1 := k1.keep (keepE ((Ext.refl w5).alloc (.cells #[.slice A2 n2 c2, .slice A3 n3 c3] 39)) (Nat.le_refl _))
          have hzz0 := hX0.size
          clear hE5 k2
          go_wp2_with fail
          generalize (w5.alloc (.cells #[.slice A2 n2 c2, .slice A3 n3 c3] 39)) = W6 at *
          refine (l2Seats_s _ m.seats ⟨p, q, ra⟩ _ B (by exact hs.keep (keepE' (by repeat' (first | with_reducible exact Ext.refl _ | with_reducible assumption | with_reducible refine Ext.set ?_ ?_ _ _ | with_reducible refine Ext.alloc ?_ _ | with_reducible refine Ext.drew ?_ | with_reducible refine Ext.drewN ?_ _ | with_reducible refine Ext.trans ?_ (by with_reducible assumption) | omega | (simp; done) | (simp; omega))) hB)) (by first | omega | (simp; omega)) (by rw [Hl1.out]; omega)).mono ?_
          rintro e w7 ⟨v7, rfl, o7, hE7⟩
          have hz7 := hE7.size
          clear p00 f00 p01 f01 p10 f10 p11 f11 p12 f12 p13 f13 p14 f14 p20 f20 p21 f21
          replace x00 := Bx.ext x00 hE7
          replace x01 := Bx.ext x01 hE7
          replace x10 := Bx.ext x10 hE7
          replace x11 := Bx.ext x11 hE7
          replace x12 := Bx.ext x12 hE7
          replace x13 := Bx.ext x13 hE7
          replace x14 := Bx.ext x14 hE7
          replace x20 := Bx.ext x20 hE7
          replace x21 := Bx.ext x21 hE7
          replace z0 := Bx.ext z0 hE7
          replace z1 := Bx.ext z1 hE7
          obtain ⟨a0, b0⟩ := id z0
          obtain ⟨a1, b1⟩ := id z1
          obtain ⟨p00, f00⟩ := id x00
          obtain ⟨p01, f01⟩ := id x01
          obtain ⟨p10, f10⟩ := id x10
          obtain ⟨p11, f11⟩ := id x11
          obtain ⟨p12, f12⟩ := id x12
          obtain ⟨p13, f13⟩ := id x13
          obtain ⟨p14, f14⟩ := id x14
          obtain ⟨p20, f20⟩ := id x20
          obtain ⟨p21, f21⟩ := id x21
          obtain ⟨A4, n4, c4, hv4, -⟩ := id o7
          subst hv4
          replace k1 := k1.keep (keepE hE7 (by omega))
          have hX7 : Ext w w7 := hX6.trans hE7
          have hg1 : ¬ (w.heap.size = w5.heap.size) := by omega
          have hg2 : ¬ (w.heap.size + 1 = w5.heap.size) := by omega
          have hg3 : ¬ (w.heap.size + 1 + 1 = w5.heap.size) := by omega
          clear hE7
          go_wp2
          rw [hf2.out]
          exact bodyPost_ret (v := .tuple #[.agg #[.slice A2 n2 c2, .slice A4 n4 c4], .int .i64 ra, .int .i64 0]) (by simp [results, Try.results140, go_sem, p20, p21]) rfl ⟨_, rfl, ⟨_, _, rfl, (O_CellS.keep k1 (show Kp _ _ _ _ by repeat' (first | with_reducible exact Kp.refl _ _ _ | with_reducible assumption | with_reducible refine Kp.set ?_ ?_ _ _ | with_reducible refine Kp.alloc ?_ ?_ _ | with_reducible refine Kp.drew ?_ | with_reducible refine Kp.drewN ?_ _ | with_reducible refine Kp.ext ?_ ?_ (by with_reducible assumption) | with_reducible refine Kp.fr ?_ ?_ ?_ (by with_reducible assumption) | omega | (simp; done) | (simp; omega)))).wide (by omega) (by simp; omega), (O_SeatS.keep o7 (show Kp _ _ _ _ by repeat' (first | with_reducible exact Kp.refl _ _ _ | with_reducible assumption | with_reducible refine Kp.set ?_ ?_ _ _ | with_reducible refine Kp.alloc ?_ ?_ _ | with_reducible refine Kp.drew ?_ | with_reducible refine Kp.drewN ?_ _ | with_reducible refine Kp.ext ?_ ?_ (by with_reducible assumption) | with_reducible refine Kp.fr ?_ ?_ ?_ (by with_reducible assumption) | omega | (simp; done) | (simp; omega)))).wide (by omega) (by simp)⟩, by repeat' (first | with_reducible exact Ext.refl _ | with_reducible assumption | with_reducible refine Ext.set ?_ ?_ _ _ | with_reducible refine Ext.alloc ?_ _ | with_reducible refine Ext.drew ?_ | with_reducible refine Ext.drewN ?_ _ | with_reducible refine Ext.trans ?_ (by with_reducible assumption) | omega | (simp; done) | (simp; omega))⟩

end Go.Proofs.Ytbfbdhjeoknjkaa
