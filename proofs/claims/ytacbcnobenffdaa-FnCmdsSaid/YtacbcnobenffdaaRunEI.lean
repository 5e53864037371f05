/-
  RunEntry of the program, walked.
-/
import Derived.Test.YtacbcnobenffdaaRun2
import Derived.Test.YtacbcnobenffdaaPut3
import Derived.Deep.DeepCutAuto
namespace Go.Proofs.Ytacbcnobenffdaa
open Go.RowKit

set_option maxRecDepth 100000 in
set_option maxHeartbeats 8000000 in
theorem runEntry_i (v : Value) (m : ImageD) (p q kind key value : Int) (w : World) (B : Nat) (hr : R_Image w B v m) (hB : B ≤ w.heap.size) :
    Calls Try.prog 24 #[v, .agg #[.int .i64 p, .int .i64 q, .int .i64 kind, .int .i64 key, .int .i64 value]] w fun e w' => ∃ v', e = .returned (.tuple #[v', .int .i64 (runEntry m ⟨p, q, ⟨kind, key, value⟩⟩).2.1, .int .i64 ((runEntry m ⟨p, q, ⟨kind, key, value⟩⟩).2.2 : Int)]) ∧ O_Image w' w.heap.size w'.heap.size v' (runEntry m ⟨p, q, ⟨kind, key, value⟩⟩).1 ∧ Ext w w' := by
  have hr0 := hr
  obtain ⟨u, s0, rfl, hu, hs⟩ := hr
  obtain ⟨A0, n0, c0, hv0, -⟩ := id hu
  obtain ⟨A1, n1, c1, hv1, hl1, -⟩ := id hs
  subst hv0 hv1
  have Hl1 := Lib.hid hl1
  clear hl1
  obtain ⟨res, hres⟩ : ∃ res, runEntry m ⟨p, q, ⟨kind, key, value⟩⟩ = res := ⟨_, rfl⟩
  rw [hres]
  have Hres := Lib.hid hres
  clear hres
  have hX0 : Ext w (((w.alloc (.cells #[.slice A0 n0 c0, .slice A1 n1 c1] 32)).alloc (.cells #[.int .i64 p, .int .i64 q, .int .i64 kind, .int .i64 key, .int .i64 value] 50)).alloc (.cells #[.slice none 0 0, .slice none 0 0] 32)) := by repeat' (first | with_reducible exact Ext.refl _ | with_reducible assumption | with_reducible refine Ext.set ?_ ?_ _ _ | with_reducible refine Ext.alloc ?_ _ | with_reducible refine Ext.drew ?_ | with_reducible refine Ext.drewN ?_ _ | with_reducible refine Ext.trans ?_ (by with_reducible assumption) | omega | (simp; done) | (simp; omega))
  have x00 : Bx (((w.alloc (.cells #[.slice A0 n0 c0, .slice A1 n1 c1] 32)).alloc (.cells #[.int .i64 p, .int .i64 q, .int .i64 kind, .int .i64 key, .int .i64 value] 50)).alloc (.cells #[.slice none 0 0, .slice none 0 0] 32)) (w.heap.size) 0 (.slice A0 n0 c0) := (((Bx.new w #[.slice A0 n0 c0, .slice A1 n1 c1] 32 0 (.slice A0 n0 c0) (by simp) rfl).alloc _).alloc _)
  have x01 : Bx (((w.alloc (.cells #[.slice A0 n0 c0, .slice A1 n1 c1] 32)).alloc (.cells #[.int .i64 p, .int .i64 q, .int .i64 kind, .int .i64 key, .int .i64 value] 50)).alloc (.cells #[.slice none 0 0, .slice none 0 0] 32)) (w.heap.size) 1 (.slice A1 n1 c1) := (((Bx.new w #[.slice A0 n0 c0, .slice A1 n1 c1] 32 1 (.slice A1 n1 c1) (by simp) rfl).alloc _).alloc _)
  have x10 : Bx (((w.alloc (.cells #[.slice A0 n0 c0, .slice A1 n1 c1] 32)).alloc (.cells #[.int .i64 p, .int .i64 q, .int .i64 kind, .int .i64 key, .int .i64 value] 50)).alloc (.cells #[.slice none 0 0, .slice none 0 0] 32)) (w.heap.size + 1) 0 (.int .i64 p) := ((Bx.new (w.alloc (.cells #[.slice A0 n0 c0, .slice A1 n1 c1] 32)) #[.int .i64 p, .int .i64 q, .int .i64 kind, .int .i64 key, .int .i64 value] 50 0 (.int .i64 p) (by simp) rfl).alloc _)
  have x11 : Bx (((w.alloc (.cells #[.slice A0 n0 c0, .slice A1 n1 c1] 32)).alloc (.cells #[.int .i64 p, .int .i64 q, .int .i64 kind, .int .i64 key, .int .i64 value] 50)).alloc (.cells #[.slice none 0 0, .slice none 0 0] 32)) (w.heap.size + 1) 1 (.int .i64 q) := ((Bx.new (w.alloc (.cells #[.slice A0 n0 c0, .slice A1 n1 c1] 32)) #[.int .i64 p, .int .i64 q, .int .i64 kind, .int .i64 key, .int .i64 value] 50 1 (.int .i64 q) (by simp) rfl).alloc _)
  have x12 : Bx (((w.alloc (.cells #[.slice A0 n0 c0, .slice A1 n1 c1] 32)).alloc (.cells #[.int .i64 p, .int .i64 q, .int .i64 kind, .int .i64 key, .int .i64 value] 50)).alloc (.cells #[.slice none 0 0, .slice none 0 0] 32)) (w.heap.size + 1) 2 (.int .i64 kind) := ((Bx.new (w.alloc (.cells #[.slice A0 n0 c0, .slice A1 n1 c1] 32)) #[.int .i64 p, .int .i64 q, .int .i64 kind, .int .i64 key, .int .i64 value] 50 2 (.int .i64 kind) (by simp) rfl).alloc _)
  have x13 : Bx (((w.alloc (.cells #[.slice A0 n0 c0, .slice A1 n1 c1] 32)).alloc (.cells #[.int .i64 p, .int .i64 q, .int .i64 kind, .int .i64 key, .int .i64 value] 50)).alloc (.cells #[.slice none 0 0, .slice none 0 0] 32)) (w.heap.size + 1) 3 (.int .i64 key) := ((Bx.new (w.alloc (.cells #[.slice A0 n0 c0, .slice A1 n1 c1] 32)) #[.int .i64 p, .int .i64 q, .int .i64 kind, .int .i64 key, .int .i64 value] 50 3 (.int .i64 key) (by simp) rfl).alloc _)
  have x14 : Bx (((w.alloc (.cells #[.slice A0 n0 c0, .slice A1 n1 c1] 32)).alloc (.cells #[.int .i64 p, .int .i64 q, .int .i64 kind, .int .i64 key, .int .i64 value] 50)).alloc (.cells #[.slice none 0 0, .slice none 0 0] 32)) (w.heap.size + 1) 4 (.int .i64 value) := ((Bx.new (w.alloc (.cells #[.slice A0 n0 c0, .slice A1 n1 c1] 32)) #[.int .i64 p, .int .i64 q, .int .i64 kind, .int .i64 key, .int .i64 value] 50 4 (.int .i64 value) (by simp) rfl).alloc _)
  have x20 : Bx (((w.alloc (.cells #[.slice A0 n0 c0, .slice A1 n1 c1] 32)).alloc (.cells #[.int .i64 p, .int .i64 q, .int .i64 kind, .int .i64 key, .int .i64 value] 50)).alloc (.cells #[.slice none 0 0, .slice none 0 0] 32)) (w.heap.size + 1 + 1) 0 (.slice none 0 0) := (Bx.new ((w.alloc (.cells #[.slice A0 n0 c0, .slice A1 n1 c1] 32)).alloc (.cells #[.int .i64 p, .int .i64 q, .int .i64 kind, .int .i64 key, .int .i64 value] 50)) #[.slice none 0 0, .slice none 0 0] 32 0 (.slice none 0 0) (by simp) rfl)
  have x21 : Bx (((w.alloc (.cells #[.slice A0 n0 c0, .slice A1 n1 c1] 32)).alloc (.cells #[.int .i64 p, .int .i64 q, .int .i64 kind, .int .i64 key, .int .i64 value] 50)).alloc (.cells #[.slice none 0 0, .slice none 0 0] 32)) (w.heap.size + 1 + 1) 1 (.slice none 0 0) := (Bx.new ((w.alloc (.cells #[.slice A0 n0 c0, .slice A1 n1 c1] 32)).alloc (.cells #[.int .i64 p, .int .i64 q, .int .i64 kind, .int .i64 key, .int .i64 value] 50)) #[.slice none 0 0, .slice none 0 0] 32 1 (.slice none 0 0) (by simp) rfl)
  have zz0 : (((w.alloc (.cells #[.slice A0 n0 c0, .slice A1 n1 c1] 32)).alloc (.cells #[.int .i64 p, .int .i64 q, .int .i64 kind, .int .i64 key, .int .i64 value] 50)).alloc (.cells #[.slice none 0 0, .slice none 0 0] 32)).heap.size = w.heap.size + 3 := by simp
  have hbad : (imageOk m && entryOk ⟨p, q, ⟨kind, key, value⟩⟩) = false → Hid (res = (⟨[], []⟩, 0, 1)) := by
    intro h
    show _ = _
    rw [← Hres.out]
    exact runE_bad h
  have Hbad := Lib.hid hbad
  clear hbad
  obtain ⟨ok, hok⟩ : ∃ ok, imageOk m = ok := ⟨_, rfl⟩
  obtain ⟨ok2, hok2⟩ : ∃ ok2, entryOk ⟨p, q, ⟨kind, key, value⟩⟩ = ok2 := ⟨_, rfl⟩
  have Hok := Lib.hid hok
  have Hok2 := Lib.hid hok2
  clear hok hok2
  go_enter Try.func24, Try.ntmps24
  go_wp2_with fail
  generalize (((w.alloc (.cells #[.slice A0 n0 c0, .slice A1 n1 c1] 32)).alloc (.cells #[.int .i64 p, .int .i64 q, .int .i64 kind, .int .i64 key, .int .i64 value] 50)).alloc (.cells #[.slice none 0 0, .slice none 0 0] 32)) = W0 at *
  refine (imageOk_i _ m _ B (by exact hr0.keep (keepE' hX0 hB)) (by omega)).mono ?_
  rw [Hok.out]
  rintro e w1 ⟨rfl, hE1⟩
  have hz1 := hE1.size
  replace x00 := Bx.ext x00 hE1
  replace x01 := Bx.ext x01 hE1
  replace x10 := Bx.ext x10 hE1
  replace x11 := Bx.ext x11 hE1
  replace x12 := Bx.ext x12 hE1
  replace x13 := Bx.ext x13 hE1
  replace x14 := Bx.ext x14 hE1
  replace x20 := Bx.ext x20 hE1
  replace x21 := Bx.ext x21 hE1
  obtain ⟨p00, f00⟩ := id x00
  obtain ⟨p01, f01⟩ := id x01
  obtain ⟨p10, f10⟩ := id x10
  obtain ⟨p11, f11⟩ := id x11
  obtain ⟨p12, f12⟩ := id x12
  obtain ⟨p13, f13⟩ := id x13
  obtain ⟨p14, f14⟩ := id x14
  obtain ⟨p20, f20⟩ := id x20
  obtain ⟨p21, f21⟩ := id x21
  have hX1 : Ext w w1 := hX0.trans hE1
  cases ok with
  | false =>
    have hf := Hbad.out (by rw [Hok.out]; rfl)
    go_wp2
    rw [hf.out]
    exact bodyPost_ret (v := .tuple #[.agg #[.slice none 0 0, .slice none 0 0], .int .i64 0, .int .i64 1]) (by simp [results, Try.results24, go_sem, p20, p21]) rfl ⟨_, rfl, ⟨_, _, rfl, OwnS.nil _, OwnS.nil _⟩, by repeat' (first | with_reducible exact Ext.refl _ | with_reducible assumption | with_reducible refine Ext.set ?_ ?_ _ _ | with_reducible refine Ext.alloc ?_ _ | with_reducible refine Ext.drew ?_ | with_reducible refine Ext.drewN ?_ _ | with_reducible refine Ext.trans ?_ (by with_reducible assumption) | omega | (simp; done) | (simp; omega))⟩
  | true =>
    go_wp2_with fail
    refine (entryOk_i p q kind key value _).mono ?_
    rw [Hok2.out]
    rintro e w2 ⟨rfl, hE2⟩
    have hz2 := hE2.size
    clear p00 f00 p01 f01 p10 f10 p11 f11 p12 f12 p13 f13 p14 f14 p20 f20 p21 f21
    replace x00 := Bx.ext x00 hE2
    replace x01 := Bx.ext x01 hE2
    replace x10 := Bx.ext x10 hE2
    replace x11 := Bx.ext x11 hE2
    replace x12 := Bx.ext x12 hE2
    replace x13 := Bx.ext x13 hE2
    replace x14 := Bx.ext x14 hE2
    replace x20 := Bx.ext x20 hE2
    replace x21 := Bx.ext x21 hE2
    obtain ⟨p00, f00⟩ := id x00
    obtain ⟨p01, f01⟩ := id x01
    obtain ⟨p10, f10⟩ := id x10
    obtain ⟨p11, f11⟩ := id x11
    obtain ⟨p12, f12⟩ := id x12
    obtain ⟨p13, f13⟩ := id x13
    obtain ⟨p14, f14⟩ := id x14
    obtain ⟨p20, f20⟩ := id x20
    obtain ⟨p21, f21⟩ := id x21
    have hX2 : Ext w w2 := hX1.trans hE2
    cases ok2 with
    | false =>
      have hf := Hbad.out (by rw [Hok.out, Hok2.out]; rfl)
      go_wp2
      rw [hf.out]
      exact bodyPost_ret (v := .tuple #[.agg #[.slice none 0 0, .slice none 0 0], .int .i64 0, .int .i64 1]) (by simp [results, Try.results24, go_sem, p20, p21]) rfl ⟨_, rfl, ⟨_, _, rfl, OwnS.nil _, OwnS.nil _⟩, by repeat' (first | with_reducible exact Ext.refl _ | with_reducible assumption | with_reducible refine Ext.set ?_ ?_ _ _ | with_reducible refine Ext.alloc ?_ _ | with_reducible refine Ext.drew ?_ | with_reducible refine Ext.drewN ?_ _ | with_reducible refine Ext.trans ?_ (by with_reducible assumption) | omega | (simp; done) | (simp; omega))⟩
    | true =>
      have Hb : Hid ((imageOk m && entryOk ⟨p, q, ⟨kind, key, value⟩⟩) = true) := by show _ = _; rw [Hok.out, Hok2.out]; rfl
      have Hm := Lib.hid (imageOk_iff.1 Hok.out)
      obtain ⟨hp, hq, hc⟩ := entryOk_parts Hok2.out
      replace hp : 0 ≤ p ∧ p ≤ 1000000000 := hp
      replace hq : 1 ≤ q ∧ q ≤ 1000000000 := hq
      have Hc := Lib.hid hc
      clear hc
      have hnc := Hm.out.nc
      have hns := Hm.out.ns
      have hsz : szI m ≤ 2097152 := by unfold szI; omega
      rw [Hl1.out] at hns
      have hrd : Rd w B 3 A1 n1 (m.seats.flatMap eSeat) := by
        obtain ⟨A, n, c, hv, -, -, -, h⟩ := hs
        injection hv with h1 h2 h3
        subst h1 h2 h3
        exact h
      go_wp2_with fail
      refine (seatFor_any _ m p _ B (by exact hr0.keep (keepE' hX2 hB)) (by omega) (by rw [Hl1.out]; omega) (by omega) Hm.out.seats.fits).mono ?_
      rintro e w3 ⟨i, rfl, hbs, hE3⟩
      have hz3 := hE3.size
      clear p00 f00 p01 f01 p10 f10 p11 f11 p12 f12 p13 f13 p14 f14 p20 f20 p21 f21
      replace x00 := Bx.ext x00 hE3
      replace x01 := Bx.ext x01 hE3
      replace x10 := Bx.ext x10 hE3
      replace x11 := Bx.ext x11 hE3
      replace x12 := Bx.ext x12 hE3
      replace x13 := Bx.ext x13 hE3
      replace x14 := Bx.ext x14 hE3
      replace x20 := Bx.ext x20 hE3
      replace x21 := Bx.ext x21 hE3
      obtain ⟨p00, f00⟩ := id x00
      obtain ⟨p01, f01⟩ := id x01
      obtain ⟨p10, f10⟩ := id x10
      obtain ⟨p11, f11⟩ := id x11
      obtain ⟨p12, f12⟩ := id x12
      obtain ⟨p13, f13⟩ := id x13
      obtain ⟨p14, f14⟩ := id x14
      obtain ⟨p20, f20⟩ := id x20
      obtain ⟨p21, f21⟩ := id x21
      have hX3 : Ext w w3 := hX2.trans hE3
      have hpos := hbs.pos Hm.out.seats.asc hp
      have Hpos : Hid (posOf (m.seats.map SeatD.client) p = i) := hpos
      clear hpos
      have hile : i ≤ m.seats.length := by have := hbs.le; rwa [keySeat, List.length_map] at this
      rw [Hl1.out] at hile
      obtain ⟨o, ho⟩ : ∃ o, findK SeatD.client m.seats p = o := ⟨_, rfl⟩
      have hfd := hbs.found Hm.out.seats.asc
      have his := findK_isSome (key := SeatD.client) (l := m.seats) (k := p)
      rw [ho] at his
      have hfd2 : foundAt (keySeat m.seats) p i = o.isSome := by rw [his]; exact hfd
      clear hfd
      cases o with
      | none =>
        have Hfk := Lib.hid ho
        simp only [Option.isSome_none] at hfd2 his
        have Hnot : Hid (p ∉ m.seats.map SeatD.client) := of_decide_eq_false his.symm
        rw [hfd2]
        clear hfd2 his hbs ho
        by_cases hn10 : n1 = 10
        · have e1 : ((n1 : Int) == 10) = true := by simp [hn10]
          have e2 : (n1 == 10) = true := by simp [hn10]
          have hf : Hid (res = (m, -1, 3)) := by
            show _ = _
            rw [← Hres.out]
            exact runE_full Hb.out Hfk.out (by show m.seats.length = 10; rw [Hl1.out]; exact hn10)
          clear hn10
          go_wp2_with fail
          go_quiet (fail)
          have hQ : Ext w3 (w3.drewN nq) := (Ext.refl _).drewN _
          clear p00 f00 p01 f01 p10 f10 p11 f11 p12 f12 p13 f13 p14 f14 p20 f20 p21 f21
          replace x00 := Bx.ext x00 hQ
          replace x01 := Bx.ext x01 hQ
          replace x10 := Bx.ext x10 hQ
          replace x11 := Bx.ext x11 hQ
          replace x12 := Bx.ext x12 hQ
          replace x13 := Bx.ext x13 hQ
          replace x14 := Bx.ext x14 hQ
          replace x20 := Bx.ext x20 hQ
          replace x21 := Bx.ext x21 hQ
          have hXwq1 := hX3.trans hQ
          have hzwq1 := hQ.size
          clear hQ
          generalize w3.drewN nq = wq1 at *
          clear nq
          obtain ⟨p00, f00⟩ := id x00
          obtain ⟨p01, f01⟩ := id x01
          obtain ⟨p10, f10⟩ := id x10
          obtain ⟨p11, f11⟩ := id x11
          obtain ⟨p12, f12⟩ := id x12
          obtain ⟨p13, f13⟩ := id x13
          obtain ⟨p14, f14⟩ := id x14
          obtain ⟨p20, f20⟩ := id x20
          obtain ⟨p21, f21⟩ := id x21
          go_wp2_with fail
          go_quiet (fail)
          have hQ : Ext wq1 (wq1.drewN nq) := (Ext.refl _).drewN _
          clear p00 f00 p01 f01 p10 f10 p11 f11 p12 f12 p13 f13 p14 f14 p20 f20 p21 f21
          replace x00 := Bx.ext x00 hQ
          replace x01 := Bx.ext x01 hQ
          replace x10 := Bx.ext x10 hQ
          replace x11 := Bx.ext x11 hQ
          replace x12 := Bx.ext x12 hQ
          replace x13 := Bx.ext x13 hQ
          replace x14 := Bx.ext x14 hQ
          replace x20 := Bx.ext x20 hQ
          replace x21 := Bx.ext x21 hQ
          have hXwq2 := hXwq1.trans hQ
          have hzwq2 := hQ.size
          clear hQ
          generalize wq1.drewN nq = wq2 at *
          clear nq
          obtain ⟨p00, f00⟩ := id x00
          obtain ⟨p01, f01⟩ := id x01
          obtain ⟨p10, f10⟩ := id x10
          obtain ⟨p11, f11⟩ := id x11
          obtain ⟨p12, f12⟩ := id x12
          obtain ⟨p13, f13⟩ := id x13
          obtain ⟨p14, f14⟩ := id x14
          obtain ⟨p20, f20⟩ := id x20
          obtain ⟨p21, f21⟩ := id x21
          go_wp2_with fail
          refine (copyImage_i _ m _ B (by exact hr0.keep (keepE' (by exact hXwq2) hB)) (by omega) hsz).mono ?_
          rintro e w5 ⟨v5, rfl, o5, hE5⟩
          have hz5 := hE5.size
          clear p00 f00 p01 f01 p10 f10 p11 f11 p12 f12 p13 f13 p14 f14 p20 f20 p21 f21
          replace x00 := Bx.ext x00 hE5
          replace x01 := Bx.ext x01 hE5
          replace x10 := Bx.ext x10 hE5
          replace x11 := Bx.ext x11 hE5
          replace x12 := Bx.ext x12 hE5
          replace x13 := Bx.ext x13 hE5
          replace x14 := Bx.ext x14 hE5
          replace x20 := Bx.ext x20 hE5
          replace x21 := Bx.ext x21 hE5
          obtain ⟨p00, f00⟩ := id x00
          obtain ⟨p01, f01⟩ := id x01
          obtain ⟨p10, f10⟩ := id x10
          obtain ⟨p11, f11⟩ := id x11
          obtain ⟨p12, f12⟩ := id x12
          obtain ⟨p13, f13⟩ := id x13
          obtain ⟨p14, f14⟩ := id x14
          obtain ⟨p20, f20⟩ := id x20
          obtain ⟨p21, f21⟩ := id x21
          have hX5 : Ext w w5 := hXwq2.trans hE5
          obtain ⟨u5, s5, rfl, k1, k2⟩ := o5
          obtain ⟨A2, n2, c2, hv2, -⟩ := id k1
          obtain ⟨A3, n3, c3, hv3, -⟩ := id k2
          subst hv2 hv3
          go_wp2
          rw [hf.out]
          exact bodyPost_ret (v := .tuple #[.agg #[.slice A2 n2 c2, .slice A3 n3 c3], .int .i64 (-1), .int .i64 3]) (by simp [results, Try.results24, go_sem, p20, p21]) rfl ⟨_, rfl, ⟨_, _, rfl, (O_CellS.keep k1 (show Kp _ _ _ _ by repeat' (first | with_reducible exact Kp.refl _ _ _ | with_reducible assumption | with_reducible refine Kp.set ?_ ?_ _ _ | with_reducible refine Kp.alloc ?_ ?_ _ | with_reducible refine Kp.drew ?_ | with_reducible refine Kp.drewN ?_ _ | with_reducible refine Kp.ext ?_ ?_ (by with_reducible assumption) | with_reducible refine Kp.fr ?_ ?_ ?_ (by with_reducible assumption) | omega | (simp; done) | (simp; omega)))).wide (by omega) (by first | (simp; done) | (simp; omega)), (O_SeatS.keep k2 (show Kp _ _ _ _ by repeat' (first | with_reducible exact Kp.refl _ _ _ | with_reducible assumption | with_reducible refine Kp.set ?_ ?_ _ _ | with_reducible refine Kp.alloc ?_ ?_ _ | with_reducible refine Kp.drew ?_ | with_reducible refine Kp.drewN ?_ _ | with_reducible refine Kp.ext ?_ ?_ (by with_reducible assumption) | with_reducible refine Kp.fr ?_ ?_ ?_ (by with_reducible assumption) | omega | (simp; done) | (simp; omega)))).wide (by omega) (by first | (simp; done) | (simp; omega))⟩, by repeat' (first | with_reducible exact Ext.refl _ | with_reducible assumption | with_reducible refine Ext.set ?_ ?_ _ _ | with_reducible refine Ext.alloc ?_ _ | with_reducible refine Ext.drew ?_ | with_reducible refine Ext.drewN ?_ _ | with_reducible refine Ext.trans ?_ (by with_reducible assumption) | omega | (simp; done) | (simp; omega))⟩
        · have e1 : ((n1 : Int) == 10) = false := by simp; omega
          have e2 : (n1 == 10) = false := by simp; omega
          have hf : Hid (res = ((runNew m ⟨p, q, ⟨kind, key, value⟩⟩).1, (runNew m ⟨p, q, ⟨kind, key, value⟩⟩).2, 0)) := by
            show _ = _
            rw [← Hres.out]
            exact runE_first Hb.out Hfk.out (by show ¬ m.seats.length = 10; rw [Hl1.out]; exact hn10)
          go_wp2_with fail
          go_quiet (fail)
          have hQ : Ext w3 (w3.drewN nq) := (Ext.refl _).drewN _
          clear p00 f00 p01 f01 p10 f10 p11 f11 p12 f12 p13 f13 p14 f14 p20 f20 p21 f21
          replace x00 := Bx.ext x00 hQ
          replace x01 := Bx.ext x01 hQ
          replace x10 := Bx.ext x10 hQ
          replace x11 := Bx.ext x11 hQ
          replace x12 := Bx.ext x12 hQ
          replace x13 := Bx.ext x13 hQ
          replace x14 := Bx.ext x14 hQ
          replace x20 := Bx.ext x20 hQ
          replace x21 := Bx.ext x21 hQ
          have hXwq1 := hX3.trans hQ
          have hzwq1 := hQ.size
          clear hQ
          generalize w3.drewN nq = wq1 at *
          clear nq
          obtain ⟨p00, f00⟩ := id x00
          obtain ⟨p01, f01⟩ := id x01
          obtain ⟨p10, f10⟩ := id x10
          obtain ⟨p11, f11⟩ := id x11
          obtain ⟨p12, f12⟩ := id x12
          obtain ⟨p13, f13⟩ := id x13
          obtain ⟨p14, f14⟩ := id x14
          obtain ⟨p20, f20⟩ := id x20
          obtain ⟨p21, f21⟩ := id x21
          go_wp2_with fail
          go_quiet (fail)
          have hQ : Ext wq1 (wq1.drewN nq) := (Ext.refl _).drewN _
          clear p00 f00 p01 f01 p10 f10 p11 f11 p12 f12 p13 f13 p14 f14 p20 f20 p21 f21
          replace x00 := Bx.ext x00 hQ
          replace x01 := Bx.ext x01 hQ
          replace x10 := Bx.ext x10 hQ
          replace x11 := Bx.ext x11 hQ
          replace x12 := Bx.ext x12 hQ
          replace x13 := Bx.ext x13 hQ
          replace x14 := Bx.ext x14 hQ
          replace x20 := Bx.ext x20 hQ
          replace x21 := Bx.ext x21 hQ
          have hXwq2 := hXwq1.trans hQ
          have hzwq2 := hQ.size
          clear hQ
          generalize wq1.drewN nq = wq2 at *
          clear nq
          obtain ⟨p00, f00⟩ := id x00
          obtain ⟨p01, f01⟩ := id x01
          obtain ⟨p10, f10⟩ := id x10
          obtain ⟨p11, f11⟩ := id x11
          obtain ⟨p12, f12⟩ := id x12
          obtain ⟨p13, f13⟩ := id x13
          obtain ⟨p14, f14⟩ := id x14
          obtain ⟨p20, f20⟩ := id x20
          obtain ⟨p21, f21⟩ := id x21
          go_wp2_with fail
          refine (run_i _ m kind key value _ B (by exact hr0.keep (keepE' (by exact hXwq2) hB)) (by omega) Hm.out Hc.out).mono ?_
          rintro e w5 ⟨v5, rfl, o5, hE5⟩
          have hz5 := hE5.size
          clear p00 f00 p01 f01 p10 f10 p11 f11 p12 f12 p13 f13 p14 f14 p20 f20 p21 f21
          replace x00 := Bx.ext x00 hE5
          replace x01 := Bx.ext x01 hE5
          replace x10 := Bx.ext x10 hE5
          replace x11 := Bx.ext x11 hE5
          replace x12 := Bx.ext x12 hE5
          replace x13 := Bx.ext x13 hE5
          replace x14 := Bx.ext x14 hE5
          replace x20 := Bx.ext x20 hE5
          replace x21 := Bx.ext x21 hE5
          have hX5 : Ext w w5 := hXwq2.trans hE5
          have hg0 := runC_good Hm.out Hc.out
          have hans := hg0.2.2.2
          have hrs := hg0.2.2.1
          clear hg0
          have hf2 : Hid (res = (⟨(runC m ⟨kind, key, value⟩).1.cells, putK SeatD.client m.seats ⟨p, q, (runC m ⟨kind, key, value⟩).2⟩⟩, (runC m ⟨kind, key, value⟩).2, 0)) := hf
          clear hf
          generalize runC m ⟨kind, key, value⟩ = rc at *
          obtain ⟨⟨rcC, rcS⟩, ra⟩ := rc
          replace hrs : rcS = m.seats := hrs
          subst hrs
          replace hans : -1 ≤ ra ∧ ra ≤ 1000000000 := hans
          replace hf2 : Hid (res = (⟨rcC, putK SeatD.client m.seats ⟨p, q, ra⟩⟩, ra, 0)) := hf2
          obtain ⟨u5, s5, rfl, k1, k2⟩ := o5
          obtain ⟨A2, n2, c2, hv2, hl2, o2⟩ := k1
          obtain ⟨A3, n3, c3, hv3, hl3, o3⟩ := k2
          subst hv2 hv3
          have hn3 : n1 = n3 := by rw [← Hl1.out]; exact hl3
          subst hn3
          replace o2 : Own w5 _ _ _ _ _ _ (rcC.flatMap eCell) := o2
          replace o3 : Own w5 _ _ _ _ _ _ (m.seats.flatMap eSeat) := o3
          replace hl2 : rcC.length = n2 := hl2
          have z0 := Bx.alloc (Bx.new w5 #[.slice A2 n2 c2, .slice A3 n1 c3] 32 0 _ rfl rfl) (.cells #[.int .i64 p, .int .i64 q, .int .i64 ra] 56)
          have z1 := Bx.alloc (Bx.new w5 #[.slice A2 n2 c2, .slice A3 n1 c3] 32 1 _ rfl rfl) (.cells #[.int .i64 p, .int .i64 q, .int .i64 ra] 56)
          have d0 := Bx.new (w5.alloc (.cells #[.slice A2 n2 c2, .slice A3 n1 c3] 32)) #[.int .i64 p, .int .i64 q, .int .i64 ra] 56 0 (.int .i64 p) rfl rfl
          have d1 := Bx.new (w5.alloc (.cells #[.slice A2 n2 c2, .slice A3 n1 c3] 32)) #[.int .i64 p, .int .i64 q, .int .i64 ra] 56 1 (.int .i64 q) rfl rfl
          have d2 := Bx.new (w5.alloc (.cells #[.slice A2 n2 c2, .slice A3 n1 c3] 32)) #[.int .i64 p, .int .i64 q, .int .i64 ra] 56 2 (.int .i64 ra) rfl rfl
          have hlt0 := Bx.lt x00
          have hlt2 := Bx.lt x20
          replace x00 := Bx.alloc x00 (.cells #[.slice A2 n2 c2, .slice A3 n1 c3] 32)
          replace x01 := Bx.alloc x01 (.cells #[.slice A2 n2 c2, .slice A3 n1 c3] 32)
          replace x10 := Bx.alloc x10 (.cells #[.slice A2 n2 c2, .slice A3 n1 c3] 32)
          replace x11 := Bx.alloc x11 (.cells #[.slice A2 n2 c2, .slice A3 n1 c3] 32)
          replace x12 := Bx.alloc x12 (.cells #[.slice A2 n2 c2, .slice A3 n1 c3] 32)
          replace x13 := Bx.alloc x13 (.cells #[.slice A2 n2 c2, .slice A3 n1 c3] 32)
          replace x14 := Bx.alloc x14 (.cells #[.slice A2 n2 c2, .slice A3 n1 c3] 32)
          replace x20 := Bx.alloc x20 (.cells #[.slice A2 n2 c2, .slice A3 n1 c3] 32)
          replace x21 := Bx.alloc x21 (.cells #[.slice A2 n2 c2, .slice A3 n1 c3] 32)
          have h10 := x10.1
          have h11 := x11.1
          replace x00 := Bx.alloc x00 (.cells #[.int .i64 p, .int .i64 q, .int .i64 ra] 56)
          replace x01 := Bx.alloc x01 (.cells #[.int .i64 p, .int .i64 q, .int .i64 ra] 56)
          replace x10 := Bx.alloc x10 (.cells #[.int .i64 p, .int .i64 q, .int .i64 ra] 56)
          replace x11 := Bx.alloc x11 (.cells #[.int .i64 p, .int .i64 q, .int .i64 ra] 56)
          replace x12 := Bx.alloc x12 (.cells #[.int .i64 p, .int .i64 q, .int .i64 ra] 56)
          replace x13 := Bx.alloc x13 (.cells #[.int .i64 p, .int .i64 q, .int .i64 ra] 56)
          replace x14 := Bx.alloc x14 (.cells #[.int .i64 p, .int .i64 q, .int .i64 ra] 56)
          replace x20 := Bx.alloc x20 (.cells #[.int .i64 p, .int .i64 q, .int .i64 ra] 56)
          replace x21 := Bx.alloc x21 (.cells #[.int .i64 p, .int .i64 q, .int .i64 ra] 56)
          have hQ : Ext w5 ((w5.alloc (.cells #[.slice A2 n2 c2, .slice A3 n1 c3] 32)).alloc (.cells #[.int .i64 p, .int .i64 q, .int .i64 ra] 56)) := ((Ext.refl _).alloc _).alloc _
          replace o2 := hQ.own o2 (Nat.le_refl _)
          replace o3 := hQ.own o3 (Nat.le_refl _)
          have hX6 := hX5.trans hQ
          have hs6 : ((w5.alloc (.cells #[.slice A2 n2 c2, .slice A3 n1 c3] 32)).alloc (.cells #[.int .i64 p, .int .i64 q, .int .i64 ra] 56)).heap.size = w5.heap.size + 2 := by simp
          have hs5 : (w5.alloc (.cells #[.slice A2 n2 c2, .slice A3 n1 c3] 32)).heap.size = w5.heap.size + 1 := by simp
          have hzW := hX0.size
          clear hE5 hQ
          rw [hs5] at d0 d1 d2
          obtain ⟨p00, f00⟩ := id x00
          obtain ⟨p01, f01⟩ := id x01
          obtain ⟨p10, f10⟩ := id x10
          obtain ⟨p11, f11⟩ := id x11
          obtain ⟨p12, f12⟩ := id x12
          obtain ⟨p13, f13⟩ := id x13
          obtain ⟨p14, f14⟩ := id x14
          obtain ⟨p20, f20⟩ := id x20
          obtain ⟨p21, f21⟩ := id x21
          obtain ⟨a0, b0_⟩ := id z0
          obtain ⟨a1, b1_⟩ := id z1
          obtain ⟨g0, g0_⟩ := id d0
          obtain ⟨g1, g1_⟩ := id d1
          obtain ⟨g2, g2_⟩ := id d2
          have hwb := ((Ext.refl (w5.alloc (.cells #[.slice A2 n2 c2, .slice A3 n1 c3] 32))).alloc (.cells #[.int .i64 p, .int .i64 q, .int .i64 ra] 56)).blockAt (heap_alloc_new w5 (.cells #[.slice A2 n2 c2, .slice A3 n1 c3] 32))
          go_wp2_with fail
          generalize ((w5.alloc (.cells #[.slice A2 n2 c2, .slice A3 n1 c3] 32)).alloc (.cells #[.int .i64 p, .int .i64 q, .int .i64 ra] 56)) = W6 at *
          have hvb : (W6.alloc (.cells #[.int .i64 p, .int .i64 q, .int .i64 ra] 56)).heap[w5.heap.size + 2]? = some (.cells #[.int .i64 p, .int .i64 q, .int .i64 ra] 56 (0, 0)) := by
            rw [← hs6]
            exact heap_alloc_new W6 _
          refine (insertSeat_any A3 n1 c3 i (w5.heap.size + 2) m.seats ⟨p, q, ra⟩ _ _ _ (((Ext.refl _).alloc _).own o3 (by omega)) hl3 (by omega) (by omega) (by simp; omega) (by omega) hvb).mono ?_
          rintro e w7 ⟨A6, c6, rfl, o6, hg6⟩
          have hFr : Fr _ _ _ w7 := Fr.of_grown hg6 (fun g h => o3.lt g h)
          have k1 := OwnS.of ((((Ext.refl W6).alloc _).own o2 (by omega)).apart (((Ext.refl W6).alloc _).own o3 (by omega)) (by decide) hg6) hl2
          have hX7 : Ext w w7 := (hX6.alloc _).grown hg6 (fun g h => by have := (o3.lt g h).1; omega)
          clear p00 f00 p01 f01 p10 f10 p11 f11 p12 f12 p13 f13 p14 f14 p20 f20 p21 f21
          replace x20 := Bx.fr (Bx.alloc x20 _) hFr (by omega)
          replace x21 := Bx.fr (Bx.alloc x21 _) hFr (by omega)
          replace z0 := Bx.fr (Bx.alloc z0 _) hFr (by omega)
          replace z1 := Bx.fr (Bx.alloc z1 _) hFr (by omega)
          clear a0 b0_ a1 b1_
          obtain ⟨a0, b0_⟩ := id z0
          obtain ⟨a1, b1_⟩ := id z1
          obtain ⟨p20, f20⟩ := id x20
          obtain ⟨p21, f21⟩ := id x21
          have hz7 := hg6.size
          simp only [World.size_alloc] at hz7
          have hf3 : Hid (res = (⟨rcC, m.seats.take i ++ (⟨p, q, ra⟩ : SeatD) :: m.seats.drop i⟩, ra, 0)) := by
            show _ = _
            rw [hf2.out, ← put_insert Hm.out.seats.asc.1 Hnot.out (d := ⟨p, q, ra⟩) rfl, Hpos.out]
          have hW5 : W6.heap[w5.heap.size]? = some (.cells #[.slice A2 n2 c2, .slice A3 n1 c3] 32 (0, 0)) := hwb
          have hW7 : w7.heap[w5.heap.size]? = some (.cells #[.slice A2 n2 c2, .slice A3 n1 c3] 32 (0, 0)) := (hFr.block _ (by simp; omega) (by omega)).trans (((Ext.refl W6).alloc _).blockAt hW5)
          have k2 : O_SeatS (w7.setCell ⟨w5.heap.size, 1, none⟩ (.slice A6 (n1 + 1) c6)) _ _ _ _ := OwnS.of (o6.dodge hW7 (by decide) 1 _) (by simp only [List.length_append, List.length_take, List.length_cons, List.length_drop]; omega)
          have q7 : ¬ (w.heap.size + 1 + 1 = w5.heap.size) := by omega
          clear o2 o3 o6 hg6 hf2
          go_wp2
          rw [hf3.out]
          exact bodyPost_ret (v := .tuple #[.agg #[.slice A2 n2 c2, .slice A6 (n1 + 1) c6], .int .i64 ra, .int .i64 0]) (by simp [results, Try.results24, go_sem, p20, p21]) rfl ⟨_, rfl, ⟨_, _, rfl, (O_CellS.keep k1 (show Kp _ _ _ _ by repeat' (first | with_reducible exact Kp.refl _ _ _ | with_reducible assumption | with_reducible refine Kp.set ?_ ?_ _ _ | with_reducible refine Kp.alloc ?_ ?_ _ | with_reducible refine Kp.drew ?_ | with_reducible refine Kp.drewN ?_ _ | with_reducible refine Kp.ext ?_ ?_ (by with_reducible assumption) | with_reducible refine Kp.fr ?_ ?_ ?_ (by with_reducible assumption) | omega | (simp; done) | (simp; omega)))).wide (by omega) (by first | (simp; done) | (simp; omega)), (O_SeatS.keep k2 (show Kp _ _ _ _ by repeat' (first | with_reducible exact Kp.refl _ _ _ | with_reducible assumption | with_reducible refine Kp.set ?_ ?_ _ _ | with_reducible refine Kp.alloc ?_ ?_ _ | with_reducible refine Kp.drew ?_ | with_reducible refine Kp.drewN ?_ _ | with_reducible refine Kp.ext ?_ ?_ (by with_reducible assumption) | with_reducible refine Kp.fr ?_ ?_ ?_ (by with_reducible assumption) | omega | (simp; done) | (simp; omega)))).wide (by omega) (by first | (simp; done) | (simp; omega))⟩, by repeat' (first | with_reducible exact Ext.refl _ | with_reducible assumption | with_reducible refine Ext.set ?_ ?_ _ _ | with_reducible refine Ext.alloc ?_ _ | with_reducible refine Ext.drew ?_ | with_reducible refine Ext.drewN ?_ _ | with_reducible refine Ext.trans ?_ (by with_reducible assumption) | omega | (simp; done) | (simp; omega))⟩
      | some s =>
        have hfi : m.seats[i]? = some s := by
          have h0 : (m.seats.map (·.client))[i]? = some p := of_decide_eq_true hfd2
          rw [List.getElem?_map, Option.map_eq_some_iff] at h0
          obtain ⟨d', h1, h2⟩ := h0
          have := findK_at Hm.out.seats.asc.1 h1 h2
          rw [ho] at this
          injection this with this
          rw [this]
          exact h1
        have hin : i < n1 := by rw [← Hl1.out]; exact (List.getElem?_eq_some_iff.1 hfi).1
        obtain ⟨b0, off, x, hA1, hb, hx1, hd0, hd1, hd2⟩ := (hX3.rd hrd hB).Seat Hl1.out hin
        have hxd : x = s := by
          rw [hfi] at hx1
          injection hx1 with hx1
          exact hx1.symm
        simp only [Option.isSome_some] at hfd2
        rw [hfd2]
        rw [hxd] at hd0 hd1 hd2
        have Hsc : Hid (s.client = p) := findK_key ho
        have Hfk := Lib.hid ho
        have Hfi := Lib.hid hfi
        have Hfp : Hid (m.seats[posOf (m.seats.map SeatD.client) p]? = some s) := by show _ = _; rw [Hpos.out]; exact hfi
        have hsv := Hm.out.seats.val s (findK_mem ho)
        have hbw : b0 < w.heap.size := by omega
        clear hfd2 his hbs ho hx1 hxd hfi
        subst hA1
        have hi0 : (i : Int) < (n1 : Int) := by omega
        have hc3 : s.req = q ∨ q < s.req ∨ s.req < q := by omega
        rcases hc3 with he | hlt | hlt
        · subst he
          have hf : Hid (res = (m, s.answer, 2)) := by
            show _ = _
            rw [← Hres.out]
            exact runE_same Hb.out Hfk.out rfl
          go_wp2_with fail
          go_quiet (fail)
          have hQ : Ext w3 (w3.drewN nq) := (Ext.refl _).drewN _
          clear p00 f00 p01 f01 p10 f10 p11 f11 p12 f12 p13 f13 p14 f14 p20 f20 p21 f21
          replace x00 := Bx.ext x00 hQ
          replace x01 := Bx.ext x01 hQ
          replace x10 := Bx.ext x10 hQ
          replace x11 := Bx.ext x11 hQ
          replace x12 := Bx.ext x12 hQ
          replace x13 := Bx.ext x13 hQ
          replace x14 := Bx.ext x14 hQ
          replace x20 := Bx.ext x20 hQ
          replace x21 := Bx.ext x21 hQ
          replace hd0 := hQ.cellAt hd0
          replace hd1 := hQ.cellAt hd1
          replace hd2 := hQ.cellAt hd2
          have hXwq1 := hX3.trans hQ
          have hzwq1 := hQ.size
          clear hQ
          generalize w3.drewN nq = wq1 at *
          clear nq
          obtain ⟨p00, f00⟩ := id x00
          obtain ⟨p01, f01⟩ := id x01
          obtain ⟨p10, f10⟩ := id x10
          obtain ⟨p11, f11⟩ := id x11
          obtain ⟨p12, f12⟩ := id x12
          obtain ⟨p13, f13⟩ := id x13
          obtain ⟨p14, f14⟩ := id x14
          obtain ⟨p20, f20⟩ := id x20
          obtain ⟨p21, f21⟩ := id x21
          go_wp2_with fail
          have hzd : wq1.drew.heap.size = wq1.heap.size := rfl
          have hgy := Bx.lt x20
          have hi0 : (i : Int) < (n1 : Int) := by omega
          go_region_held3 (fun w' => w'.cell? ⟨w.heap.size, 0, none⟩ = some (.slice A0 n0 c0) ∧ w'.cell? ⟨w.heap.size, 1, none⟩ = some (.slice (some ⟨b0, off, none⟩) n1 c1) ∧ w'.cell? ⟨b0, off + i * 3 + 2, none⟩ = some (.int .i64 s.answer)) (first | exact ⟨p00, p01, hd2⟩ | exact ⟨by (repeat rw [cell_set_ne _ _ _ _ _ _ (by omega)]); exact p00, by (repeat rw [cell_set_ne _ _ _ _ _ _ (by omega)]); exact p01, by (repeat rw [cell_set_ne _ _ _ _ _ _ (by omega)]); exact hd2⟩)
            (first
              | (go_at_call 59; refine (copyImage_i _ m _ B (by exact hr0.keep (keepE' (by first | exact hXwq1 | exact hXwq1.drew | exact hXwq1.drewN _) hB)) (by first | omega | (simp; omega)) hsz).mono ?_; rintro e w5 ⟨v5, rfl, o5, hE5⟩; have hk : Ext wq1 w5 := (by first | exact hE5 | exact ((Ext.refl _).drew).trans hE5 | exact ((Ext.refl _).drewN _).trans hE5); have hz5 := hk.size; have hX5 := hXwq1.trans hk; clear p00 f00 p01 f01 p10 f10 p11 f11 p12 f12 p13 f13 p14 f14 p20 f20 p21 f21; replace x00 := Bx.ext x00 hk; replace x01 := Bx.ext x01 hk; replace x10 := Bx.ext x10 hk; replace x11 := Bx.ext x11 hk; replace x12 := Bx.ext x12 hk; replace x13 := Bx.ext x13 hk; replace x14 := Bx.ext x14 hk; replace x20 := Bx.ext x20 hk; replace x21 := Bx.ext x21 hk; obtain ⟨p00, f00⟩ := id x00; obtain ⟨p01, f01⟩ := id x01; obtain ⟨p10, f10⟩ := id x10; obtain ⟨p11, f11⟩ := id x11; obtain ⟨p12, f12⟩ := id x12; obtain ⟨p13, f13⟩ := id x13; obtain ⟨p14, f14⟩ := id x14; obtain ⟨p20, f20⟩ := id x20; obtain ⟨p21, f21⟩ := id x21; replace hd2 := hk.cellAt hd2; obtain ⟨u5, s5, rfl, k1, k2⟩ := o5; obtain ⟨A2, n2, c2, hv2, -⟩ := id k1; obtain ⟨A3, n3, c3, hv3, -⟩ := id k2; subst hv2 hv3))
          all_goals go_wp2
          all_goals rw [hf.out]
          all_goals
            exact bodyPost_ret (v := .tuple #[.agg #[.slice A2 n2 c2, .slice A3 n3 c3], .int .i64 s.answer, .int .i64 2]) (by simp [results, Try.results24, go_sem, p20, p21]) rfl ⟨_, rfl, ⟨_, _, rfl, (O_CellS.keep k1 (show Kp _ _ _ _ by repeat' (first | with_reducible exact Kp.refl _ _ _ | with_reducible assumption | with_reducible refine Kp.set ?_ ?_ _ _ | with_reducible refine Kp.alloc ?_ ?_ _ | with_reducible refine Kp.drew ?_ | with_reducible refine Kp.drewN ?_ _ | with_reducible refine Kp.ext ?_ ?_ (by with_reducible assumption) | with_reducible refine Kp.fr ?_ ?_ ?_ (by with_reducible assumption) | omega | (simp; done) | (simp; omega)))).wide (by omega) (by simp), (O_SeatS.keep k2 (show Kp _ _ _ _ by repeat' (first | with_reducible exact Kp.refl _ _ _ | with_reducible assumption | with_reducible refine Kp.set ?_ ?_ _ _ | with_reducible refine Kp.alloc ?_ ?_ _ | with_reducible refine Kp.drew ?_ | with_reducible refine Kp.drewN ?_ _ | with_reducible refine Kp.ext ?_ ?_ (by with_reducible assumption) | with_reducible refine Kp.fr ?_ ?_ ?_ (by with_reducible assumption) | omega | (simp; done) | (simp; omega)))).wide (by omega) (by simp)⟩, by repeat' (first | with_reducible exact Ext.refl _ | with_reducible assumption | with_reducible refine Ext.set ?_ ?_ _ _ | with_reducible refine Ext.alloc ?_ _ | with_reducible refine Ext.drew ?_ | with_reducible refine Ext.drewN ?_ _ | with_reducible refine Ext.trans ?_ (by with_reducible assumption) | omega | (simp; done) | (simp; omega))⟩
        · have he1 : (s.req == q) = false := by simp; omega
          have hne : ¬ s.req = q := by omega
          have hf : Hid (res = (m, -1, 2)) := by
            show _ = _
            rw [← Hres.out]
            exact runE_old Hb.out Hfk.out hlt
          go_wp2_with fail
          go_quiet (fail)
          have hQ : Ext w3 (w3.drewN nq) := (Ext.refl _).drewN _
          clear p00 f00 p01 f01 p10 f10 p11 f11 p12 f12 p13 f13 p14 f14 p20 f20 p21 f21
          replace x00 := Bx.ext x00 hQ
          replace x01 := Bx.ext x01 hQ
          replace x10 := Bx.ext x10 hQ
          replace x11 := Bx.ext x11 hQ
          replace x12 := Bx.ext x12 hQ
          replace x13 := Bx.ext x13 hQ
          replace x14 := Bx.ext x14 hQ
          replace x20 := Bx.ext x20 hQ
          replace x21 := Bx.ext x21 hQ
          replace hd0 := hQ.cellAt hd0
          replace hd1 := hQ.cellAt hd1
          replace hd2 := hQ.cellAt hd2
          have hXwq1 := hX3.trans hQ
          have hzwq1 := hQ.size
          clear hQ
          generalize w3.drewN nq = wq1 at *
          clear nq
          obtain ⟨p00, f00⟩ := id x00
          obtain ⟨p01, f01⟩ := id x01
          obtain ⟨p10, f10⟩ := id x10
          obtain ⟨p11, f11⟩ := id x11
          obtain ⟨p12, f12⟩ := id x12
          obtain ⟨p13, f13⟩ := id x13
          obtain ⟨p14, f14⟩ := id x14
          obtain ⟨p20, f20⟩ := id x20
          obtain ⟨p21, f21⟩ := id x21
          go_wp2_with fail
          go_quiet (fail)
          have hQ : Ext wq1 (wq1.drewN nq) := (Ext.refl _).drewN _
          clear p00 f00 p01 f01 p10 f10 p11 f11 p12 f12 p13 f13 p14 f14 p20 f20 p21 f21
          replace x00 := Bx.ext x00 hQ
          replace x01 := Bx.ext x01 hQ
          replace x10 := Bx.ext x10 hQ
          replace x11 := Bx.ext x11 hQ
          replace x12 := Bx.ext x12 hQ
          replace x13 := Bx.ext x13 hQ
          replace x14 := Bx.ext x14 hQ
          replace x20 := Bx.ext x20 hQ
          replace x21 := Bx.ext x21 hQ
          replace hd0 := hQ.cellAt hd0
          replace hd1 := hQ.cellAt hd1
          replace hd2 := hQ.cellAt hd2
          have hXwq2 := hXwq1.trans hQ
          have hzwq2 := hQ.size
          clear hQ
          generalize wq1.drewN nq = wq2 at *
          clear nq
          obtain ⟨p00, f00⟩ := id x00
          obtain ⟨p01, f01⟩ := id x01
          obtain ⟨p10, f10⟩ := id x10
          obtain ⟨p11, f11⟩ := id x11
          obtain ⟨p12, f12⟩ := id x12
          obtain ⟨p13, f13⟩ := id x13
          obtain ⟨p14, f14⟩ := id x14
          obtain ⟨p20, f20⟩ := id x20
          obtain ⟨p21, f21⟩ := id x21
          go_wp2_with fail
          refine (copyImage_i _ m _ B (by exact hr0.keep (keepE' (by exact hXwq2) hB)) (by omega) hsz).mono ?_
          rintro e w5 ⟨v5, rfl, o5, hE5⟩
          have hz5 := hE5.size
          clear p00 f00 p01 f01 p10 f10 p11 f11 p12 f12 p13 f13 p14 f14 p20 f20 p21 f21
          replace x00 := Bx.ext x00 hE5
          replace x01 := Bx.ext x01 hE5
          replace x10 := Bx.ext x10 hE5
          replace x11 := Bx.ext x11 hE5
          replace x12 := Bx.ext x12 hE5
          replace x13 := Bx.ext x13 hE5
          replace x14 := Bx.ext x14 hE5
          replace x20 := Bx.ext x20 hE5
          replace x21 := Bx.ext x21 hE5
          obtain ⟨p00, f00⟩ := id x00
          obtain ⟨p01, f01⟩ := id x01
          obtain ⟨p10, f10⟩ := id x10
          obtain ⟨p11, f11⟩ := id x11
          obtain ⟨p12, f12⟩ := id x12
          obtain ⟨p13, f13⟩ := id x13
          obtain ⟨p14, f14⟩ := id x14
          obtain ⟨p20, f20⟩ := id x20
          obtain ⟨p21, f21⟩ := id x21
          have hX5 : Ext w w5 := hXwq2.trans hE5
          obtain ⟨u5, s5, rfl, k1, k2⟩ := o5
          obtain ⟨A2, n2, c2, hv2, -⟩ := id k1
          obtain ⟨A3, n3, c3, hv3, -⟩ := id k2
          subst hv2 hv3
          go_wp2
          rw [hf.out]
          exact bodyPost_ret (v := .tuple #[.agg #[.slice A2 n2 c2, .slice A3 n3 c3], .int .i64 (-1), .int .i64 2]) (by simp [results, Try.results24, go_sem, p20, p21]) rfl ⟨_, rfl, ⟨_, _, rfl, (O_CellS.keep k1 (show Kp _ _ _ _ by repeat' (first | with_reducible exact Kp.refl _ _ _ | with_reducible assumption | with_reducible refine Kp.set ?_ ?_ _ _ | with_reducible refine Kp.alloc ?_ ?_ _ | with_reducible refine Kp.drew ?_ | with_reducible refine Kp.drewN ?_ _ | with_reducible refine Kp.ext ?_ ?_ (by with_reducible assumption) | with_reducible refine Kp.fr ?_ ?_ ?_ (by with_reducible assumption) | omega | (simp; done) | (simp; omega)))).wide (by omega) (by first | (simp; done) | (simp; omega)), (O_SeatS.keep k2 (show Kp _ _ _ _ by repeat' (first | with_reducible exact Kp.refl _ _ _ | with_reducible assumption | with_reducible refine Kp.set ?_ ?_ _ _ | with_reducible refine Kp.alloc ?_ ?_ _ | with_reducible refine Kp.drew ?_ | with_reducible refine Kp.drewN ?_ _ | with_reducible refine Kp.ext ?_ ?_ (by with_reducible assumption) | with_reducible refine Kp.fr ?_ ?_ ?_ (by with_reducible assumption) | omega | (simp; done) | (simp; omega)))).wide (by omega) (by first | (simp; done) | (simp; omega))⟩, by repeat' (first | with_reducible exact Ext.refl _ | with_reducible assumption | with_reducible refine Ext.set ?_ ?_ _ _ | with_reducible refine Ext.alloc ?_ _ | with_reducible refine Ext.drew ?_ | with_reducible refine Ext.drewN ?_ _ | with_reducible refine Ext.trans ?_ (by with_reducible assumption) | omega | (simp; done) | (simp; omega))⟩
        · have he1 : (s.req == q) = false := by simp; omega
          have hne : ¬ s.req = q := by omega
          have hf : Hid (res = ((runNew m ⟨p, q, ⟨kind, key, value⟩⟩).1, (runNew m ⟨p, q, ⟨kind, key, value⟩⟩).2, 0)) := by
            show _ = _
            rw [← Hres.out]
            exact runE_new Hb.out Hfk.out hlt
          go_wp2_with fail
          go_quiet (fail)
          have hQ : Ext w3 (w3.drewN nq) := (Ext.refl _).drewN _
          clear p00 f00 p01 f01 p10 f10 p11 f11 p12 f12 p13 f13 p14 f14 p20 f20 p21 f21
          replace x00 := Bx.ext x00 hQ
          replace x01 := Bx.ext x01 hQ
          replace x10 := Bx.ext x10 hQ
          replace x11 := Bx.ext x11 hQ
          replace x12 := Bx.ext x12 hQ
          replace x13 := Bx.ext x13 hQ
          replace x14 := Bx.ext x14 hQ
          replace x20 := Bx.ext x20 hQ
          replace x21 := Bx.ext x21 hQ
          replace hd0 := hQ.cellAt hd0
          replace hd1 := hQ.cellAt hd1
          replace hd2 := hQ.cellAt hd2
          have hXwq1 := hX3.trans hQ
          have hzwq1 := hQ.size
          clear hQ
          generalize w3.drewN nq = wq1 at *
          clear nq
          obtain ⟨p00, f00⟩ := id x00
          obtain ⟨p01, f01⟩ := id x01
          obtain ⟨p10, f10⟩ := id x10
          obtain ⟨p11, f11⟩ := id x11
          obtain ⟨p12, f12⟩ := id x12
          obtain ⟨p13, f13⟩ := id x13
          obtain ⟨p14, f14⟩ := id x14
          obtain ⟨p20, f20⟩ := id x20
          obtain ⟨p21, f21⟩ := id x21
          go_wp2_with fail
          go_quiet (fail)
          have hQ : Ext wq1 (wq1.drewN nq) := (Ext.refl _).drewN _
          clear p00 f00 p01 f01 p10 f10 p11 f11 p12 f12 p13 f13 p14 f14 p20 f20 p21 f21
          replace x00 := Bx.ext x00 hQ
          replace x01 := Bx.ext x01 hQ
          replace x10 := Bx.ext x10 hQ
          replace x11 := Bx.ext x11 hQ
          replace x12 := Bx.ext x12 hQ
          replace x13 := Bx.ext x13 hQ
          replace x14 := Bx.ext x14 hQ
          replace x20 := Bx.ext x20 hQ
          replace x21 := Bx.ext x21 hQ
          replace hd0 := hQ.cellAt hd0
          replace hd1 := hQ.cellAt hd1
          replace hd2 := hQ.cellAt hd2
          have hXwq2 := hXwq1.trans hQ
          have hzwq2 := hQ.size
          clear hQ
          generalize wq1.drewN nq = wq2 at *
          clear nq
          obtain ⟨p00, f00⟩ := id x00
          obtain ⟨p01, f01⟩ := id x01
          obtain ⟨p10, f10⟩ := id x10
          obtain ⟨p11, f11⟩ := id x11
          obtain ⟨p12, f12⟩ := id x12
          obtain ⟨p13, f13⟩ := id x13
          obtain ⟨p14, f14⟩ := id x14
          obtain ⟨p20, f20⟩ := id x20
          obtain ⟨p21, f21⟩ := id x21
          go_wp2_with fail
          refine (run_i _ m kind key value _ B (by exact hr0.keep (keepE' (by exact hXwq2) hB)) (by omega) Hm.out Hc.out).mono ?_
          rintro e w5 ⟨v5, rfl, o5, hE5⟩
          have hz5 := hE5.size
          clear p00 f00 p01 f01 p10 f10 p11 f11 p12 f12 p13 f13 p14 f14 p20 f20 p21 f21
          replace x00 := Bx.ext x00 hE5
          replace x01 := Bx.ext x01 hE5
          replace x10 := Bx.ext x10 hE5
          replace x11 := Bx.ext x11 hE5
          replace x12 := Bx.ext x12 hE5
          replace x13 := Bx.ext x13 hE5
          replace x14 := Bx.ext x14 hE5
          replace x20 := Bx.ext x20 hE5
          replace x21 := Bx.ext x21 hE5
          have hX5 : Ext w w5 := hXwq2.trans hE5
          have hg0 := runC_good Hm.out Hc.out
          have hans := hg0.2.2.2
          have hrs := hg0.2.2.1
          clear hg0
          have hf2 : Hid (res = (⟨(runC m ⟨kind, key, value⟩).1.cells, putK SeatD.client m.seats ⟨p, q, (runC m ⟨kind, key, value⟩).2⟩⟩, (runC m ⟨kind, key, value⟩).2, 0)) := hf
          clear hf
          generalize runC m ⟨kind, key, value⟩ = rc at *
          obtain ⟨⟨rcC, rcS⟩, ra⟩ := rc
          replace hrs : rcS = m.seats := hrs
          subst hrs
          replace hans : -1 ≤ ra ∧ ra ≤ 1000000000 := hans
          replace hf2 : Hid (res = (⟨rcC, putK SeatD.client m.seats ⟨p, q, ra⟩⟩, ra, 0)) := hf2
          obtain ⟨u5, s5, rfl, k1, k2⟩ := o5
          obtain ⟨A2, n2, c2, hv2, hl2, o2⟩ := k1
          obtain ⟨A3, n3, c3, hv3, hl3, o3⟩ := k2
          subst hv2 hv3
          have hn3 : n1 = n3 := by rw [← Hl1.out]; exact hl3
          subst hn3
          replace o2 : Own w5 _ _ _ _ _ _ (rcC.flatMap eCell) := o2
          replace o3 : Own w5 _ _ _ _ _ _ (m.seats.flatMap eSeat) := o3
          replace hl2 : rcC.length = n2 := hl2
          have z0 := Bx.alloc (Bx.new w5 #[.slice A2 n2 c2, .slice A3 n1 c3] 32 0 _ rfl rfl) (.cells #[.int .i64 p, .int .i64 q, .int .i64 ra] 56)
          have z1 := Bx.alloc (Bx.new w5 #[.slice A2 n2 c2, .slice A3 n1 c3] 32 1 _ rfl rfl) (.cells #[.int .i64 p, .int .i64 q, .int .i64 ra] 56)
          have d0 := Bx.new (w5.alloc (.cells #[.slice A2 n2 c2, .slice A3 n1 c3] 32)) #[.int .i64 p, .int .i64 q, .int .i64 ra] 56 0 (.int .i64 p) rfl rfl
          have d1 := Bx.new (w5.alloc (.cells #[.slice A2 n2 c2, .slice A3 n1 c3] 32)) #[.int .i64 p, .int .i64 q, .int .i64 ra] 56 1 (.int .i64 q) rfl rfl
          have d2 := Bx.new (w5.alloc (.cells #[.slice A2 n2 c2, .slice A3 n1 c3] 32)) #[.int .i64 p, .int .i64 q, .int .i64 ra] 56 2 (.int .i64 ra) rfl rfl
          have hlt0 := Bx.lt x00
          have hlt2 := Bx.lt x20
          replace x00 := Bx.alloc x00 (.cells #[.slice A2 n2 c2, .slice A3 n1 c3] 32)
          replace x01 := Bx.alloc x01 (.cells #[.slice A2 n2 c2, .slice A3 n1 c3] 32)
          replace x10 := Bx.alloc x10 (.cells #[.slice A2 n2 c2, .slice A3 n1 c3] 32)
          replace x11 := Bx.alloc x11 (.cells #[.slice A2 n2 c2, .slice A3 n1 c3] 32)
          replace x12 := Bx.alloc x12 (.cells #[.slice A2 n2 c2, .slice A3 n1 c3] 32)
          replace x13 := Bx.alloc x13 (.cells #[.slice A2 n2 c2, .slice A3 n1 c3] 32)
          replace x14 := Bx.alloc x14 (.cells #[.slice A2 n2 c2, .slice A3 n1 c3] 32)
          replace x20 := Bx.alloc x20 (.cells #[.slice A2 n2 c2, .slice A3 n1 c3] 32)
          replace x21 := Bx.alloc x21 (.cells #[.slice A2 n2 c2, .slice A3 n1 c3] 32)
          have h10 := x10.1
          have h11 := x11.1
          replace x00 := Bx.alloc x00 (.cells #[.int .i64 p, .int .i64 q, .int .i64 ra] 56)
          replace x01 := Bx.alloc x01 (.cells #[.int .i64 p, .int .i64 q, .int .i64 ra] 56)
          replace x10 := Bx.alloc x10 (.cells #[.int .i64 p, .int .i64 q, .int .i64 ra] 56)
          replace x11 := Bx.alloc x11 (.cells #[.int .i64 p, .int .i64 q, .int .i64 ra] 56)
          replace x12 := Bx.alloc x12 (.cells #[.int .i64 p, .int .i64 q, .int .i64 ra] 56)
          replace x13 := Bx.alloc x13 (.cells #[.int .i64 p, .int .i64 q, .int .i64 ra] 56)
          replace x14 := Bx.alloc x14 (.cells #[.int .i64 p, .int .i64 q, .int .i64 ra] 56)
          replace x20 := Bx.alloc x20 (.cells #[.int .i64 p, .int .i64 q, .int .i64 ra] 56)
          replace x21 := Bx.alloc x21 (.cells #[.int .i64 p, .int .i64 q, .int .i64 ra] 56)
          have hQ : Ext w5 ((w5.alloc (.cells #[.slice A2 n2 c2, .slice A3 n1 c3] 32)).alloc (.cells #[.int .i64 p, .int .i64 q, .int .i64 ra] 56)) := ((Ext.refl _).alloc _).alloc _
          replace o2 := hQ.own o2 (Nat.le_refl _)
          replace o3 := hQ.own o3 (Nat.le_refl _)
          have hX6 := hX5.trans hQ
          have hs6 : ((w5.alloc (.cells #[.slice A2 n2 c2, .slice A3 n1 c3] 32)).alloc (.cells #[.int .i64 p, .int .i64 q, .int .i64 ra] 56)).heap.size = w5.heap.size + 2 := by simp
          have hs5 : (w5.alloc (.cells #[.slice A2 n2 c2, .slice A3 n1 c3] 32)).heap.size = w5.heap.size + 1 := by simp
          have hzW := hX0.size
          clear hE5 hQ
          rw [hs5] at d0 d1 d2
          obtain ⟨p00, f00⟩ := id x00
          obtain ⟨p01, f01⟩ := id x01
          obtain ⟨p10, f10⟩ := id x10
          obtain ⟨p11, f11⟩ := id x11
          obtain ⟨p12, f12⟩ := id x12
          obtain ⟨p13, f13⟩ := id x13
          obtain ⟨p14, f14⟩ := id x14
          obtain ⟨p20, f20⟩ := id x20
          obtain ⟨p21, f21⟩ := id x21
          obtain ⟨a0, b0_⟩ := id z0
          obtain ⟨a1, b1_⟩ := id z1
          obtain ⟨g0, g0_⟩ := id d0
          obtain ⟨g1, g1_⟩ := id d1
          obtain ⟨g2, g2_⟩ := id d2
          go_upto_region 13 with (fail)
          generalize ((w5.alloc (.cells #[.slice A2 n2 c2, .slice A3 n1 c3] 32)).alloc (.cells #[.int .i64 p, .int .i64 q, .int .i64 ra] 56)) = W6 at *
          obtain ⟨g, cap, hv, hg1, hg2, hnc3, -⟩ := o3.row (by omega)
          injection hv with hA _ hcap
          subst hA hcap
          obtain ⟨⟨v0, hs0⟩, hf0⟩ := o3.spot (j := i * 3) (by omega)
          obtain ⟨⟨v1, hs1⟩, hf1⟩ := o3.spot (j := i * 3 + 1) (by omega)
          obtain ⟨⟨v2, hs2⟩, hf2_⟩ := o3.spot (j := i * 3 + 2) (by omega)
          have hblk : blk (.slice (some ⟨g, 0, none⟩) n1 c3) = some g := blk_row (by omega)
          have o4 := ((o3.set (by omega) (i * 3) (.int .i64 p)).set (by omega) (i * 3 + 1) (.int .i64 q)).set (by omega) (i * 3 + 2) (.int .i64 ra)
          have o5 := ((o2.apart o3 (by decide) (grownBy_setCell g (i * 3) (.int .i64 p) hblk)).apart (o3.set (by omega) (i * 3) (.int .i64 p)) (by decide) (grownBy_setCell g (i * 3 + 1) (.int .i64 q) hblk)).apart ((o3.set (by omega) (i * 3) (.int .i64 p)).set (by omega) (i * 3 + 1) (.int .i64 q)) (by decide) (grownBy_setCell g (i * 3 + 2) (.int .i64 ra) hblk)
          have hls : Hid ((((m.seats.flatMap eSeat).set (i * 3) (.int .i64 p)).set (i * 3 + 1) (.int .i64 q)).set (i * 3 + 2) (.int .i64 ra) = (m.seats.set i (⟨p, q, ra⟩ : SeatD)).flatMap eSeat) := by
            show _ = _
            have e1 := flat_set (y := (⟨p, s.req, s.answer⟩ : SeatD)) eSeat_len (by omega) Hfi.out (j := 0) (u := .int .i64 p) (by omega) (by simp [eSeat])
            have e2 := flat_set (l := m.seats.set i (⟨p, s.req, s.answer⟩ : SeatD)) (i := i) (x := (⟨p, s.req, s.answer⟩ : SeatD)) (y := (⟨p, q, s.answer⟩ : SeatD)) eSeat_len (by omega) (by rw [List.getElem?_set_self (by rw [Hl1.out]; omega)]) (j := 1) (u := .int .i64 q) (by omega) (by simp [eSeat])
            have e3 := flat_set (l := (m.seats.set i (⟨p, s.req, s.answer⟩ : SeatD)).set i (⟨p, q, s.answer⟩ : SeatD)) (i := i) (x := (⟨p, q, s.answer⟩ : SeatD)) (y := (⟨p, q, ra⟩ : SeatD)) eSeat_len (by omega) (by rw [List.getElem?_set_self (by rw [List.length_set, Hl1.out]; omega)]) (j := 2) (u := .int .i64 ra) (by omega) (by simp [eSeat])
            rw [Nat.add_zero] at e1
            rw [e1, e2, e3]
            simp
          rw [hls.out] at o4
          have hf3 : Hid (res = (⟨rcC, m.seats.set i ⟨p, q, ra⟩⟩, ra, 0)) := by
            show _ = _
            rw [hf2.out, ← put_set Hm.out.seats.asc.1 Hfp.out Hsc.out (d := ⟨p, q, ra⟩) rfl, Hpos.out]
          have q1 : ¬ g = w5.heap.size := by omega
          have q2 : ¬ w5.heap.size = g := by omega
          have q3 : ¬ g = w5.heap.size + 1 := by omega
          have q4 : ¬ w5.heap.size + 1 = g := by omega
          have q5 : ¬ g = w.heap.size + 1 + 1 := by omega
          have q6 : ¬ w.heap.size + 1 + 1 = g := by omega
          have q7 : ¬ (w.heap.size + 1 + 1 = w5.heap.size) := by omega
          have hX7 : Ext w (((W6.setCell ⟨g, i * 3, none⟩ (.int .i64 p)).setCell ⟨g, i * 3 + 1, none⟩ (.int .i64 q)).setCell ⟨g, i * 3 + 2, none⟩ (.int .i64 ra)) := ((hX6.set (by omega) _ _).set (by omega) _ _).set (by omega) _ _
          have k1 := OwnS.of o5 hl2
          have k2 := OwnS.of o4 (by rw [List.length_set]; exact Hl1.out)
          clear o2 o3 o4 o5 hls hf2
          go_wp2
          rw [hf3.out]
          exact bodyPost_ret (v := .tuple #[.agg #[.slice A2 n2 c2, .slice (some ⟨g, 0, none⟩) n1 c3], .int .i64 ra, .int .i64 0]) (by simp [results, Try.results24, go_sem, p20, p21]) rfl ⟨_, rfl, ⟨_, _, rfl, (O_CellS.keep k1 (show Kp _ _ _ _ by repeat' (first | with_reducible exact Kp.refl _ _ _ | with_reducible assumption | with_reducible refine Kp.set ?_ ?_ _ _ | with_reducible refine Kp.alloc ?_ ?_ _ | with_reducible refine Kp.drew ?_ | with_reducible refine Kp.drewN ?_ _ | with_reducible refine Kp.ext ?_ ?_ (by with_reducible assumption) | with_reducible refine Kp.fr ?_ ?_ ?_ (by with_reducible assumption) | omega | (simp; done) | (simp; omega)))).wide (by omega) (by first | (simp; done) | (simp; omega)), (O_SeatS.keep k2 (show Kp _ _ _ _ by repeat' (first | with_reducible exact Kp.refl _ _ _ | with_reducible assumption | with_reducible refine Kp.set ?_ ?_ _ _ | with_reducible refine Kp.alloc ?_ ?_ _ | with_reducible refine Kp.drew ?_ | with_reducible refine Kp.drewN ?_ _ | with_reducible refine Kp.ext ?_ ?_ (by with_reducible assumption) | with_reducible refine Kp.fr ?_ ?_ ?_ (by with_reducible assumption) | omega | (simp; done) | (simp; omega)))).wide (by omega) (by first | (simp; done) | (simp; omega))⟩, by repeat' (first | with_reducible exact Ext.refl _ | with_reducible assumption | with_reducible refine Ext.set ?_ ?_ _ _ | with_reducible refine Ext.alloc ?_ _ | with_reducible refine Ext.drew ?_ | with_reducible refine Ext.drewN ?_ _ | with_reducible refine Ext.trans ?_ (by with_reducible assumption) | omega | (simp; done) | (simp; omega))⟩

end Go.Proofs.Ytacbcnobenffdaa
