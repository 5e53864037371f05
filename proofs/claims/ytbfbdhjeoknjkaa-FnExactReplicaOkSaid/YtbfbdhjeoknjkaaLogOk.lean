/-
  LogOk, LogEnd, LogAt, the program's and the reference's, walked.
-/
import Derived.Test.YtbfbdhjeoknjkaaLog
import Derived.Test.YtbfbdhjeoknjkaaImageOkI
import Derived.Test.YtbfbdhjeoknjkaaImageOkS
namespace Go.Proofs.Ytbfbdhjeoknjkaa
open Go.RowKit

def logOk (l : LogD) : Bool := wholeB l.base && (imageOk l.image && (decide (l.entries.length ≤ 60) && (l.entries.all entryOk && wholeB (l.base + l.entries.length))))
structure GoodL (l : LogD) : Prop where
  base : 0 ≤ l.base
  image : imageOk l.image = true
  many : l.entries.length ≤ 60
  all : l.entries.all entryOk = true
  last : l.base + l.entries.length ≤ 1000000000
theorem logOk_iff {l : LogD} : logOk l = true ↔ GoodL l := by
  unfold logOk
  simp only [Bool.and_eq_true, decide_eq_true_eq, wholeB_iff]
  constructor
  · rintro ⟨h1, h2, h3, h4, h5⟩
    exact ⟨by omega, h2, h3, h4, by omega⟩
  · rintro ⟨h1, h2, h3, h4, h5⟩
    exact ⟨by omega, h2, h3, h4, by omega⟩

theorem badEntry_any (x : EntryD) (w : World) : Calls Try.prog 96 #[.agg #[.int .i64 x.client, .int .i64 x.req, .int .i64 x.cmd.kind, .int .i64 x.cmd.key, .int .i64 x.cmd.value]] w fun e w' => e = .returned (.bool (!entryOk x)) ∧ Ext w w' := by
  go_enter Try.func96, Try.ntmps96
  go_wp2_with fail
  refine (entryOk_i _ _ _ _ _ _).mono ?_
  rintro e w1 ⟨rfl, hE1⟩
  go_wp2
  go_ret
  exact ⟨rfl, by repeat' (first | with_reducible exact Ext.refl _ | with_reducible assumption | with_reducible refine Ext.set ?_ ?_ _ _ | with_reducible refine Ext.alloc ?_ _ | with_reducible refine Ext.drew ?_ | with_reducible refine Ext.drewN ?_ _ | with_reducible refine Ext.trans ?_ (by with_reducible assumption) | omega | (simp; done) | (simp; omega))⟩

set_option maxRecDepth 100000 in
set_option maxHeartbeats 1000000 in
theorem indexBad_any (A : Option Addr) (n c : Nat) (l : List EntryD) (w : World) (B : Nat) (hr : Rd w B 5 A n (l.flatMap eEntry)) (hl : l.length = n) (hB : B ≤ w.heap.size) (hn : n ≤ 2097152) :
    Calls Try.prog 125 #[.slice A n c, .func (.func 96) #[] #[]] w fun e w' => ∃ i : Int, e = .returned (.int .i64 i) ∧ (decide (0 ≤ i) = !l.all entryOk) ∧ -1 ≤ i ∧ Ext w w' := by
  have Hl := Lib.hid hl
  clear hl
  go_enter Try.func125, Try.ntmps125
  go_wp2
  go_loopw [8] (fun iv wr => ∃ k : Nat, k ≤ n ∧ iv = .int .i64 k ∧ Hid ((l.take k).all entryOk = true) ∧ Ext w wr) (fun iv _ => n - (intOf iv).toNat)
  case atStart => exact ⟨0, by omega, rfl, by simp [Hid], by repeat' (first | with_reducible exact Ext.refl _ | with_reducible assumption | with_reducible refine Ext.set ?_ ?_ _ _ | with_reducible refine Ext.alloc ?_ _ | with_reducible refine Ext.drew ?_ | with_reducible refine Ext.drewN ?_ _ | with_reducible refine Ext.trans ?_ (by with_reducible assumption) | omega | (simp; done) | (simp; omega))⟩
  case round =>
    obtain ⟨k, hk, rfl, hok, hext⟩ := hrel
    have hsz := hext.size
    by_cases hlt : k < n
    · obtain ⟨b, off, x, rfl, hb, hx1, hc0, hc1, hc2, hc3, hc4⟩ := (hext.rd hr hB).Entry Hl.out hlt
      have Hx := Lib.hid hx1
      have hlt' : (k : Int) < (n : Int) := by omega
      clear hx1
      go_wp2_with fail
      refine (badEntry_any x _).mono ?_
      rintro e w1 ⟨rfl, hE1⟩
      cases ho : entryOk x with
      | false =>
        have hres : Hid (l.all entryOk = false) := by
          show _ = _
          rw [List.all_eq_false]
          exact ⟨x, List.mem_of_getElem? Hx.out, by simp [ho]⟩
        clear ho
        go_wp2
        go_ret
        exact ⟨k, rfl, by rw [hres.out]; simp, by omega, by repeat' (first | with_reducible exact Ext.refl _ | with_reducible assumption | with_reducible refine Ext.set ?_ ?_ _ _ | with_reducible refine Ext.alloc ?_ _ | with_reducible refine Ext.drew ?_ | with_reducible refine Ext.drewN ?_ _ | with_reducible refine Ext.trans ?_ (by with_reducible assumption) | omega | (simp; done) | (simp; omega))⟩
      | true =>
        have hok' : Hid ((l.take (k + 1)).all entryOk = true) := by
          show _ = _
          rw [take_snoc Hx.out, List.all_append, hok.out]
          simp [ho]
        clear ho
        go_wp2
        go_roundw
        case rel => exact ⟨k + 1, by omega, by go_num, hok', by repeat' (first | with_reducible exact Ext.refl _ | with_reducible assumption | with_reducible refine Ext.set ?_ ?_ _ _ | with_reducible refine Ext.alloc ?_ _ | with_reducible refine Ext.drew ?_ | with_reducible refine Ext.drewN ?_ _ | with_reducible refine Ext.trans ?_ (by with_reducible assumption) | omega | (simp; done) | (simp; omega))⟩
        case measure => simp [intOf]; omega
    · obtain rfl : n = k := by omega
      have h := hok.out
      rw [List.take_of_length_le (by rw [Hl.out]; omega)] at h
      have H := Lib.hid h
      clear h
      go_wp2
      go_ret
      exact ⟨-1, rfl, by rw [H.out]; rfl, by omega, hext⟩
theorem hasBad_any (v : Value) (l : List EntryD) (w : World) (B : Nat) (hr : R_EntryS w B v l) (hB : B ≤ w.heap.size) (hn : l.length ≤ 2097152) :
    Calls Try.prog 95 #[v, .func (.func 96) #[] #[]] w fun e w' => e = .returned (.bool (!l.all entryOk)) ∧ Ext w w' := by
  obtain ⟨A, n, c, rfl, hl, -, -, hr⟩ := hr
  go_enter Try.func95, Try.ntmps95
  go_wp2_with fail
  refine (indexBad_any A n c l _ B hr hl hB (by omega)).mono ?_
  rintro e w1 ⟨i, rfl, hi, hi1, hE1⟩
  go_wp2
  go_ret
  exact ⟨rfl, hE1⟩

set_option maxRecDepth 100000 in
set_option maxHeartbeats 4000000 in
theorem logOk_i (v : Value) (l : LogD) (w : World) (B : Nat) (hr : R_Log w B v l) (hB : B ≤ w.heap.size) :
    Calls Try.prog 50 #[v] w fun e w' => e = .returned (.bool (logOk l)) ∧ Ext w w' := by
  obtain ⟨u, s, t, rfl, hu, hs, ht⟩ := hr
  have hi : R_Image w B (.agg #[u, s]) l.image := ⟨_, _, rfl, hu, hs⟩
  have hlen := ht.len
  obtain ⟨A0, n0, c0, hv0, -⟩ := id hu
  obtain ⟨A1, n1, c1, hv1, -⟩ := id hs
  obtain ⟨A2, n2, c2, hv2, hl2, -⟩ := id ht
  subst hv0 hv1 hv2
  clear hu hs
  rw [hl2] at hlen
  have Hl2 := Lib.hid hl2
  clear hl2
  obtain ⟨res, hres⟩ : ∃ res, logOk l = res := ⟨_, rfl⟩
  rw [hres]
  have hres' := hres
  unfold logOk at hres'
  rw [Hl2.out] at hres'
  have Hres := Lib.hid hres'
  clear hres hres'
  have hn60 : n2 ≤ 60 → l.entries.length ≤ 2097152 := fun h => by rw [Hl2.out]; omega
  have Hn60 := Lib.hid hn60
  clear hn60
  go_enter Try.func50, Try.ntmps50
  go_wp2_with fail
  refine (isWhole_any _ _).mono ?_
  rintro e w1 ⟨rfl, rfl⟩
  cases hw : wholeB l.base with
  | false =>
    have hf : Hid (res = false) := by show _ = _; rw [← Hres.out, hw]; rfl
    clear hw
    go_wp2
    go_ret
    exact ⟨ret_bool hf.out.symm, by repeat' (first | with_reducible exact Ext.refl _ | with_reducible assumption | with_reducible refine Ext.set ?_ ?_ _ _ | with_reducible refine Ext.alloc ?_ _ | with_reducible refine Ext.drew ?_ | with_reducible refine Ext.drewN ?_ _ | with_reducible refine Ext.trans ?_ (by with_reducible assumption) | omega | (simp; done) | (simp; omega))⟩
  | true =>
    have hb := (wholeB_iff _).1 hw
    have Hw := Lib.hid hw
    clear hw
    go_wp2_with fail
    refine (imageOk_i _ _ _ B (by exact hi.keep (keepE' (by repeat' (first | with_reducible exact Ext.refl _ | with_reducible assumption | with_reducible refine Ext.set ?_ ?_ _ _ | with_reducible refine Ext.alloc ?_ _ | with_reducible refine Ext.drew ?_ | with_reducible refine Ext.drewN ?_ _ | with_reducible refine Ext.trans ?_ (by with_reducible assumption) | omega | (simp; done) | (simp; omega))) hB)) (by first | omega | (simp; omega))).mono ?_
    rintro e w2 ⟨rfl, hE2⟩
    have q0 := hE2.cellAt (new_box w _ #[.int .i64 l.base, .slice A0 n0 c0, .slice A1 n1 c1, .slice A2 n2 c2] 42 0 (.int .i64 l.base) rfl rfl)
    have q3 := hE2.cellAt (new_box w _ #[.int .i64 l.base, .slice A0 n0 c0, .slice A1 n1 c1, .slice A2 n2 c2] 42 3 (.slice A2 n2 c2) rfl rfl)
    have hX2 : Ext w w2 := by repeat' (first | with_reducible exact Ext.refl _ | with_reducible assumption | with_reducible refine Ext.set ?_ ?_ _ _ | with_reducible refine Ext.alloc ?_ _ | with_reducible refine Ext.drew ?_ | with_reducible refine Ext.drewN ?_ _ | with_reducible refine Ext.trans ?_ (by with_reducible assumption) | omega | (simp; done) | (simp; omega))
    have hz2 := hX2.size
    clear hE2 hi
    cases hm : imageOk l.image with
    | false =>
      have hf : Hid (res = false) := by show _ = _; rw [← Hres.out, Hw.out, hm]; rfl
      clear hm
      go_wp2
      go_ret
      exact ⟨ret_bool hf.out.symm, by repeat' (first | with_reducible exact Ext.refl _ | with_reducible assumption | with_reducible refine Ext.set ?_ ?_ _ _ | with_reducible refine Ext.alloc ?_ _ | with_reducible refine Ext.drew ?_ | with_reducible refine Ext.drewN ?_ _ | with_reducible refine Ext.trans ?_ (by with_reducible assumption) | omega | (simp; done) | (simp; omega))⟩
    | true =>
      have Hm := Lib.hid hm
      clear hm
      by_cases h60 : n2 ≤ 60
      · have d1 : decide (n2 ≤ 60) = true := by simp [h60]
        have d2 : decide ((n2 : Int) ≤ 60) = true := by simp; omega
        go_wp2_with fail
        refine (hasBad_any _ l.entries _ B (by exact ht.keep (keepE' (by repeat' (first | with_reducible exact Ext.refl _ | with_reducible assumption | with_reducible refine Ext.set ?_ ?_ _ _ | with_reducible refine Ext.alloc ?_ _ | with_reducible refine Ext.drew ?_ | with_reducible refine Ext.drewN ?_ _ | with_reducible refine Ext.trans ?_ (by with_reducible assumption) | omega | (simp; done) | (simp; omega))) hB)) (by omega) (Hn60.out h60)).mono ?_
        rintro e w3 ⟨rfl, hE3⟩
        replace q0 := hE3.cellAt q0
        replace q3 := hE3.cellAt q3
        have hX3 : Ext w w3 := hX2.trans hE3
        cases hall : l.entries.all entryOk with
        | false =>
          have hf : Hid (res = false) := by show _ = _; rw [← Hres.out, Hw.out, Hm.out, hall]; simp
          clear hall
          go_wp2
          go_ret
          exact ⟨ret_bool hf.out.symm, by repeat' (first | with_reducible exact Ext.refl _ | with_reducible assumption | with_reducible refine Ext.set ?_ ?_ _ _ | with_reducible refine Ext.alloc ?_ _ | with_reducible refine Ext.drew ?_ | with_reducible refine Ext.drewN ?_ _ | with_reducible refine Ext.trans ?_ (by with_reducible assumption) | omega | (simp; done) | (simp; omega))⟩
        | true =>
          have hf : Hid (res = wholeB (l.base + n2)) := by show _ = _; rw [← Hres.out, Hw.out, Hm.out, hall, d1]; rfl
          clear hall
          go_wp2_with fail
          refine (isWhole_any _ _).mono ?_
          rintro e w4 ⟨rfl, rfl⟩
          go_wp2
          go_ret
          exact ⟨ret_bool hf.out.symm, by repeat' (first | with_reducible exact Ext.refl _ | with_reducible assumption | with_reducible refine Ext.set ?_ ?_ _ _ | with_reducible refine Ext.alloc ?_ _ | with_reducible refine Ext.drew ?_ | with_reducible refine Ext.drewN ?_ _ | with_reducible refine Ext.trans ?_ (by with_reducible assumption) | omega | (simp; done) | (simp; omega))⟩
      · have d1 : decide (n2 ≤ 60) = false := by simp; omega
        have d2 : decide ((n2 : Int) ≤ 60) = false := by simp; omega
        have hf : Hid (res = false) := by show _ = _; rw [← Hres.out, Hw.out, Hm.out, d1]; rfl
        go_wp2
        go_ret
        exact ⟨ret_bool hf.out.symm, by repeat' (first | with_reducible exact Ext.refl _ | with_reducible assumption | with_reducible refine Ext.set ?_ ?_ _ _ | with_reducible refine Ext.alloc ?_ _ | with_reducible refine Ext.drew ?_ | with_reducible refine Ext.drewN ?_ _ | with_reducible refine Ext.trans ?_ (by with_reducible assumption) | omega | (simp; done) | (simp; omega))⟩

set_option maxRecDepth 100000 in
set_option maxHeartbeats 4000000 in
theorem logOk_s (v : Value) (l : LogD) (w : World) (B : Nat) (hr : R_Log w B v l) (hB : B ≤ w.heap.size) :
    Calls Try.prog 25 #[v] w fun e w' => e = .returned (.bool (logOk l)) ∧ Ext w w' := by
  obtain ⟨u, s, t, rfl, hu, hs, ht⟩ := hr
  have hi : R_Image w B (.agg #[u, s]) l.image := ⟨_, _, rfl, hu, hs⟩
  have hlen := ht.len
  obtain ⟨A0, n0, c0, hv0, -⟩ := id hu
  obtain ⟨A1, n1, c1, hv1, -⟩ := id hs
  obtain ⟨A2, n2, c2, hv2, hl2, -, -, hrd⟩ := ht
  subst hv0 hv1 hv2
  clear hu hs
  rw [hl2] at hlen
  have Hl2 := Lib.hid hl2
  clear hl2
  obtain ⟨res, hres⟩ : ∃ res, logOk l = res := ⟨_, rfl⟩
  rw [hres]
  have hres' := hres
  unfold logOk at hres'
  rw [Hl2.out] at hres'
  have Hres := Lib.hid hres'
  clear hres hres'
  go_enter Try.func25, Try.ntmps25
  go_wp2_with fail
  refine (l1Whole_any _ _).mono ?_
  rintro e w1 ⟨rfl, rfl⟩
  cases hw : wholeB l.base with
  | false =>
    have hf : Hid (res = false) := by show _ = _; rw [← Hres.out, hw]; rfl
    clear hw
    go_wp2
    go_ret
    exact ⟨ret_bool hf.out.symm, by repeat' (first | with_reducible exact Ext.refl _ | with_reducible assumption | with_reducible refine Ext.set ?_ ?_ _ _ | with_reducible refine Ext.alloc ?_ _ | with_reducible refine Ext.drew ?_ | with_reducible refine Ext.drewN ?_ _ | with_reducible refine Ext.trans ?_ (by with_reducible assumption) | omega | (simp; done) | (simp; omega))⟩
  | true =>
    have hb := (wholeB_iff _).1 hw
    have Hw := Lib.hid hw
    clear hw
    go_wp2_with fail
    refine (imageOk_s _ _ _ B (by exact hi.keep (keepE' (by repeat' (first | with_reducible exact Ext.refl _ | with_reducible assumption | with_reducible refine Ext.set ?_ ?_ _ _ | with_reducible refine Ext.alloc ?_ _ | with_reducible refine Ext.drew ?_ | with_reducible refine Ext.drewN ?_ _ | with_reducible refine Ext.trans ?_ (by with_reducible assumption) | omega | (simp; done) | (simp; omega))) hB)) (by first | omega | (simp; omega))).mono ?_
    rintro e w2 ⟨rfl, hE2⟩
    have q0 := hE2.cellAt (new_box w _ #[.int .i64 l.base, .slice A0 n0 c0, .slice A1 n1 c1, .slice A2 n2 c2] 42 0 (.int .i64 l.base) rfl rfl)
    have q3 := hE2.cellAt (new_box w _ #[.int .i64 l.base, .slice A0 n0 c0, .slice A1 n1 c1, .slice A2 n2 c2] 42 3 (.slice A2 n2 c2) rfl rfl)
    have hX2 : Ext w w2 := by repeat' (first | with_reducible exact Ext.refl _ | with_reducible assumption | with_reducible refine Ext.set ?_ ?_ _ _ | with_reducible refine Ext.alloc ?_ _ | with_reducible refine Ext.drew ?_ | with_reducible refine Ext.drewN ?_ _ | with_reducible refine Ext.trans ?_ (by with_reducible assumption) | omega | (simp; done) | (simp; omega))
    have hz2 := hX2.size
    clear hE2 hi
    cases hm : imageOk l.image with
    | false =>
      have hf : Hid (res = false) := by show _ = _; rw [← Hres.out, Hw.out, hm]; rfl
      clear hm
      go_wp2
      go_ret
      exact ⟨ret_bool hf.out.symm, by repeat' (first | with_reducible exact Ext.refl _ | with_reducible assumption | with_reducible refine Ext.set ?_ ?_ _ _ | with_reducible refine Ext.alloc ?_ _ | with_reducible refine Ext.drew ?_ | with_reducible refine Ext.drewN ?_ _ | with_reducible refine Ext.trans ?_ (by with_reducible assumption) | omega | (simp; done) | (simp; omega))⟩
    | true =>
      have Hm := Lib.hid hm
      clear hm
      by_cases h60 : n2 ≤ 60
      · have d1 : decide (n2 ≤ 60) = true := by simp [h60]
        have d2 : decide ((60 : Int) < (n2 : Int)) = false := by simp; omega
        have d3 : decide (60 < n2) = false := by simp; omega
        go_wp2_with fail
        refine (l1Whole_any _ _).mono ?_
        rintro e w3 ⟨rfl, rfl⟩
        cases hlast : wholeB (l.base + n2) with
        | false =>
          have hf : Hid (res = false) := by show _ = _; rw [← Hres.out, Hw.out, Hm.out, hlast]; simp
          clear hlast
          go_wp2
          go_ret
          exact ⟨ret_bool hf.out.symm, by repeat' (first | with_reducible exact Ext.refl _ | with_reducible assumption | with_reducible refine Ext.set ?_ ?_ _ _ | with_reducible refine Ext.alloc ?_ _ | with_reducible refine Ext.drew ?_ | with_reducible refine Ext.drewN ?_ _ | with_reducible refine Ext.trans ?_ (by with_reducible assumption) | omega | (simp; done) | (simp; omega))⟩
        | true =>
          have hf : Hid (res = l.entries.all entryOk) := by show _ = _; rw [← Hres.out, Hw.out, Hm.out, hlast, d1]; simp
          clear hlast
          go_wp2
          go_loopw [3] (fun iv wr => ∃ k : Nat, k ≤ n2 ∧ iv = .int .i64 k ∧ Hid ((l.entries.take k).all entryOk = true) ∧ wr.cell? ⟨w.heap.size, 3, none⟩ = some (.slice A2 n2 c2) ∧ Ext w wr) (fun iv _ => n2 - (intOf iv).toNat)
          case atStart => exact ⟨0, by omega, rfl, by simp [Hid], q3, hX2⟩
          case round =>
            obtain ⟨k, hk, rfl, hok, q3, hext⟩ := hrel
            have hsz := hext.size
            by_cases hlt : k < n2
            · obtain ⟨b, off, x, rfl, hb2, hx1, hc0, hc1, hc2, hc3, hc4⟩ := (hext.rd hrd hB).Entry Hl2.out hlt
              have Hx := Lib.hid hx1
              have hlt' : (k : Int) < (n2 : Int) := by omega
              clear hx1
              go_wp2_with fail
              refine (entryOk_s _ _ _ _ _ _).mono ?_
              rintro e w4 ⟨rfl, hE4⟩
              replace q3 := hE4.cellAt q3
              cases ho : entryOk x with
              | false =>
                have hres : Hid (res = false) := by
                  show _ = _
                  rw [hf.out, List.all_eq_false]
                  exact ⟨x, List.mem_of_getElem? Hx.out, by simp [ho]⟩
                clear ho
                go_wp2
                go_ret
                exact ⟨ret_bool hres.out.symm, by repeat' (first | with_reducible exact Ext.refl _ | with_reducible assumption | with_reducible refine Ext.set ?_ ?_ _ _ | with_reducible refine Ext.alloc ?_ _ | with_reducible refine Ext.drew ?_ | with_reducible refine Ext.drewN ?_ _ | with_reducible refine Ext.trans ?_ (by with_reducible assumption) | omega | (simp; done) | (simp; omega))⟩
              | true =>
                have hok' : Hid ((l.entries.take (k + 1)).all entryOk = true) := by
                  show _ = _
                  rw [take_snoc Hx.out, List.all_append, hok.out]
                  simp [ho]
                clear ho
                go_wp2
                go_roundw
                case rel => exact ⟨k + 1, by omega, by go_num, hok', q3, by repeat' (first | with_reducible exact Ext.refl _ | with_reducible assumption | with_reducible refine Ext.set ?_ ?_ _ _ | with_reducible refine Ext.alloc ?_ _ | with_reducible refine Ext.drew ?_ | with_reducible refine Ext.drewN ?_ _ | with_reducible refine Ext.trans ?_ (by with_reducible assumption) | omega | (simp; done) | (simp; omega))⟩
                case measure => simp [intOf]; omega
            · obtain rfl : n2 = k := by omega
              have h := hok.out
              rw [List.take_of_length_le (by rw [Hl2.out]; omega)] at h
              have H : Hid (res = true) := by show _ = _; rw [hf.out, h]
              clear h
              go_wp2
              go_ret
              exact ⟨ret_bool H.out.symm, hext⟩
      · have d1 : decide (n2 ≤ 60) = false := by simp; omega
        have d2 : decide ((60 : Int) < (n2 : Int)) = true := by simp; omega
        have d3 : decide (60 < n2) = true := by simp; omega
        have hf : Hid (res = false) := by show _ = _; rw [← Hres.out, Hw.out, Hm.out, d1]; rfl
        go_wp2
        go_ret
        exact ⟨ret_bool hf.out.symm, by repeat' (first | with_reducible exact Ext.refl _ | with_reducible assumption | with_reducible refine Ext.set ?_ ?_ _ _ | with_reducible refine Ext.alloc ?_ _ | with_reducible refine Ext.drew ?_ | with_reducible refine Ext.drewN ?_ _ | with_reducible refine Ext.trans ?_ (by with_reducible assumption) | omega | (simp; done) | (simp; omega))⟩

end Go.Proofs.Ytbfbdhjeoknjkaa
