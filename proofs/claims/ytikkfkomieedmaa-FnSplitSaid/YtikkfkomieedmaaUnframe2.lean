/-
  Unframe of the program, walked.
-/
import Derived.Test.YtikkfkomieedmaaUnframe
import Derived.Test.YtikkfkomieedmaaSliceB
namespace Go.Proofs.Ytikkfkomieedmaa
open Go.RowKit

set_option maxRecDepth 100000 in
set_option maxHeartbeats 1000000 in
theorem unframe_i (v : Value) (l : List UInt8) (a : Int) (w : World) (B : Nat) (hr : R_ByteS w B v l) (hB : B ≤ w.heap.size) (hn : l.length ≤ 1073741824) :
    Calls Try.prog 15 #[v, .int .i64 a] w fun e w' => ∃ v', e = .returned (.tuple #[v', .int .i64 (unframe l a).2.1, .int .i64 (unframe l a).2.2]) ∧ O_ByteS w' w.heap.size w'.heap.size v' (unframe l a).1 ∧ Ext w w' := by
  obtain ⟨A, n, c, rfl, hl, hnc, hcm, hr⟩ := hr
  obtain ⟨i0, hi0, hz0, hz1, hz2⟩ := info_parts info_Byte
  rw [hl] at hn
  have Hl := Lib.hid hl
  obtain ⟨o, ho⟩ : ∃ o, getNum l a = o := ⟨_, rfl⟩
  rcases o with _ | ⟨x, e⟩
  · rw [unframe_none ho]
    have Ho := Lib.hid ho
    clear ho hl
    go_enter Try.func15, Try.ntmps15
    go_wp2_with fail
    refine (getNum_i _ _ _ l _ _ _ hr Hl.out (by omega)).mono ?_
    rw [Ho.out]
    dsimp only [gnV]
    rintro e1 w1 ⟨rfl, hs1⟩
    have hE1 := hs1.ext
    go_wp2
    go_ret3
    exact ⟨_, rfl, OwnS.nil _, by repeat' (first | with_reducible exact Ext.refl _ | with_reducible assumption | with_reducible refine Ext.set ?_ ?_ _ _ | with_reducible refine Ext.alloc ?_ _ | with_reducible refine Ext.drew ?_ | with_reducible refine Ext.drewN ?_ _ | with_reducible refine Ext.trans ?_ (by with_reducible assumption) | omega | (simp; done) | (simp; omega))⟩
  by_cases hx : 4000 < x
  · rw [unframe_long ho hx]
    have Ho := Lib.hid ho
    clear ho hl
    have h1 : decide (4000 < x) = true := by simp; omega
    have h2 : decide ((4000 : Int) < x) = true := by simp; omega
    go_enter Try.func15, Try.ntmps15
    go_wp2_with fail
    refine (getNum_i _ _ _ l _ _ _ hr Hl.out (by omega)).mono ?_
    rw [Ho.out]
    dsimp only [gnV]
    rintro e1 w1 ⟨rfl, hs1⟩
    have hE1 := hs1.ext
    go_wp2
    go_ret3
    exact ⟨_, rfl, OwnS.nil _, by repeat' (first | with_reducible exact Ext.refl _ | with_reducible assumption | with_reducible refine Ext.set ?_ ?_ _ _ | with_reducible refine Ext.alloc ?_ _ | with_reducible refine Ext.drew ?_ | with_reducible refine Ext.drewN ?_ _ | with_reducible refine Ext.trans ?_ (by with_reducible assumption) | omega | (simp; done) | (simp; omega))⟩
  have hlt := getNum_lt ho
  have h1 : decide (4000 < x) = false := by simp; omega
  have h2 : decide ((4000 : Int) < x) = false := by simp; omega
  by_cases hsh : l.length < e + x + 4
  · rw [unframe_short ho hx hsh]
    rw [hl] at hsh hlt
    have Ho := Lib.hid ho
    clear ho hl
    have h3 : decide ((n : Int) - e < x + 4) = true := by simp; omega
    go_enter Try.func15, Try.ntmps15
    go_wp2_with fail
    refine (getNum_i _ _ _ l _ _ _ hr Hl.out (by omega)).mono ?_
    rw [Ho.out]
    dsimp only [gnV]
    rintro e1 w1 ⟨rfl, hs1⟩
    have hE1 := hs1.ext
    go_wp2
    go_ret3
    exact ⟨_, rfl, OwnS.nil _, by repeat' (first | with_reducible exact Ext.refl _ | with_reducible assumption | with_reducible refine Ext.set ?_ ?_ _ _ | with_reducible refine Ext.alloc ?_ _ | with_reducible refine Ext.drew ?_ | with_reducible refine Ext.drewN ?_ _ | with_reducible refine Ext.trans ?_ (by with_reducible assumption) | omega | (simp; done) | (simp; omega))⟩
  · have hiff := unframe_iff ho (by omega)
    obtain ⟨h0, _, hae, _⟩ := hlt
    obtain ⟨a, rfl⟩ := Int.eq_ofNat_of_zero_le h0
    rw [Int.toNat_natCast] at hiff
    rw [hl] at hsh
    have hlen : e ≤ n := by omega
    have Hiff := Lib.hid hiff
    have hw := Lib.hid (unframe_well ho hx (by omega))
    have hb := Lib.hid (unframe_bad ho hx (by omega))
    have Ho := Lib.hid ho
    clear ho hl hiff
    generalize unframe l (a : Int) = res at *
    have h3 : decide ((n : Int) - e < x + 4) = false := by simp; omega
    go_enter Try.func15, Try.ntmps15
    go_wp2_with fail
    refine (getNum_i _ _ _ l _ _ _ hr Hl.out (by omega)).mono ?_
    rw [Ho.out]
    dsimp only [gnV]
    rintro e1 w1 ⟨rfl, hs1⟩
    have hE1 := hs1.ext
    have z1 := hE1.size
    obtain ⟨b, off, rfl, hbB, -⟩ := hr.at_ (by omega)
    have hrb := hE1.rd (hr.sub Hl.out (e := e) (x := x) (by omega)) hB
    have hout : Hid (((l.drop e).take x).length = x) := by show _ = _; rw [List.length_take, List.length_drop, Hl.out]; omega
    have hcl : R_ByteS w1 B (.slice (some ⟨b, off + e, none⟩) x (c - e)) ((l.drop e).take x) := RdS.of hrb hout.out (by omega) (by omega)
    go_wp2_with fail
    refine (cloneB_any _ _ _ _ hcl (by omega) (by rw [hout.out]; omega)).mono ?_
    rintro e2 w2 ⟨v2, rfl, o2, hE2⟩
    have z2 := hE2.size
    go_wp2_with fail
    refine (frame_i _ _ _ _ o2.rd (Nat.le_refl _) (by rw [hout.out]; omega)).mono ?_
    rintro e3 w3 ⟨v3, rfl, o3, hE3⟩
    have z3 := hE3.size
    rw [frameL_ok (by rw [hout.out]; omega)] at o3
    obtain ⟨A3, n3, c3, rfl, hl3, hnc3, hcm3, hr3⟩ := id o3.rd
    have hE3' := hE1.trans (hE2.trans hE3)
    have hrs := hE3'.rd (hr.sub Hl.out (e := a) (x := e + x + 4 - a) (by omega)) hB
    have hsl : ((l.drop a).take (e + x + 4 - a)).length = e + x + 4 - a := by rw [List.length_take, List.length_drop, Hl.out]; omega
    have hn3 : n3 ≤ 5000 := by have := frame_length_le (b := (l.drop e).take x) (by rw [hout.out]; omega); omega
    go_wp2_with fail
    refine (equalB_any _ _ _ _ _ _ _ _ _ _ _ hr3 hl3 hrs hsl (by omega) (by omega)).mono ?_
    rintro e4 w4 ⟨rfl, hs4⟩
    have hE4 := hE3'.trans hs4.ext
    have o4 := o2.keep (keepE (hE3.trans hs4.ext) (Nat.le_refl _))
    have z4 := hs4.ext.size
    clear hr3 hl3 hrs hsl o3
    by_cases heq : frame ((l.drop e).take x) = (l.drop a).take (e + x + 4 - a)
    · have hres := Lib.hid (hw.out (Hiff.out.2 heq))
      rw [decide_eq_true heq]
      clear heq
      go_wp2
      go_ret3
      rw [hres.out]
      exact ⟨_, rfl, OwnS.wide o4 (by omega) (by omega), hE4⟩
    · have hres := Lib.hid (hb.out (fun h => heq (Hiff.out.1 h)))
      rw [decide_eq_false heq]
      clear heq
      go_wp2
      go_ret3
      rw [hres.out]
      exact ⟨_, rfl, OwnS.nil _, hE4⟩

theorem unframe_len (l : List UInt8) (a : Int) : (unframe l a).1.length ≤ l.length := by
  unfold unframe
  repeat' split
  all_goals (try simp; try omega)

end Go.Proofs.Ytikkfkomieedmaa
