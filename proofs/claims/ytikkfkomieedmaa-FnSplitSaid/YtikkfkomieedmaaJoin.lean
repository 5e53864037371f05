/-
  JoinFrames and SplitFrames, the program's and the reference's, walked.
-/
import Derived.Test.YtikkfkomieedmaaLists
import Derived.Test.YtikkfkomieedmaaSplit
namespace Go.Proofs.Ytikkfkomieedmaa
open Go.RowKit

theorem O_ByteS.apart {w w' : World} {lo hi lo' hi' : Nat} {v v' : Value} {l : List UInt8} {e : TypeId} {sz n' : Nat} {xs' : List Value} (h : O_ByteS w lo hi v l) (h' : Own w lo' hi' e sz v' n' xs') (hne : 5 ≠ e) (hb : w.grownBy w' (blk v')) : O_ByteS w' lo hi v l := by
  obtain ⟨A, n, c, rfl, hl, ho⟩ := h
  exact ⟨A, n, c, rfl, hl, ho.apart h' hne hb⟩

set_option maxRecDepth 100000 in
set_option maxHeartbeats 1000000 in
theorem joinFrames_i (v : Value) (ls : List (List UInt8)) (w : World) (B : Nat) (h : R_ByteSS w B v ls) (hB : B ≤ w.heap.size) (hn : tot ls ≤ 1073741824) :
    Calls Try.prog 18 #[v] w fun e w' => ∃ v', e = .returned (.tuple #[v', .bool (joinL ls).2]) ∧ O_ByteS w' w.heap.size w'.heap.size v' (joinL ls).1 ∧ Ext w w' := by
  have hmm := h.len
  obtain ⟨ss, rfl, ⟨A, n, c, rfl, hl, _, _, hr⟩, hg⟩ := h
  rw [List.length_map, hl] at hmm
  obtain ⟨i0, hi0, hz0, hz1, hz2⟩ := info_parts info_Byte
  have hT : ∀ x ∈ ss, x.l.length ≤ 1073741824 := fun x hx => Nat.le_trans (len_le_tot (List.mem_map.2 ⟨x, hx, rfl⟩)) hn
  have HT := Lib.hid hT
  have Hl := Lib.hid hl
  have Hg := Lib.hid hg
  by_cases hc : n ≤ 100
  · have h1 : decide (100 < n) = false := by simp; omega
    have h2 : decide ((100 : Int) < n) = false := by simp; omega
    clear hl hg hT hn
    go_enter Try.func18, Try.ntmps18
    go_wp2
    go_loopw [4, 15] (fun ov iv wr => ∃ (k m : Nat) (A' : Option Addr) (c' : Nat), k ≤ n ∧ iv = .int .i64 k ∧ ov = .slice A' m c' ∧ Hid ((((ss.map (·.l)).take k).flatMap frame).length = m) ∧ m ≤ 4006 * k ∧ Own wr w.heap.size wr.heap.size 5 1 (.slice A' m c') m ((((ss.map (·.l)).take k).flatMap frame).flatMap eB) ∧ Hid (∀ x ∈ (ss.map (·.l)).take k, x.length ≤ 4000) ∧ Ext w wr) (fun _ iv _ => n - (intOf iv).toNat)
    case atStart => exact ⟨0, 0, _, 0, by omega, rfl, rfl, rfl, by omega, Own.nil _ _ _ _ _ _, by simp [Hid], by repeat' (first | with_reducible exact Ext.refl _ | with_reducible assumption | with_reducible refine Ext.set ?_ ?_ _ _ | with_reducible refine Ext.alloc ?_ _ | with_reducible refine Ext.drew ?_ | with_reducible refine Ext.drewN ?_ _ | with_reducible refine Ext.trans ?_ (by with_reducible assumption) | omega | (simp; done) | (simp; omega))⟩
    case round =>
      obtain ⟨k, m, A', c', hk, rfl, rfl, hm, hm9, hown, hpos, hext⟩ := hrel
      have hz3 := hext.size
      by_cases hlt : k < n
      · obtain ⟨b, off, x, rfl, _, hx1, hc⟩ := (hext.rd hr hB).sl Hl.out hlt
        have hx2 : (ss.map (·.l))[k]? = some x.l := by rw [List.getElem?_map, hx1]; rfl
        have hxT := HT.out x (List.mem_of_getElem? hx1)
        have gx := ((Hg.out x (List.mem_of_getElem? hx1)).keep (keepE' hext hB)).r
        have Hx2 := Lib.hid hx2
        clear hx1 hx2
        by_cases hxl : x.l.length ≤ 4000
        · go_wp2_with fail
          refine (frame_i _ _ _ B gx (by omega) (by omega)).mono ?_
          rw [decide_eq_true hxl, frameL_ok hxl]
          rintro e w1 ⟨v1, rfl, o1, hE1⟩
          have hfl := frame_length_le hxl
          obtain ⟨A2, n2, c2, rfl, hl2, o2⟩ := o1
          rw [hl2] at hfl
          have Hl2 := Lib.hid hl2
          have z2 := hE1.size
          have hown1 := hE1.own hown (Nat.le_refl _)
          clear hl2 gx
          go_wp2_with (at_builtin; refine wpList_app _ rfl _ _ 22 rfl 5 i0 _ 1 1 Try.underlying22 hi0 hz0 hz1 hz2 rfl (by omega) w.heap.size wr.heap.size (.slice A' m c') m _ rfl hown1 (by omega) (by omega) w1.heap.size A2 n2 c2 ((frame x.l).flatMap eB) rfl o2.rd.2.2.2 (oneCell_B _) (by unfold maxLen; omega) (by omega) ?_)
          intro A3 c3 w3 hown3 hgr
          have hE3 := (hext.trans hE1).grown hgr (fun g h => (hown1.lt g h).1)
          clear hgr hown hown1 o2
          go_wp2
          go_roundw
          case rel =>
            have hput : ((ss.map (·.l)).take (k + 1)).flatMap frame = ((ss.map (·.l)).take k).flatMap frame ++ frame x.l := by
              rw [take_snoc Hx2.out, List.flatMap_append, List.flatMap_singleton]
            refine ⟨k + 1, m + n2, A3, c3, by omega, by go_num, rfl, ?_, by omega, ?_, ?_, hE3⟩
            · show _ = _
              rw [hput, List.length_append, hm.out, Hl2.out]
            · rw [hput, List.flatMap_append]
              exact hown3
            · intro y hy
              rw [take_snoc Hx2.out] at hy
              rcases List.mem_append.1 hy with hy | hy
              · exact hpos.out y hy
              · simp at hy
                subst hy
                exact hxl
          case measure => simp [intOf]; omega
        · have Hres := Lib.hid (joinL_no (fun h => hxl (h.2 _ (List.mem_of_getElem? Hx2.out))))
          go_wp2_with fail
          refine (frame_i _ _ _ B gx (by omega) (by omega)).mono ?_
          rw [decide_eq_false hxl]
          rintro e w1 ⟨v1, rfl, -, hE1⟩
          have hE := hext.trans hE1
          go_wp2
          go_ret2
          rw [Hres.out]
          exact ⟨_, rfl, OwnS.nil _, by repeat' (first | with_reducible exact Ext.refl _ | with_reducible assumption | with_reducible refine Ext.set ?_ ?_ _ _ | with_reducible refine Ext.alloc ?_ _ | with_reducible refine Ext.drew ?_ | with_reducible refine Ext.drewN ?_ _ | with_reducible refine Ext.trans ?_ (by with_reducible assumption) | omega | (simp; done) | (simp; omega))⟩
      · obtain rfl : k = n := by omega
        have hall : (ss.map (·.l)).take k = ss.map (·.l) := List.take_of_length_le (by rw [List.length_map, Hl.out]; omega)
        rw [hall] at hown hm hpos
        have Hres := Lib.hid (joinL_yes (ls := ss.map (·.l)) ⟨by rw [List.length_map, Hl.out]; exact hc, hpos.out⟩)
        clear hall
        go_wp2
        go_ret2
        rw [Hres.out]
        exact ⟨_, rfl, OwnS.of hown hm.out, hext⟩
  · have h1 : decide (100 < n) = true := by simp; omega
    have h2 : decide ((100 : Int) < n) = true := by simp; omega
    have Hres := Lib.hid (joinL_no (ls := ss.map (·.l)) (fun h => hc (by have := h.1; rw [List.length_map, hl] at this; exact this)))
    clear hl hg hT hn
    go_enter Try.func18, Try.ntmps18
    go_wp2
    go_ret2
    rw [Hres.out]
    exact ⟨_, rfl, OwnS.nil _, by repeat' (first | with_reducible exact Ext.refl _ | with_reducible assumption | with_reducible refine Ext.set ?_ ?_ _ _ | with_reducible refine Ext.alloc ?_ _ | with_reducible refine Ext.drew ?_ | with_reducible refine Ext.drewN ?_ _ | with_reducible refine Ext.trans ?_ (by with_reducible assumption) | omega | (simp; done) | (simp; omega))⟩

set_option maxRecDepth 100000 in
set_option maxHeartbeats 1000000 in
theorem splitFrames_i (v : Value) (l : List UInt8) (w : World) (B : Nat) (h : R_ByteS w B v l) (hB : B ≤ w.heap.size) (hn : l.length ≤ 1073741824) :
    Calls Try.prog 20 #[v] w fun e w' => ∃ v', e = .returned (.tuple #[v', .int .i64 (splitL l).2.1, .int .i64 (splitL l).2.2]) ∧ O_ByteSS w' w.heap.size w'.heap.size v' (splitL l).1 ∧ Ext w w' := by
  have hrd := h
  obtain ⟨A, n, c, rfl, hl, hnc, hcm, hr⟩ := h
  obtain ⟨i0, hi0, hz0, hz1, hz2⟩ := info_parts info_ByteL
  rw [hl] at hn
  have Hl := Lib.hid hl
  clear hl
  go_enter Try.func20, Try.ntmps20
  go_wp2
  go_loopw [5, 6] (fun ov av wr => ∃ (a k : Nat) (A' : Option Addr) (c' : Nat) (os : List SlD), a ≤ n ∧ k ≤ 100 ∧ av = .int .i64 a ∧ ov = .slice A' k c' ∧ Hid (os.length = k) ∧ Own wr w.heap.size wr.heap.size 22 1 (.slice A' k c') k (os.flatMap eS) ∧ Hid (∀ s ∈ os, s.Mine wr w.heap.size wr.heap.size) ∧ Hid (Parted os) ∧ Hid (splitGo l (101 - k) a (os.map (·.l)) = splitL l) ∧ Ext w wr) (fun _ av _ => n - (intOf av).toNat)
  case atStart => exact ⟨0, 0, _, 0, [], by omega, by omega, rfl, rfl, rfl, Own.nil _ _ _ _ _ _, by simp [Hid], List.Pairwise.nil, rfl, by repeat' (first | with_reducible exact Ext.refl _ | with_reducible assumption | with_reducible refine Ext.set ?_ ?_ _ _ | with_reducible refine Ext.alloc ?_ _ | with_reducible refine Ext.drew ?_ | with_reducible refine Ext.drewN ?_ _ | with_reducible refine Ext.trans ?_ (by with_reducible assumption) | omega | (simp; done) | (simp; omega))⟩
  case round =>
    obtain ⟨a, k, A', c', os, ha, hk, rfl, rfl, hol, hown, hos, hpa, hgo, hext⟩ := hrel
    have hz3 := hext.size
    by_cases hlt : a < n
    · by_cases hk100 : k = 100
      · have Hres := Lib.hid (hgo.out.symm.trans (splitGo_full' (out := os.map (·.l)) hk (by rw [Hl.out]; exact hlt) (by rw [List.length_map, hol.out]; exact hk100)))
        have h1 : ((k : Int) == 100) = true := by simp [hk100]
        have h2 : (k == 100) = true := by simp [hk100]
        have Hk := Lib.hid hk100
        clear hk100
        go_wp2
        go_ret3
        rw [Hres.out]
        exact ⟨_, rfl, ⟨os, rfl, OwnS.of hown hol.out, hos.out, hpa.out⟩, hext⟩
      · obtain ⟨x, nx, cd, hu⟩ : ∃ x nx cd, unframe l (a : Int) = (x, nx, cd) := ⟨_, _, _, rfl⟩
        have h1 : ((k : Int) == 100) = false := by simp; omega
        have h2 : (k == 100) = false := by simp; omega
        by_cases hcd : cd = 0
        · subst hcd
          obtain ⟨hu1, hu2, hu3⟩ := unframe_next hu
          rw [Hl.out] at hu2
          have Hgo := Lib.hid (hgo.out.symm.trans (show splitGo l (101 - k) a (os.map (·.l)) = splitGo l (101 - (k + 1)) nx (os.map (·.l) ++ [x]) by rw [show 101 - k = 101 - (k + 1) + 1 from by omega]; exact splitGo_more (by rw [Hl.out]; exact hlt) (by rw [List.length_map, hol.out]; exact hk100) hu))
          have gx := hrd.keep (keepE' hext hB)
          go_wp2_with fail
          refine (unframe_i _ _ _ _ B gx (by omega) (by rw [Hl.out]; omega)).mono ?_
          rw [hu]
          rintro e w1 ⟨v1, rfl, o1, hE1⟩
          dsimp only at o1 ⊢
          have Hu := Lib.hid hu
          obtain ⟨A2, n2, c2, rfl, hl2, o2⟩ := id o1
          have z2 := hE1.size
          have hown1 := hE1.own hown (Nat.le_refl _)
          have Hl2 := Lib.hid hl2
          have hcd : (((0 : Nat) : Int) != 0) = false := rfl
          clear hu gx hl2
          go_wp2_with (at_builtin; refine wpList_app _ rfl _ _ 39 rfl 22 i0 _ 1 24 Try.underlying39 hi0 hz0 hz1 hz2 rfl (by omega) w.heap.size w1.heap.size (.slice A' k c') k _ rfl (((Ext.refl w1).alloc _).own (hown1.wide (Nat.le_refl _) z2) (Nat.le_refl _)) (by simp; omega) (by simp) (w1.heap.size + 1) (some ⟨w1.heap.size, 0, none⟩) 1 1 _ rfl (rd_one _ _ _) (by simp [Value.oneCell']) (by unfold maxLen; omega) (by omega) ?_)
          intro A3 c3 w3 hown3 hgr
          have hE3 := ((hext.trans hE1).alloc _).grown hgr (fun g h => (hown1.lt g h).1)
          have z3 := hgr.size
          simp only [World.size_alloc] at z3
          have hown1a := ((Ext.refl w1).alloc (.cells #[.slice A2 n2 c2] 22)).own (hown1.wide (Nat.le_refl _) z2) (Nat.le_refl _)
          have Hos : Hid (∀ s ∈ os ++ [(⟨A2, n2, c2, x⟩ : SlD)], s.Mine w3 w.heap.size w3.heap.size) := by
            intro s hs
            rcases List.mem_append.1 hs with hs | hs
            · have h1 := (hos.out s hs).keep (keepE (hE1.alloc (.cells #[.slice A2 n2 c2] 22)) (Nat.le_refl _))
              exact (O_ByteS.apart h1 hown1a (by decide) hgr).wide (Nat.le_refl _) (by omega)
            · simp only [List.mem_singleton] at hs
              subst hs
              have h1 := (show SlD.Mine ⟨A2, n2, c2, x⟩ w1 wr.heap.size w1.heap.size from o1).keep (keepE ((Ext.refl w1).alloc (.cells #[.slice A2 n2 c2] 22)) (Nat.le_refl _))
              exact (O_ByteS.apart h1 hown1a (by decide) hgr).wide (by omega) (by omega)
          have Hpa : Hid (Parted (os ++ [(⟨A2, n2, c2, x⟩ : SlD)])) := Parted.snoc hpa.out hos.out (s := ⟨A2, n2, c2, x⟩) o1
          clear hgr hown hown1 hown1a o2 o1
          go_wp2
          go_roundw
          case rel =>
            refine ⟨nx, k + 1, A3, c3, os ++ [⟨A2, n2, c2, x⟩], by omega, by omega, rfl, rfl, ?_, ?_, Hos, Hpa, ?_, hE3⟩
            · show _ = _
              rw [List.length_append, hol.out]
              rfl
            · rw [List.flatMap_append]
              simpa [eS] using hown3
            · show _ = _
              rw [Hgo.out, List.map_append]
              rfl
          case measure => simp [intOf]; omega
        · have Hgo := Lib.hid (hgo.out.symm.trans (show splitGo l (101 - k) a (os.map (·.l)) = (os.map (·.l), a, cd) by rw [show 101 - k = 100 - k + 1 from by omega]; exact splitGo_bad (by rw [Hl.out]; exact hlt) (by rw [List.length_map, hol.out]; exact hk100) hu hcd))
          have gx := hrd.keep (keepE' hext hB)
          go_wp2_with fail
          refine (unframe_i _ _ _ _ B gx (by omega) (by rw [Hl.out]; omega)).mono ?_
          rw [hu]
          rintro e w1 ⟨v1, rfl, o1, hE1⟩
          dsimp only at o1 ⊢
          have hown1 := (hE1.own hown (Nat.le_refl _)).wide (Nat.le_refl _) hE1.size
          have hE := hext.trans hE1
          have hcd1 : ((cd : Int) != 0) = true := by simp [hcd]
          have Hcd := Lib.hid hcd
          clear hu gx hcd
          go_wp2
          go_ret3
          rw [Hgo.out]
          exact ⟨_, rfl, ⟨os, rfl, OwnS.of hown1 hol.out, fun s hs => ((hos.out s hs).keep (keepE hE1 (Nat.le_refl _))).wide (Nat.le_refl _) hE1.size, hpa.out⟩, hE⟩
    · obtain rfl : n = a := by omega
      have Hres := Lib.hid (hgo.out.symm.trans (splitGo_end' (out := os.map (·.l)) hk (by rw [Hl.out]; omega)))
      go_wp2
      go_ret3
      rw [Hres.out]
      exact ⟨_, rfl, ⟨os, rfl, OwnS.of hown hol.out, hos.out, hpa.out⟩, hext⟩

set_option maxRecDepth 100000 in
set_option maxHeartbeats 1000000 in
theorem joinFrames_s (v : Value) (ls : List (List UInt8)) (w : World) (B : Nat) (h : R_ByteSS w B v ls) (hB : B ≤ w.heap.size) (hn : tot ls ≤ 1073741824) :
    Calls Try.prog 19 #[v] w fun e w' => ∃ v', e = .returned (.tuple #[v', .bool (joinL ls).2]) ∧ O_ByteS w' w.heap.size w'.heap.size v' (joinL ls).1 ∧ Ext w w' := by
  have hmm := h.len
  obtain ⟨ss, rfl, ⟨A, n, c, rfl, hl, _, _, hr⟩, hg⟩ := h
  rw [List.length_map, hl] at hmm
  obtain ⟨i0, hi0, hz0, hz1, hz2⟩ := info_parts info_Byte
  have hT : ∀ x ∈ ss, x.l.length ≤ 1073741824 := fun x hx => Nat.le_trans (len_le_tot (List.mem_map.2 ⟨x, hx, rfl⟩)) hn
  have HT := Lib.hid hT
  have Hl := Lib.hid hl
  have Hg := Lib.hid hg
  by_cases hc : n ≤ 100
  · have h1 : decide (100 < n) = false := by simp; omega
    have h2 : decide ((100 : Int) < n) = false := by simp; omega
    clear hl hg hT hn
    go_enter Try.func19, Try.ntmps19
    go_wp2
    go_loopw [4, 5] (fun ov iv wr => ∃ (k m : Nat) (A' : Option Addr) (c' : Nat), k ≤ n ∧ iv = .int .i64 k ∧ ov = .slice A' m c' ∧ Hid ((((ss.map (·.l)).take k).flatMap frame).length = m) ∧ m ≤ 4006 * k ∧ Own wr w.heap.size wr.heap.size 5 1 (.slice A' m c') m ((((ss.map (·.l)).take k).flatMap frame).flatMap eB) ∧ Hid (∀ x ∈ (ss.map (·.l)).take k, x.length ≤ 4000) ∧ Ext w wr) (fun _ iv _ => n - (intOf iv).toNat)
    case atStart => exact ⟨0, 0, _, 0, by omega, rfl, rfl, rfl, by omega, Own.nil _ _ _ _ _ _, by simp [Hid], by repeat' (first | with_reducible exact Ext.refl _ | with_reducible assumption | with_reducible refine Ext.set ?_ ?_ _ _ | with_reducible refine Ext.alloc ?_ _ | with_reducible refine Ext.drew ?_ | with_reducible refine Ext.drewN ?_ _ | with_reducible refine Ext.trans ?_ (by with_reducible assumption) | omega | (simp; done) | (simp; omega))⟩
    case round =>
      obtain ⟨k, m, A', c', hk, rfl, rfl, hm, hm9, hown, hpos, hext⟩ := hrel
      have hz3 := hext.size
      by_cases hlt : k < n
      · obtain ⟨b, off, x, rfl, _, hx1, hc⟩ := (hext.rd hr hB).sl Hl.out hlt
        have hx2 : (ss.map (·.l))[k]? = some x.l := by rw [List.getElem?_map, hx1]; rfl
        have hxT := HT.out x (List.mem_of_getElem? hx1)
        have gx := ((Hg.out x (List.mem_of_getElem? hx1)).keep (keepE' hext hB)).r
        have Hx2 := Lib.hid hx2
        clear hx1 hx2
        by_cases hxl : x.l.length ≤ 4000
        · go_wp2_with fail
          refine (frame_s _ _ _ B gx (by omega) (by omega)).mono ?_
          rw [decide_eq_true hxl, frameL_ok hxl]
          rintro e w1 ⟨v1, rfl, o1, hE1⟩
          have hfl := frame_length_le hxl
          obtain ⟨A2, n2, c2, rfl, hl2, o2⟩ := o1
          rw [hl2] at hfl
          have Hl2 := Lib.hid hl2
          have z2 := hE1.size
          have hown1 := hE1.own hown (Nat.le_refl _)
          clear hl2 gx
          go_wp2_with (at_builtin; refine wpList_app _ rfl _ _ 22 rfl 5 i0 _ 1 1 Try.underlying22 hi0 hz0 hz1 hz2 rfl (by omega) w.heap.size wr.heap.size (.slice A' m c') m _ rfl hown1 (by omega) (by omega) w1.heap.size A2 n2 c2 ((frame x.l).flatMap eB) rfl o2.rd.2.2.2 (oneCell_B _) (by unfold maxLen; omega) (by omega) ?_)
          intro A3 c3 w3 hown3 hgr
          have hE3 := (hext.trans hE1).grown hgr (fun g h => (hown1.lt g h).1)
          clear hgr hown hown1 o2
          go_wp2
          go_roundw
          case rel =>
            have hput : ((ss.map (·.l)).take (k + 1)).flatMap frame = ((ss.map (·.l)).take k).flatMap frame ++ frame x.l := by
              rw [take_snoc Hx2.out, List.flatMap_append, List.flatMap_singleton]
            refine ⟨k + 1, m + n2, A3, c3, by omega, by go_num, rfl, ?_, by omega, ?_, ?_, hE3⟩
            · show _ = _
              rw [hput, List.length_append, hm.out, Hl2.out]
            · rw [hput, List.flatMap_append]
              exact hown3
            · intro y hy
              rw [take_snoc Hx2.out] at hy
              rcases List.mem_append.1 hy with hy | hy
              · exact hpos.out y hy
              · simp at hy
                subst hy
                exact hxl
          case measure => simp [intOf]; omega
        · have Hres := Lib.hid (joinL_no (fun h => hxl (h.2 _ (List.mem_of_getElem? Hx2.out))))
          go_wp2_with fail
          refine (frame_s _ _ _ B gx (by omega) (by omega)).mono ?_
          rw [decide_eq_false hxl]
          rintro e w1 ⟨v1, rfl, -, hE1⟩
          have hE := hext.trans hE1
          go_wp2
          go_ret2
          rw [Hres.out]
          exact ⟨_, rfl, OwnS.nil _, by repeat' (first | with_reducible exact Ext.refl _ | with_reducible assumption | with_reducible refine Ext.set ?_ ?_ _ _ | with_reducible refine Ext.alloc ?_ _ | with_reducible refine Ext.drew ?_ | with_reducible refine Ext.drewN ?_ _ | with_reducible refine Ext.trans ?_ (by with_reducible assumption) | omega | (simp; done) | (simp; omega))⟩
      · obtain rfl : k = n := by omega
        have hall : (ss.map (·.l)).take k = ss.map (·.l) := List.take_of_length_le (by rw [List.length_map, Hl.out]; omega)
        rw [hall] at hown hm hpos
        have Hres := Lib.hid (joinL_yes (ls := ss.map (·.l)) ⟨by rw [List.length_map, Hl.out]; exact hc, hpos.out⟩)
        clear hall
        go_wp2
        go_ret2
        rw [Hres.out]
        exact ⟨_, rfl, OwnS.of hown hm.out, hext⟩
  · have h1 : decide (100 < n) = true := by simp; omega
    have h2 : decide ((100 : Int) < n) = true := by simp; omega
    have Hres := Lib.hid (joinL_no (ls := ss.map (·.l)) (fun h => hc (by have := h.1; rw [List.length_map, hl] at this; exact this)))
    clear hl hg hT hn
    go_enter Try.func19, Try.ntmps19
    go_wp2
    go_ret2
    rw [Hres.out]
    exact ⟨_, rfl, OwnS.nil _, by repeat' (first | with_reducible exact Ext.refl _ | with_reducible assumption | with_reducible refine Ext.set ?_ ?_ _ _ | with_reducible refine Ext.alloc ?_ _ | with_reducible refine Ext.drew ?_ | with_reducible refine Ext.drewN ?_ _ | with_reducible refine Ext.trans ?_ (by with_reducible assumption) | omega | (simp; done) | (simp; omega))⟩


end Go.Proofs.Ytikkfkomieedmaa
