/-
  Lists of lists of bytes as the reference draws them.
-/
import Derived.Test.YtikkfkomieedmaaDrawF
import Derived.Test.YtikkfkomieedmaaJoin
namespace Go.Proofs.Ytikkfkomieedmaa
open Go.RowKit

set_option maxRecDepth 100000 in
set_option maxHeartbeats 8000000 in
theorem l1DrawLists_s (g : Nat) (most : Int) (w : World) (hc : Cur w g) (h0 : 0 ≤ most) (h1 : most ≤ 60) : Calls Try.prog 32 #[.pointer (some ⟨g, 0, none⟩), .int .i64 most] w fun e w' => ∃ v L, e = .returned v ∧ O_ByteSS w' w.heap.size w'.heap.size v L ∧ L.length ≤ 102 ∧ (∀ l ∈ L, l.length ≤ 4001) ∧ Cur w' g ∧ Fr g (g + 1) w w' := by
  have hg := hc.lt
  obtain ⟨i0, hi0, hz0, hz1, hz2⟩ := info_parts info_ByteL
  obtain ⟨j0, hj0, hy0, hy1, hy2⟩ := info_parts info_Byte
  go_enter Try.func32, Try.ntmps32
  go_wp2_with fail
  refine (l1Below_s g _ _ hc (by omega)).mono ?_
  rintro e wa ⟨n, rfl, hn, -, hca, hFa⟩
  have hn' := hn (by omega)
  clear hn
  go_wp2_with fail
  refine (l1Once_s g 30 _ hca (by omega)).mono ?_
  rintro e wb ⟨b, rfl, hcb, hFb⟩
  have hFab := hFa.trans hFb
  clear hFa hFb hca
  cases b with
  | false =>
    have hnn : n ≤ 101 := by omega
    clear hn' h0 h1
    have hA : Ext wb (wb.alloc (.cells #[] 22)) := (Ext.refl _).alloc _
    have hcA := hcb.ext hA
    have hFA := hFab.thenExt hA
    clear hA hcb
    go_wp2
    go_loopw [6, 7] (fun ov iv wr => ∃ (k : Nat) (A' : Option Addr) (c' : Nat) (os : List SlD), k ≤ n ∧ iv = .int .i64 k ∧ ov = .slice A' k c' ∧ Hid (os.length = k) ∧ Own wr w.heap.size wr.heap.size 22 1 (.slice A' k c') k (os.flatMap eS) ∧ Hid (∀ s ∈ os, s.Mine wr w.heap.size wr.heap.size) ∧ Hid (Parted os) ∧ Hid (∀ s ∈ os, s.l.length ≤ 4001) ∧ Cur wr g ∧ Fr g (g + 1) w wr) (fun _ iv _ => n - (intOf iv).toNat)
    case atStart => exact ⟨0, _, 0, [], by omega, rfl, rfl, rfl, Own.nil _ _ _ _ _ _, by simp [Hid], List.Pairwise.nil, by simp [Hid], hcA, hFA⟩
    case round =>
      obtain ⟨k, A', c', os, hk, rfl, rfl, hol, hown, hos, hpa, hlen, hcr, hFr⟩ := hrel
      have hzr := hFr.size
      by_cases hlt : k < n
      · have hlt' : (k : Int) < (n : Int) := by omega
        go_wp2_with fail
        refine (l1DrawBytes_s g _ _ hcr (by omega) (by omega)).mono ?_
        rintro e w1 ⟨v1, x, rfl, o1, hx, -, hc1, hF1⟩
        obtain ⟨A2, n2, c2, rfl, hl2, o2⟩ := id o1
        have z2 := hF1.size
        have hown1 := hown.fr hF1 (.inr hg)
        have hA1 : Ext w1 (w1.alloc (.cells #[.slice A2 n2 c2] 22)) := (Ext.refl _).alloc _
        clear hl2
        go_wp2_with (at_builtin; refine wpList_app _ rfl _ _ 39 rfl 22 i0 _ 1 24 Try.underlying39 hi0 hz0 hz1 hz2 rfl (by omega) w.heap.size w1.heap.size (.slice A' k c') k _ rfl (((Ext.refl w1).alloc _).own (hown1.wide (Nat.le_refl _) z2) (Nat.le_refl _)) (by simp; omega) (by simp) (w1.heap.size + 1) (some ⟨w1.heap.size, 0, none⟩) 1 1 _ rfl (rd_one _ _ _) (by simp [Value.oneCell']) (by unfold maxLen; omega) (by omega) ?_)
        intro A3 c3 w3 hown3 hgr
        have hF3 : Fr _ _ _ w3 := Fr.of_grown hgr (fun g h => hown1.lt g h)
        have z3 := hgr.size
        simp only [World.size_alloc] at z3
        have hown1a := ((Ext.refl w1).alloc (.cells #[.slice A2 n2 c2] 22)).own (hown1.wide (Nat.le_refl _) z2) (Nat.le_refl _)
        have Hos : Hid (∀ s ∈ os ++ [(⟨A2, n2, c2, x⟩ : SlD)], s.Mine w3 w.heap.size w3.heap.size) := by
          intro s hs
          rcases List.mem_append.1 hs with hs | hs
          · have h1 := ((hos.out s hs).keep (keepF hF1 (Nat.le_refl _) (.inr hg))).keep (keepE ((Ext.refl w1).alloc (.cells #[.slice A2 n2 c2] 22)) z2)
            exact (O_ByteS.apart h1 hown1a (by decide) hgr).wide (Nat.le_refl _) (by omega)
          · simp only [List.mem_singleton] at hs
            subst hs
            have h1 := (show SlD.Mine ⟨A2, n2, c2, x⟩ w1 wr.heap.size w1.heap.size from o1).keep (keepE ((Ext.refl w1).alloc (.cells #[.slice A2 n2 c2] 22)) (Nat.le_refl _))
            exact (O_ByteS.apart h1 hown1a (by decide) hgr).wide (by omega) (by omega)
        have Hpa : Hid (Parted (os ++ [(⟨A2, n2, c2, x⟩ : SlD)])) := Parted.snoc hpa.out hos.out (s := ⟨A2, n2, c2, x⟩) o1
        have Hlen : Hid (∀ s ∈ os ++ [(⟨A2, n2, c2, x⟩ : SlD)], s.l.length ≤ 4001) := by
          intro s hs
          rcases List.mem_append.1 hs with hs | hs
          · exact hlen.out s hs
          · rw [List.mem_singleton.1 hs]
            show x.length ≤ 4001
            omega
        have hc3 : Cur w3 g := (hc1.ext hA1).fr hF3 hg
        have hF4 : Fr g (g + 1) w w3 := ((hFr.trans hF1).thenExt hA1).thenFr hF3 (Nat.le_refl _)
        clear hgr hown hown1 hown1a o2 o1 hF3 hA1 hc1 hF1
        go_wp2
        go_roundw
        case rel =>
          refine ⟨k + 1, A3, c3, os ++ [⟨A2, n2, c2, x⟩], by omega, by go_num, rfl, ?_, ?_, Hos, Hpa, Hlen, hc3, hF4⟩
          · show _ = _
            rw [List.length_append, hol.out]
            rfl
          · rw [List.flatMap_append]
            simpa [eS] using hown3
        case measure => simp [intOf]; omega
      · obtain rfl : n = k := by omega
        go_wp2_with fail
        refine (l1Once_s g 30 _ hcr (by omega)).mono ?_
        rintro e w1 ⟨b1, rfl, hc1, hF1⟩
        have z1 := hF1.size
        have hown1 := (hown.fr hF1 (.inr hg)).wide (Nat.le_refl _) z1
        have Hos1 : Hid (∀ s ∈ os, s.Mine w1 w.heap.size w1.heap.size) := fun s hs => ((hos.out s hs).keep (keepF hF1 (Nat.le_refl _) (.inr hg))).wide (Nat.le_refl _) z1
        replace hFr := hFr.trans hF1
        clear hown hos hcr hF1
        cases b1 with
        | false =>
          go_wp2
          go_ret
          exact ⟨_, os.map (·.l), rfl, ⟨os, rfl, OwnS.of hown1 hol.out, Hos1.out, hpa.out⟩, by rw [List.length_map, hol.out]; omega, fun l hl => by obtain ⟨s, hs, rfl⟩ := List.mem_map.1 hl; exact hlen.out s hs, hc1, hFr⟩
        | true =>
          go_wp2_with fail
          refine (l1Below_s g 2 _ hc1 (by omega)).mono ?_
          rintro e w2 ⟨u, rfl, hu, -, hc2, hF2⟩
          have hu' := hu (by omega)
          clear hu
          have z2 := hF2.size
          have hown2 := (hown1.fr hF2 (.inr hg)).wide (Nat.le_refl _) z2
          have Hos2 : Hid (∀ s ∈ os, s.Mine w2 w.heap.size w2.heap.size) := fun s hs => ((Hos1.out s hs).keep (keepF hF2 (Nat.le_refl _) (.inr hg))).wide (Nat.le_refl _) z2
          replace hFr := hFr.trans hF2
          clear hown1 Hos1 hF2 hc1
          obtain ⟨q, hq⟩ : ∃ q, 4000 + u = q := ⟨_, rfl⟩
          have hqb : q ≤ 4001 := by omega
          have hqi : (4000 : Int) + (u : Int) = (q : Int) := by omega
          have Hq := Lib.hid hq
          clear hq
          have hmk := fun W => run_make_rows (P := Try.prog) 22 5 j0 _ Try.underlying22 hj0 hy0 .i64 .i64 q (by rw [hy2]; omega) (by omega) W
          rw [hy1] at hmk
          have ho3 := own_zero w2 q (by unfold maxLen; omega)
          have hA3 : Ext w2 (w2.alloc (.cells (madeCells #[.int .u8 0] q) 5)) := (Ext.refl _).alloc _
          have hrd1 := rd_one (w2.alloc (.cells (madeCells #[.int .u8 0] q) 5)) 22 (.slice (some ⟨w2.heap.size, 0, none⟩) q q)
          rw [show (w2.alloc (.cells (madeCells #[.int .u8 0] q) 5)).heap.size = w2.heap.size + 1 from by simp] at hrd1
          have hA4 := hA3.alloc (.cells #[.slice (some ⟨w2.heap.size, 0, none⟩) q q] 22)
          go_wp2_with (at_builtin; go_loud (refine wpList_app _ rfl _ _ 39 rfl 22 i0 _ 1 24 Try.underlying39 hi0 hz0 hz1 hz2 rfl (by omega) w.heap.size w2.heap.size (.slice A' n c') n _ rfl (hA4.own hown2 (Nat.le_refl _)) (by simp; omega) (by simp; omega) (w2.heap.size + 2) (some ⟨w2.heap.size + 1, 0, none⟩) 1 1 _ rfl hrd1 (by simp [Value.oneCell']) (by unfold maxLen; omega) (by omega) ?_))
          intro A3 c3 w3 hown3 hgr
          have hF3 : Fr _ _ _ w3 := Fr.of_grown hgr (fun g h => hown2.lt g h)
          have z3 := hgr.size
          simp only [World.size_alloc] at z3
          have hown2a := hA4.own hown2 (Nat.le_refl _)
          have Hos : Hid (∀ s ∈ os ++ [(⟨some ⟨w2.heap.size, 0, none⟩, q, q, List.replicate q 0⟩ : SlD)], s.Mine w3 w.heap.size w3.heap.size) := by
            intro s hs
            rcases List.mem_append.1 hs with hs | hs
            · have h1 := (Hos2.out s hs).keep (keepE hA4 (Nat.le_refl _))
              exact (O_ByteS.apart h1 hown2a (by decide) hgr).wide (Nat.le_refl _) (by omega)
            · simp only [List.mem_singleton] at hs
              subst hs
              have h1 : O_ByteS _ w2.heap.size (w2.heap.size + 1) (.slice (some ⟨w2.heap.size, 0, none⟩) q q) (List.replicate q 0) := OwnS.keep ho3 (keepE ((Ext.refl _).alloc (.cells #[.slice (some ⟨w2.heap.size, 0, none⟩) q q] 22)) (by simp))
              exact (O_ByteS.apart h1 hown2a (by decide) hgr).wide (by omega) (by omega)
          have Hpa : Hid (Parted (os ++ [(⟨some ⟨w2.heap.size, 0, none⟩, q, q, List.replicate q 0⟩ : SlD)])) := Parted.snoc hpa.out Hos2.out (s := ⟨some ⟨w2.heap.size, 0, none⟩, q, q, List.replicate q 0⟩) (show SlD.Mine _ _ w2.heap.size (w2.heap.size + 1) from ho3)
          have Hlen : Hid (∀ s ∈ os ++ [(⟨some ⟨w2.heap.size, 0, none⟩, q, q, List.replicate q 0⟩ : SlD)], s.l.length ≤ 4001) := by
            intro s hs
            rcases List.mem_append.1 hs with hs | hs
            · exact hlen.out s hs
            · rw [List.mem_singleton.1 hs]
              simpa using hqb
          have hc3 : Cur w3 g := (hc2.ext hA4).fr hF3 hg
          have hF4 : Fr g (g + 1) w w3 := (hFr.thenExt hA4).thenFr hF3 (Nat.le_refl _)
          clear hgr hown2 hown2a hF3 hA4 hA3 hc2 ho3 hrd1
          go_wp2
          go_ret
          refine ⟨_, (os ++ [(⟨some ⟨w2.heap.size, 0, none⟩, q, q, List.replicate q 0⟩ : SlD)]).map (·.l), rfl, ⟨_, rfl, OwnS.of (by rw [List.flatMap_append]; simpa [eS] using hown3) (by rw [List.length_append, hol.out]; rfl), Hos.out, Hpa.out⟩, by rw [List.length_map, List.length_append, hol.out]; simp; omega, fun l hl => by obtain ⟨s, hs, rfl⟩ := List.mem_map.1 hl; exact Hlen.out s hs, hc3, hF4⟩
  | true =>
    clear hn'
    go_wp2_with fail
    refine (l1Below_s g 2 _ hcb (by omega)).mono ?_
    rintro e wc ⟨u0, rfl, hu0, -, hcc, hFc⟩
    have hu0' := hu0 (by omega)
    clear hu0
    obtain ⟨m, hm⟩ : ∃ m, 100 + u0 = m := ⟨_, rfl⟩
    have hnn : m ≤ 101 := by omega
    have hmi : (100 : Int) + (u0 : Int) = (m : Int) := by omega
    have Hm := Lib.hid hm
    have hFac := hFab.trans hFc
    clear h0 h1 hm
    have hA : Ext wc (wc.alloc (.cells #[] 22)) := (Ext.refl _).alloc _
    have hcA := hcc.ext hA
    have hFA := hFac.thenExt hA
    clear hA hcc hFab hFc
    go_wp2
    go_loopw [6, 7] (fun ov iv wr => ∃ (k : Nat) (A' : Option Addr) (c' : Nat) (os : List SlD), k ≤ m ∧ iv = .int .i64 k ∧ ov = .slice A' k c' ∧ Hid (os.length = k) ∧ Own wr w.heap.size wr.heap.size 22 1 (.slice A' k c') k (os.flatMap eS) ∧ Hid (∀ s ∈ os, s.Mine wr w.heap.size wr.heap.size) ∧ Hid (Parted os) ∧ Hid (∀ s ∈ os, s.l.length ≤ 4001) ∧ Cur wr g ∧ Fr g (g + 1) w wr) (fun _ iv _ => m - (intOf iv).toNat)
    case atStart => exact ⟨0, _, 0, [], by omega, rfl, rfl, rfl, Own.nil _ _ _ _ _ _, by simp [Hid], List.Pairwise.nil, by simp [Hid], hcA, hFA⟩
    case round =>
      obtain ⟨k, A', c', os, hk, rfl, rfl, hol, hown, hos, hpa, hlen, hcr, hFr⟩ := hrel
      have hzr := hFr.size
      by_cases hlt : k < m
      · have hlt' : (k : Int) < (m : Int) := by omega
        go_wp2_with fail
        refine (l1DrawBytes_s g _ _ hcr (by omega) (by omega)).mono ?_
        rintro e w1 ⟨v1, x, rfl, o1, hx, -, hc1, hF1⟩
        obtain ⟨A2, n2, c2, rfl, hl2, o2⟩ := id o1
        have z2 := hF1.size
        have hown1 := hown.fr hF1 (.inr hg)
        have hA1 : Ext w1 (w1.alloc (.cells #[.slice A2 n2 c2] 22)) := (Ext.refl _).alloc _
        clear hl2
        go_wp2_with (at_builtin; refine wpList_app _ rfl _ _ 39 rfl 22 i0 _ 1 24 Try.underlying39 hi0 hz0 hz1 hz2 rfl (by omega) w.heap.size w1.heap.size (.slice A' k c') k _ rfl (((Ext.refl w1).alloc _).own (hown1.wide (Nat.le_refl _) z2) (Nat.le_refl _)) (by simp; omega) (by simp) (w1.heap.size + 1) (some ⟨w1.heap.size, 0, none⟩) 1 1 _ rfl (rd_one _ _ _) (by simp [Value.oneCell']) (by unfold maxLen; omega) (by omega) ?_)
        intro A3 c3 w3 hown3 hgr
        have hF3 : Fr _ _ _ w3 := Fr.of_grown hgr (fun g h => hown1.lt g h)
        have z3 := hgr.size
        simp only [World.size_alloc] at z3
        have hown1a := ((Ext.refl w1).alloc (.cells #[.slice A2 n2 c2] 22)).own (hown1.wide (Nat.le_refl _) z2) (Nat.le_refl _)
        have Hos : Hid (∀ s ∈ os ++ [(⟨A2, n2, c2, x⟩ : SlD)], s.Mine w3 w.heap.size w3.heap.size) := by
          intro s hs
          rcases List.mem_append.1 hs with hs | hs
          · have h1 := ((hos.out s hs).keep (keepF hF1 (Nat.le_refl _) (.inr hg))).keep (keepE ((Ext.refl w1).alloc (.cells #[.slice A2 n2 c2] 22)) z2)
            exact (O_ByteS.apart h1 hown1a (by decide) hgr).wide (Nat.le_refl _) (by omega)
          · simp only [List.mem_singleton] at hs
            subst hs
            have h1 := (show SlD.Mine ⟨A2, n2, c2, x⟩ w1 wr.heap.size w1.heap.size from o1).keep (keepE ((Ext.refl w1).alloc (.cells #[.slice A2 n2 c2] 22)) (Nat.le_refl _))
            exact (O_ByteS.apart h1 hown1a (by decide) hgr).wide (by omega) (by omega)
        have Hpa : Hid (Parted (os ++ [(⟨A2, n2, c2, x⟩ : SlD)])) := Parted.snoc hpa.out hos.out (s := ⟨A2, n2, c2, x⟩) o1
        have Hlen : Hid (∀ s ∈ os ++ [(⟨A2, n2, c2, x⟩ : SlD)], s.l.length ≤ 4001) := by
          intro s hs
          rcases List.mem_append.1 hs with hs | hs
          · exact hlen.out s hs
          · rw [List.mem_singleton.1 hs]
            show x.length ≤ 4001
            omega
        have hc3 : Cur w3 g := (hc1.ext hA1).fr hF3 hg
        have hF4 : Fr g (g + 1) w w3 := ((hFr.trans hF1).thenExt hA1).thenFr hF3 (Nat.le_refl _)
        clear hgr hown hown1 hown1a o2 o1 hF3 hA1 hc1 hF1
        go_wp2
        go_roundw
        case rel =>
          refine ⟨k + 1, A3, c3, os ++ [⟨A2, n2, c2, x⟩], by omega, by go_num, rfl, ?_, ?_, Hos, Hpa, Hlen, hc3, hF4⟩
          · show _ = _
            rw [List.length_append, hol.out]
            rfl
          · rw [List.flatMap_append]
            simpa [eS] using hown3
        case measure => simp [intOf]; omega
      · obtain rfl : m = k := by omega
        go_wp2_with fail
        refine (l1Once_s g 30 _ hcr (by omega)).mono ?_
        rintro e w1 ⟨b1, rfl, hc1, hF1⟩
        have z1 := hF1.size
        have hown1 := (hown.fr hF1 (.inr hg)).wide (Nat.le_refl _) z1
        have Hos1 : Hid (∀ s ∈ os, s.Mine w1 w.heap.size w1.heap.size) := fun s hs => ((hos.out s hs).keep (keepF hF1 (Nat.le_refl _) (.inr hg))).wide (Nat.le_refl _) z1
        replace hFr := hFr.trans hF1
        clear hown hos hcr hF1
        cases b1 with
        | false =>
          go_wp2
          go_ret
          exact ⟨_, os.map (·.l), rfl, ⟨os, rfl, OwnS.of hown1 hol.out, Hos1.out, hpa.out⟩, by rw [List.length_map, hol.out]; omega, fun l hl => by obtain ⟨s, hs, rfl⟩ := List.mem_map.1 hl; exact hlen.out s hs, hc1, hFr⟩
        | true =>
          go_wp2_with fail
          refine (l1Below_s g 2 _ hc1 (by omega)).mono ?_
          rintro e w2 ⟨u, rfl, hu, -, hc2, hF2⟩
          have hu' := hu (by omega)
          clear hu
          have z2 := hF2.size
          have hown2 := (hown1.fr hF2 (.inr hg)).wide (Nat.le_refl _) z2
          have Hos2 : Hid (∀ s ∈ os, s.Mine w2 w.heap.size w2.heap.size) := fun s hs => ((Hos1.out s hs).keep (keepF hF2 (Nat.le_refl _) (.inr hg))).wide (Nat.le_refl _) z2
          replace hFr := hFr.trans hF2
          clear hown1 Hos1 hF2 hc1
          obtain ⟨q, hq⟩ : ∃ q, 4000 + u = q := ⟨_, rfl⟩
          have hqb : q ≤ 4001 := by omega
          have hqi : (4000 : Int) + (u : Int) = (q : Int) := by omega
          have Hq := Lib.hid hq
          clear hq
          have hmk := fun W => run_make_rows (P := Try.prog) 22 5 j0 _ Try.underlying22 hj0 hy0 .i64 .i64 q (by rw [hy2]; omega) (by omega) W
          rw [hy1] at hmk
          have ho3 := own_zero w2 q (by unfold maxLen; omega)
          have hA3 : Ext w2 (w2.alloc (.cells (madeCells #[.int .u8 0] q) 5)) := (Ext.refl _).alloc _
          have hrd1 := rd_one (w2.alloc (.cells (madeCells #[.int .u8 0] q) 5)) 22 (.slice (some ⟨w2.heap.size, 0, none⟩) q q)
          rw [show (w2.alloc (.cells (madeCells #[.int .u8 0] q) 5)).heap.size = w2.heap.size + 1 from by simp] at hrd1
          have hA4 := hA3.alloc (.cells #[.slice (some ⟨w2.heap.size, 0, none⟩) q q] 22)
          go_wp2_with (at_builtin; go_loud (refine wpList_app _ rfl _ _ 39 rfl 22 i0 _ 1 24 Try.underlying39 hi0 hz0 hz1 hz2 rfl (by omega) w.heap.size w2.heap.size (.slice A' m c') m _ rfl (hA4.own hown2 (Nat.le_refl _)) (by simp; omega) (by simp; omega) (w2.heap.size + 2) (some ⟨w2.heap.size + 1, 0, none⟩) 1 1 _ rfl hrd1 (by simp [Value.oneCell']) (by unfold maxLen; omega) (by omega) ?_))
          intro A3 c3 w3 hown3 hgr
          have hF3 : Fr _ _ _ w3 := Fr.of_grown hgr (fun g h => hown2.lt g h)
          have z3 := hgr.size
          simp only [World.size_alloc] at z3
          have hown2a := hA4.own hown2 (Nat.le_refl _)
          have Hos : Hid (∀ s ∈ os ++ [(⟨some ⟨w2.heap.size, 0, none⟩, q, q, List.replicate q 0⟩ : SlD)], s.Mine w3 w.heap.size w3.heap.size) := by
            intro s hs
            rcases List.mem_append.1 hs with hs | hs
            · have h1 := (Hos2.out s hs).keep (keepE hA4 (Nat.le_refl _))
              exact (O_ByteS.apart h1 hown2a (by decide) hgr).wide (Nat.le_refl _) (by omega)
            · simp only [List.mem_singleton] at hs
              subst hs
              have h1 : O_ByteS _ w2.heap.size (w2.heap.size + 1) (.slice (some ⟨w2.heap.size, 0, none⟩) q q) (List.replicate q 0) := OwnS.keep ho3 (keepE ((Ext.refl _).alloc (.cells #[.slice (some ⟨w2.heap.size, 0, none⟩) q q] 22)) (by simp))
              exact (O_ByteS.apart h1 hown2a (by decide) hgr).wide (by omega) (by omega)
          have Hpa : Hid (Parted (os ++ [(⟨some ⟨w2.heap.size, 0, none⟩, q, q, List.replicate q 0⟩ : SlD)])) := Parted.snoc hpa.out Hos2.out (s := ⟨some ⟨w2.heap.size, 0, none⟩, q, q, List.replicate q 0⟩) (show SlD.Mine _ _ w2.heap.size (w2.heap.size + 1) from ho3)
          have Hlen : Hid (∀ s ∈ os ++ [(⟨some ⟨w2.heap.size, 0, none⟩, q, q, List.replicate q 0⟩ : SlD)], s.l.length ≤ 4001) := by
            intro s hs
            rcases List.mem_append.1 hs with hs | hs
            · exact hlen.out s hs
            · rw [List.mem_singleton.1 hs]
              simpa using hqb
          have hc3 : Cur w3 g := (hc2.ext hA4).fr hF3 hg
          have hF4 : Fr g (g + 1) w w3 := (hFr.thenExt hA4).thenFr hF3 (Nat.le_refl _)
          clear hgr hown2 hown2a hF3 hA4 hA3 hc2 ho3 hrd1
          go_wp2
          go_ret
          refine ⟨_, (os ++ [(⟨some ⟨w2.heap.size, 0, none⟩, q, q, List.replicate q 0⟩ : SlD)]).map (·.l), rfl, ⟨_, rfl, OwnS.of (by rw [List.flatMap_append]; simpa [eS] using hown3) (by rw [List.length_append, hol.out]; rfl), Hos.out, Hpa.out⟩, by rw [List.length_map, List.length_append, hol.out]; simp; omega, fun l hl => by obtain ⟨s, hs, rfl⟩ := List.mem_map.1 hl; exact Hlen.out s hs, hc3, hF4⟩
theorem tot_small {ls : List (List UInt8)} (h1 : ls.length ≤ 102) (h2 : ∀ l ∈ ls, l.length ≤ 4001) : tot ls ≤ 1073741824 := by
  have h : ∀ ls : List (List UInt8), (∀ l ∈ ls, l.length ≤ 4001) → tot ls ≤ 4001 * ls.length := by
    intro ls
    induction ls with
    | nil => intro _; simp [tot]
    | cons a ls ih =>
      intro h
      have ha := h a (by simp)
      have := ih (fun l hl => h l (by simp [hl]))
      simp only [tot, List.map_cons, List.sum_cons, List.length_cons] at this ⊢
      omega
  have := h ls h2
  omega
set_option maxRecDepth 100000 in
theorem drawJoinFrames_s (A : Option Addr) (n c : Nat) (l : List UInt8) (w : World) (hr : Rd w w.heap.size 1 A n (l.flatMap eB)) (hl : l.length = n) (hn : n ≤ 4611686018427387904) : Calls Try.prog 17 #[.slice A n c] w fun e w' => ∃ v L, e = .returned v ∧ O_ByteSS w' w.heap.size w'.heap.size v L ∧ L.length ≤ 102 ∧ (∀ l ∈ L, l.length ≤ 4001) ∧ Ext w w' := by
  go_enter Try.func17, Try.ntmps17
  go_wp2_with fail
  refine (l1New_s A n c l _ hr hl hn).mono ?_
  rintro e w1 ⟨rfl, hc1, hE1⟩
  have hz1' := hE1.size
  go_wp2_with fail
  refine (l1Size_s A n c 9 _ hn (by omega)).mono ?_
  rintro e w1_ ⟨x, hx, rfl, rfl⟩
  go_wp2_with fail
  refine (l1DrawLists_s _ x _ hc1 (by omega) (by omega)).mono ?_
  rintro e w2 ⟨v, L, rfl, ho, hlen, hall, hc2, hF2⟩
  go_wp2
  go_ret
  exact ⟨_, L, rfl, ho.wide hz1' (Nat.le_refl _), hlen, hall, hE1.fr hF2 (Nat.le_refl _)⟩

end Go.Proofs.Ytikkfkomieedmaa
