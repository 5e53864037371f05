/-
  Images as the reference draws them.
-/
import Derived.Test.YtbfbdhjeoknjkaaDrawC
import Derived.Test.YtbfbdhjeoknjkaaMg6
import Derived.Test.YtbfbdhjeoknjkaaMg1
namespace Go.Proofs.Ytbfbdhjeoknjkaa
open Go.RowKit

theorem szI_def (m : ImageD) : szI m = m.cells.length + m.seats.length := rfl
/-- Seats that entries leave bear the entries' requests. -/
theorem runEntry_req {m : ImageD} {e : EntryD} (hm : ∀ s ∈ m.seats, s.req ≤ 100) (he : e.req ≤ 100) : ∀ s ∈ (runEntry m e).1.seats, s.req ≤ 100 := by
  have hn : ∀ s ∈ (runNew m e).1.seats, s.req ≤ 100 := by
    intro s hs
    rcases mem_putK hs with rfl | hs
    · exact he
    · exact hm s hs
  unfold runEntry
  split
  · split
    · split
      · exact hm
      · split
        · exact hm
        · exact hn
    · split
      · exact hm
      · exact hn
  · intro s hs
    cases hs
theorem runGo_req : ∀ (l : List EntryD) (m : ImageD) (a : List Int), (∀ s ∈ m.seats, s.req ≤ 100) → (∀ e ∈ l, e.req ≤ 100) → ∀ s ∈ (runGo m a l).1.seats, s.req ≤ 100 := by
  intro l
  induction l with
  | nil => intro m a h _; exact h
  | cons e l ih =>
    intro m a h he
    rw [runGo]
    refine ih _ _ ?_ (fun x hx => he x (List.mem_cons_of_mem _ hx))
    split
    · exact h
    · exact runEntry_req h (he e (List.mem_cons_self))
theorem runAll_req {l : List EntryD} (he : ∀ e ∈ l, e.req ≤ 100) : ∀ s ∈ (runAll ⟨[], []⟩ l).1.seats, s.req ≤ 100 := by
  unfold runAll
  split
  · exact runGo_req l _ _ (fun s hs => nomatch hs) he
  · intro s hs
    cases hs

set_option maxRecDepth 100000 in
set_option maxHeartbeats 8000000 in
theorem l2DrawRight_s (g : Nat) (most : Int) (w : World) (hc : Cur w g) (h0 : 0 ≤ most) (h1 : most ≤ 60) : Calls Try.prog 133 #[.pointer (some ⟨g, 0, none⟩), .int .i64 most] w fun e w' => ∃ v m, e = .returned v ∧ O_Image w' w.heap.size w'.heap.size v m ∧ szI m ≤ 110 ∧ (∀ s ∈ m.seats, s.req ≤ 100) ∧ Cur w' g ∧ Fr g (g + 1) w w' := by
  have hg := hc.lt
  obtain ⟨i0, hi0, hz0, hz1, hz2⟩ := info_parts info_Cell
  obtain ⟨j0, hj0, hy0, hy1, hy2⟩ := info_parts info_Seat
  have hW0 : Ext w (w.alloc (.cells #[.slice none 0 0, .slice none 0 0] 39)) := by repeat' (first | with_reducible exact Ext.refl _ | with_reducible assumption | with_reducible refine Ext.set ?_ ?_ _ _ | with_reducible refine Ext.alloc ?_ _ | with_reducible refine Ext.drew ?_ | with_reducible refine Ext.drewN ?_ _ | with_reducible refine Ext.trans ?_ (by with_reducible assumption) | omega | (simp; done) | (simp; omega))
  have zW0 : w.heap.size + 1 ≤ (w.alloc (.cells #[.slice none 0 0, .slice none 0 0] 39)).heap.size := by simp
  have r : Blk (w.alloc (.cells #[.slice none 0 0, .slice none 0 0] 39)) w.heap.size 39 [.slice none 0 0, .slice none 0 0] := (Blk.new w #[.slice none 0 0, .slice none 0 0] 39 (by first | rfl | simp))
  go_enter Try.func133, Try.ntmps133
  go_wp2_with fail
  generalize (w.alloc (.cells #[.slice none 0 0, .slice none 0 0] 39)) = W0 at *
  refine (l2DrawEntries_s g most _ (hc.ext hW0) h0 h1).mono ?_
  rintro e w1 ⟨ve, L, rfl, oe, hLe, hQe, hc1, hF1⟩
  have hlr := r.lt
  have hz1' := hF1.size
  replace r := r.fr hF1 (.inr (by omega))
  have hFr := (Fr.ext (lo := g) (hi := g + 1) hW0).trans hF1
  obtain ⟨Ae, ne, ce, hve, -⟩ := id oe
  subst hve
  clear hF1 hW0 hc
  go_wp2_with fail
  refine (runAll_s _ _ ⟨[], []⟩ L _ w1.heap.size (by exact ⟨_, _, rfl, RdS.nil, RdS.nil⟩) (by exact oe.rd) (by omega) (by simp [szI]) (by omega)).mono ?_
  rintro e w2 ⟨v2, a2, rfl, o2, -, hE2⟩
  have hsz2 : Hid (szI (runAll ⟨[], []⟩ L).1 ≤ 50) := runAll_szI _ L 50 (by simp [szI]) (by omega)
  have hQ2 : Hid (∀ s ∈ (runAll ⟨[], []⟩ L).1.seats, s.req ≤ 100) := runAll_req hQe
  clear hQe
  generalize (runAll ⟨[], []⟩ L).1 = M at *
  have hz2' := hE2.size
  replace r := r.ext hE2
  replace hc1 := hc1.ext hE2
  replace hFr := hFr.thenExt hE2
  obtain ⟨u2, s2, rfl, oC, oS⟩ := o2
  obtain ⟨A2, n2, c2, hv2, hl2, -⟩ := id oC
  obtain ⟨B2, m2, d2, hv3, hl3, -⟩ := id oS
  subst hv2 hv3
  have hn2 : n2 ≤ 50 := by have := hsz2.out; unfold szI at this; omega
  have hm2 : m2 ≤ 50 := by have := hsz2.out; unfold szI at this; omega
  clear hE2 oe hl2 hl3
  have hW2 : Ext w2 (w2.alloc (.cells #[.slice A2 n2 c2, .slice B2 m2 d2] 39)) := by repeat' (first | with_reducible exact Ext.refl _ | with_reducible assumption | with_reducible refine Ext.set ?_ ?_ _ _ | with_reducible refine Ext.alloc ?_ _ | with_reducible refine Ext.drew ?_ | with_reducible refine Ext.drewN ?_ _ | with_reducible refine Ext.trans ?_ (by with_reducible assumption) | omega | (simp; done) | (simp; omega))
  have zW2 : w2.heap.size + 1 ≤ (w2.alloc (.cells #[.slice A2 n2 c2, .slice B2 m2 d2] 39)).heap.size := by simp
  have q : Blk (w2.alloc (.cells #[.slice A2 n2 c2, .slice B2 m2 d2] 39)) w2.heap.size 39 [.slice A2 n2 c2, .slice B2 m2 d2] := (Blk.new w2 #[.slice A2 n2 c2, .slice B2 m2 d2] 39 (by first | rfl | simp))
  go_upto_region 2 with (fail)
  replace r := r.ext hW2
  replace hc1 := hc1.ext hW2
  replace hFr := hFr.thenExt hW2
  replace oC := (hW2.owns oC (Nat.le_refl _)).wide (show w.heap.size ≤ _ by omega) hW2.size
  replace oS := (hW2.owns oS (Nat.le_refl _)).wide (show w.heap.size ≤ _ by omega) hW2.size
  clear hW2
  generalize (w2.alloc (.cells #[.slice A2 n2 c2, .slice B2 m2 d2] 39)) = W2 at *
  go_wp2_with fail
  refine (l1Once_s g _ _ hc1 (by omega)).mono ?_
  rintro e w3 ⟨b1, rfl, hc3, hF3⟩
  have hlq := q.lt
  have hlr2 := r.lt
  have hz3 := hF3.size
  replace r := r.fr hF3 (.inr (by omega))
  replace q := q.fr hF3 (.inr (by omega))
  replace hFr := hFr.trans hF3
  replace oC := (hF3.owns oC (.inr (by omega))).wide (Nat.le_refl _) hz3
  replace oS := (hF3.owns oS (.inr (by omega))).wide (Nat.le_refl _) hz3
  clear hF3 hc1 hsz2
  obtain ⟨C1, hC1⟩ : ∃ C1 : List CellD, M.cells = C1 := ⟨_, rfl⟩
  obtain ⟨S1, hS1⟩ : ∃ S1 : List SeatD, M.seats = S1 := ⟨_, rfl⟩
  rw [hC1] at oC
  rw [hS1] at oS
  rw [hS1] at hQ2
  clear hC1 hS1
  go_upto_if 18 with (fail)
  go_cut [] (fun wx => ∃ (A : Option Addr) (n c : Nat) (C : List CellD), n ≤ 50 ∧ Blk wx w.heap.size 39 [.slice none 0 0, .slice none 0 0] ∧ Blk wx w2.heap.size 39 [.slice A n c, .slice B2 m2 d2] ∧ O_CellS wx w.heap.size wx.heap.size (.slice A n c) C ∧ O_SeatS wx w.heap.size wx.heap.size (.slice B2 m2 d2) S1 ∧ Cur wx g ∧ Fr g (g + 1) w wx)
  case first =>
    cases b1 with
    | false =>
      go_wp2_with fail
      go_meet
      exact ⟨_, _, _, C1, hn2, r, q, oC, oS, hc3, hFr⟩
    | true =>
      obtain ⟨q_p0, q_f0⟩ := q.at 0 _ rfl
      obtain ⟨q_p1, q_f1⟩ := q.at 1 _ rfl
      go_wp2
      clear q_p0 q_f0 q_p1 q_f1
      have q' := q.set 0 (.slice none 0 0)
      have oS' := oS.dodge q.bt (by decide) 0 (.slice none 0 0)
      replace r := r.far (h := w2.heap.size) (by omega) 0 (.slice none 0 0)
      replace hc3 := hc3.set (k := w2.heap.size) (by omega) 0 (.slice none 0 0)
      replace hFr := hFr.thenSet (k := w2.heap.size) (j := 0) (u := .slice none 0 0) (by omega)
      have hzz : w3.heap.size ≤ (w3.setCell ⟨w2.heap.size, 0, none⟩ (.slice none 0 0)).heap.size := by simp
      replace oS := OwnS.wide oS' (Nat.le_refl _) hzz
      replace q := (show Blk _ _ _ [.slice none 0 0, .slice B2 m2 d2] from q')
      clear q' oC oS'
      generalize w3.setCell ⟨w2.heap.size, 0, none⟩ (.slice none 0 0) = w4 at *
      go_loopw [7] (fun iv wr => ∃ (k : Nat) (A' : Option Addr) (c' : Nat) (C : List CellD), k ≤ 40 ∧ iv = .int .i64 k ∧ Hid (C.length = k) ∧ Blk wr w.heap.size 39 [.slice none 0 0, .slice none 0 0] ∧ Blk wr w2.heap.size 39 [.slice A' k c', .slice B2 m2 d2] ∧ Own wr w.heap.size wr.heap.size 86 2 (.slice A' k c') k (C.flatMap eCell) ∧ O_SeatS wr w.heap.size wr.heap.size (.slice B2 m2 d2) S1 ∧ Cur wr g ∧ Fr g (g + 1) w wr) (fun iv _ => 40 - (intOf iv).toNat)
      case atStart => exact ⟨0, _, _, [], by omega, rfl, rfl, r, q, Own.nil _ _ _ _ _ _, oS, hc3, hFr⟩
      case round =>
        clear r q oS hc3 hFr hlq hlr2
        obtain ⟨k, A', c', C, hk, rfl, hC, r, q, oC, oS, hc3, hFr⟩ := hrel
        have hlq := q.lt
        have hlr2 := r.lt
        by_cases hlt : k < 40
        · have hlt' : (k : Int) < 40 := by omega
          obtain ⟨q_p0, q_f0⟩ := q.at 0 _ rfl
          obtain ⟨q_p1, q_f1⟩ := q.at 1 _ rfl
          go_upto_region 7 with (fail)
          go_wp2_with (at_builtin; refine wpList_app _ rfl _ _ 36 rfl 86 i0 _ 2 16 Try.underlying36 hi0 hz0 hz1 hz2 rfl (by omega) w.heap.size wr.heap.size (.slice A' k c') k _ rfl (((Ext.refl wr).alloc _).own oC (by omega)) (by simp; omega) (by first | omega | (simp; done) | (simp; omega)) (wr.heap.size + 1) (some ⟨wr.heap.size, 0, none⟩) 1 1 (eCell ⟨2 * (k : Int), (k : Int)⟩) rfl (own_made wr #[.int .i64 (2 * (k : Int)), .int .i64 (k : Int)] 1 86 2 (by unfold maxLen; omega) rfl).rd.2.2.2 (fun u hu => oneCell_Cell [⟨2 * (k : Int), (k : Int)⟩] u (by simpa using hu)) (by unfold maxLen; omega) (by omega) ?_)
          intro A6 c6 w6 o6 hg6
          have oCA := ((Ext.refl wr).alloc (.cells #[.int .i64 (2 * (k : Int)), .int .i64 (k : Int)] 86)).own oC (Nat.le_refl _)
          have oSA := ((Ext.refl wr).alloc (.cells #[.int .i64 (2 * (k : Int)), .int .i64 (k : Int)] 86)).owns oS (Nat.le_refl _)
          have hF6 : Fr _ _ _ w6 := Fr.of_grown hg6 (fun g h => oCA.lt g h)
          have hz6 := hF6.size
          simp only [World.size_alloc] at hz6
          clear q_p0 q_f0 q_p1 q_f1
          replace r := (r.alloc (.cells #[.int .i64 (2 * (k : Int)), .int .i64 (k : Int)] 86)).apart oCA (by decide) hg6
          replace q := (q.alloc (.cells #[.int .i64 (2 * (k : Int)), .int .i64 (k : Int)] 86)).apart oCA (by decide) hg6
          have hc6 := (hc3.alloc _).fr hF6 hg
          replace hFr := (hFr.thenAlloc _).thenFr hF6 (Nat.le_refl _)
          have oS6 := (O_SeatS.apart oSA (OwnS.of oCA hC.out) (by decide) hg6).wide (Nat.le_refl _) (show wr.heap.size ≤ w6.heap.size by omega)
          have hC2 : Hid ((C ++ [(⟨2 * (k : Int), (k : Int)⟩ : CellD)]).length = k + 1) := by show _ = _; rw [List.length_append, hC.out]; rfl
          have o7 : Own w6 w.heap.size w6.heap.size 86 2 (.slice A6 (k + 1) c6) (k + 1) ((C ++ [(⟨2 * (k : Int), (k : Int)⟩ : CellD)]).flatMap eCell) := by
            rw [List.flatMap_append, List.flatMap_cons, List.flatMap_nil, List.append_nil]
            exact o6
          clear o6 hg6 oCA oC oS oSA hF6 hc3
          obtain ⟨q_p0, q_f0⟩ := q.at 0 _ rfl
          obtain ⟨q_p1, q_f1⟩ := q.at 1 _ rfl
          go_wp2
          go_roundw
          case rel => exact ⟨k + 1, A6, c6, _, by omega, by go_num, hC2, r.far (by omega) 0 _, q.set 0 _, (o7.dodge q.row (by decide) 0 _).wide (Nat.le_refl _) (by simp), (oS6.dodge q.bt (by decide) 0 _).wide (Nat.le_refl _) (by simp), hc6.set (by omega) 0 _, hFr.thenSet (by omega)⟩
          case measure => simp [intOf]; omega
        · obtain rfl : k = 40 := by omega
          go_wp2_with fail
          go_meet
          exact ⟨_, _, _, C, by omega, r, q, OwnS.of oC hC.out, oS, hc3, hFr⟩
  clear r q oC oS hc3 hFr hlq hlr2
  obtain ⟨A2, n2, c2, C1, hn2, r, q, oC, oS, hc3, hFr⟩ := hcut
  rename World => W5
  have hlq := q.lt
  have hlr2 := r.lt
  have hz5 := hFr.size
  go_wp2_with fail
  refine (l1Once_s g _ _ hc3 (by omega)).mono ?_
  rintro e w5 ⟨b2, rfl, hc5, hF5⟩
  have hz6 := hF5.size
  replace r := r.fr hF5 (.inr (by omega))
  replace q := q.fr hF5 (.inr (by omega))
  replace hFr := hFr.trans hF5
  replace oC := (hF5.owns oC (.inr (by omega))).wide (Nat.le_refl _) hz6
  replace oS := (hF5.owns oS (.inr (by omega))).wide (Nat.le_refl _) hz6
  clear hF5 hc3
  have hlq5 := q.lt
  have hlr5 := r.lt
  go_upto_if 34 with (fail)
  go_cut [] (fun wx => ∃ (A : Option Addr) (n c : Nat) (S : List SeatD), n ≤ 50 ∧ Blk wx w.heap.size 39 [.slice none 0 0, .slice none 0 0] ∧ Blk wx w2.heap.size 39 [.slice A2 n2 c2, .slice A n c] ∧ O_CellS wx w.heap.size wx.heap.size (.slice A2 n2 c2) C1 ∧ O_SeatS wx w.heap.size wx.heap.size (.slice A n c) S ∧ Hid (∀ s ∈ S, s.req ≤ 100) ∧ Cur wx g ∧ Fr g (g + 1) w wx)
  case first =>
    cases b2 with
    | false =>
      go_wp2_with fail
      go_meet
      exact ⟨_, _, _, S1, hm2, r, q, oC, oS, hQ2, hc5, hFr⟩
    | true =>
      obtain ⟨q_p0, q_f0⟩ := q.at 0 _ rfl
      obtain ⟨q_p1, q_f1⟩ := q.at 1 _ rfl
      go_wp2
      clear q_p0 q_f0 q_p1 q_f1
      have q' := q.set 1 (.slice none 0 0)
      have oC' := oC.dodge q.bt (by decide) 1 (.slice none 0 0)
      replace r := r.far (h := w2.heap.size) (by omega) 1 (.slice none 0 0)
      replace hc5 := hc5.set (k := w2.heap.size) (by omega) 1 (.slice none 0 0)
      replace hFr := hFr.thenSet (k := w2.heap.size) (j := 1) (u := .slice none 0 0) (by omega)
      have hzz : w5.heap.size ≤ (w5.setCell ⟨w2.heap.size, 1, none⟩ (.slice none 0 0)).heap.size := by simp
      replace oC := OwnS.wide oC' (Nat.le_refl _) hzz
      replace q := (show Blk _ _ _ [.slice A2 n2 c2, .slice none 0 0] from q')
      clear q' oS oC'
      generalize w5.setCell ⟨w2.heap.size, 1, none⟩ (.slice none 0 0) = w6 at *
      go_loopw [8] (fun iv wr => ∃ (k : Nat) (A' : Option Addr) (c' : Nat) (S : List SeatD), k ≤ 10 ∧ iv = .int .i64 k ∧ Hid (S.length = k) ∧ Blk wr w.heap.size 39 [.slice none 0 0, .slice none 0 0] ∧ Blk wr w2.heap.size 39 [.slice A2 n2 c2, .slice A' k c'] ∧ O_CellS wr w.heap.size wr.heap.size (.slice A2 n2 c2) C1 ∧ Own wr w.heap.size wr.heap.size 88 3 (.slice A' k c') k (S.flatMap eSeat) ∧ Hid (∀ s ∈ S, s.req ≤ 100) ∧ Cur wr g ∧ Fr g (g + 1) w wr) (fun iv _ => 10 - (intOf iv).toNat)
      case atStart => exact ⟨0, _, _, [], by omega, rfl, rfl, r, q, oC, Own.nil _ _ _ _ _ _, (fun _ h => nomatch h), hc5, hFr⟩
      case round =>
        clear r q oC hc5 hFr hlq hlr2 hlq5 hlr5
        obtain ⟨k, A', c', S, hk, rfl, hS, r, q, oC, oS, hQS, hc5, hFr⟩ := hrel
        have hlq := q.lt
        have hlr2 := r.lt
        by_cases hlt : k < 10
        · have hlt' : (k : Int) < 10 := by omega
          have hi0 := hj0
          have hz0 := hy0
          have hz1 := hy1
          have hz2 := hy2
          obtain ⟨q_p0, q_f0⟩ := q.at 0 _ rfl
          obtain ⟨q_p1, q_f1⟩ := q.at 1 _ rfl
          go_upto_region 13 with (fail)
          go_wp2_with (at_builtin; refine wpList_app _ rfl _ _ 37 rfl 88 j0 _ 3 24 Try.underlying37 hj0 hy0 hy1 hy2 rfl (by omega) w.heap.size wr.heap.size (.slice A' k c') k _ rfl (((Ext.refl wr).alloc _).own oS (by omega)) (by simp; omega) (by first | omega | (simp; done) | (simp; omega)) (wr.heap.size + 1) (some ⟨wr.heap.size, 0, none⟩) 1 1 (eSeat ⟨(k : Int) + 2, 1 + (k : Int), (k : Int) - 1⟩) rfl (own_made wr #[.int .i64 ((k : Int) + 2), .int .i64 (1 + (k : Int)), .int .i64 ((k : Int) - 1)] 1 88 3 (by unfold maxLen; omega) rfl).rd.2.2.2 (fun u hu => oneCell_Seat [⟨(k : Int) + 2, 1 + (k : Int), (k : Int) - 1⟩] u (by simpa using hu)) (by unfold maxLen; omega) (by omega) ?_)
          intro A6 c6 w6 o6 hg6
          have oSA := ((Ext.refl wr).alloc (.cells #[.int .i64 ((k : Int) + 2), .int .i64 (1 + (k : Int)), .int .i64 ((k : Int) - 1)] 88)).own oS (Nat.le_refl _)
          have oCA := ((Ext.refl wr).alloc (.cells #[.int .i64 ((k : Int) + 2), .int .i64 (1 + (k : Int)), .int .i64 ((k : Int) - 1)] 88)).owns oC (Nat.le_refl _)
          have hF6 : Fr _ _ _ w6 := Fr.of_grown hg6 (fun g h => oSA.lt g h)
          have hz6 := hF6.size
          simp only [World.size_alloc] at hz6
          clear q_p0 q_f0 q_p1 q_f1
          replace r := (r.alloc (.cells #[.int .i64 ((k : Int) + 2), .int .i64 (1 + (k : Int)), .int .i64 ((k : Int) - 1)] 88)).apart oSA (by decide) hg6
          replace q := (q.alloc (.cells #[.int .i64 ((k : Int) + 2), .int .i64 (1 + (k : Int)), .int .i64 ((k : Int) - 1)] 88)).apart oSA (by decide) hg6
          have hc6 := (hc5.alloc _).fr hF6 hg
          replace hFr := (hFr.thenAlloc _).thenFr hF6 (Nat.le_refl _)
          have oC6 := (O_CellS.apart oCA (OwnS.of oSA hS.out) (by decide) hg6).wide (Nat.le_refl _) (show wr.heap.size ≤ w6.heap.size by omega)
          have hQ3 : Hid (∀ s ∈ S ++ [(⟨(k : Int) + 2, 1 + (k : Int), (k : Int) - 1⟩ : SeatD)], s.req ≤ 100) := by
            intro s hs
            rcases List.mem_append.1 hs with hs | hs
            · exact hQS.out s hs
            · rw [List.mem_singleton.1 hs]; show 1 + (k : Int) ≤ 100; omega
          have hS2 : Hid ((S ++ [(⟨(k : Int) + 2, 1 + (k : Int), (k : Int) - 1⟩ : SeatD)]).length = k + 1) := by show _ = _; rw [List.length_append, hS.out]; rfl
          have o7 : Own w6 w.heap.size w6.heap.size 88 3 (.slice A6 (k + 1) c6) (k + 1) ((S ++ [(⟨(k : Int) + 2, 1 + (k : Int), (k : Int) - 1⟩ : SeatD)]).flatMap eSeat) := by
            rw [List.flatMap_append, List.flatMap_cons, List.flatMap_nil, List.append_nil]
            exact o6
          clear o6 hg6 oCA oC oS oSA hF6 hc5
          obtain ⟨q_p0, q_f0⟩ := q.at 0 _ rfl
          obtain ⟨q_p1, q_f1⟩ := q.at 1 _ rfl
          go_wp2
          go_roundw
          case rel => exact ⟨k + 1, A6, c6, _, by omega, by go_num, hS2, r.far (by omega) 1 _, q.set 1 _, (oC6.dodge q.bt (by decide) 1 _).wide (Nat.le_refl _) (by simp), (o7.dodge q.row (by decide) 1 _).wide (Nat.le_refl _) (by simp), hQ3, hc6.set (by omega) 1 _, hFr.thenSet (by omega)⟩
          case measure => simp [intOf]; omega
        · obtain rfl : k = 10 := by omega
          go_wp2_with fail
          go_meet
          exact ⟨_, _, _, S, by omega, r, q, oC, OwnS.of oS hS.out, hQS, hc5, hFr⟩
  clear r q oC oS hc5 hFr hlq hlr2 hlq5 hlr5 hQ2
  obtain ⟨B2, m2, d2, S1, hm2, r, q, oC, oS, hQ2, hc5, hFr⟩ := hcut
  rename World => W6
  have hlq := q.lt
  have hlr2 := r.lt
  have hsz : szI ⟨C1, S1⟩ ≤ 110 := by
    obtain ⟨_, _, _, e1, hl1, -⟩ := id oC
    obtain ⟨_, _, _, e2, hl2, -⟩ := id oS
    injection e1 with e1 e3
    injection e2 with e2 e4
    unfold szI
    dsimp only
    omega
  have hbt := r.bt
  obtain ⟨q_p0, q_f0⟩ := q.at 0 _ rfl
  obtain ⟨q_p1, q_f1⟩ := q.at 1 _ rfl
  obtain ⟨r_p0, r_f0⟩ := r.at 0 _ rfl
  obtain ⟨r_p1, r_f1⟩ := r.at 1 _ rfl
  go_wp2
  exact bodyPost_ret (v := .agg #[.slice A2 n2 c2, .slice B2 m2 d2]) (by simp [results, Try.results133, go_sem, r_p0, r_p1]) rfl ⟨_, ⟨C1, S1⟩, rfl, ⟨_, _, rfl, ((oC.dodge hbt (by decide) 0 _).dodge (hbt.set _ 0 _) (by decide) 1 _).wide (Nat.le_refl _) (by simp), ((oS.dodge hbt (by decide) 0 _).dodge (hbt.set _ 0 _) (by decide) 1 _).wide (Nat.le_refl _) (by simp)⟩, hsz, hQ2.out, by repeat' (first | with_reducible assumption | with_reducible refine Cur.set ?_ ?_ _ _ | with_reducible refine Cur.alloc ?_ _ | with_reducible refine Cur.drew ?_ | omega | (simp; done) | (simp; omega)), by repeat' (first | with_reducible assumption | with_reducible refine Fr.thenSet ?_ ?_ | with_reducible refine Fr.thenAlloc ?_ _ | with_reducible refine Fr.thenDrew ?_ | omega | (simp; done) | (simp; omega))⟩

end Go.Proofs.Ytbfbdhjeoknjkaa
