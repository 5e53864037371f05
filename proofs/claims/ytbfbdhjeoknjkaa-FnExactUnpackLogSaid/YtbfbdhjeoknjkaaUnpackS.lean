/-
  UnpackLog of the reference, walked.
-/
import Derived.Test.YtbfbdhjeoknjkaaUnpackI
namespace Go.Proofs.Ytbfbdhjeoknjkaa
open Go.RowKit

theorem unpackL_nk (b : List UInt8) (a : Int) : NK_Log (unpackL b a).1 ≤ 4194304 := by
  have h0 : NK_Log zeroL ≤ 4194304 := by simp [NK_Log, NK_Image, NK_CellS, NK_SeatS, NK_EntryS, zeroL]
  cases h : (rd3 b a).2 with
  | none => rw [unpackL_no h]; exact h0
  | some e =>
    rw [unpackL_yes h]
    split
    · have h1 : (rd1 b a).1.length ≤ 40 := rdAll_len b 40 2 (rdNum b (some a)).2
      have h2 : (rd2 b a).1.length ≤ 10 := rdAll_len b 10 3 (rd1 b a).2
      have h3 : (rd3 b a).1.length ≤ 60 := rdAll_len b 60 5 (rd2 b a).2
      simp only [unpackI, NK_Log, NK_Image, NK_CellS, NK_SeatS, NK_EntryS, List.length_map]
      omega
    · exact h0
theorem chunkC_at : ∀ {m : Nat} {F : List Int}, F.length = m * 2 → (chunkC F).length = m ∧ ∀ j, j < m → (chunkC F)[j]? = some ⟨F.getD (2 * j) 0, F.getD (2 * j + 1) 0⟩ := by
  intro m
  induction m with
  | zero => intro F h; rw [List.eq_nil_of_length_eq_zero (by omega : F.length = 0)]; exact ⟨rfl, fun j hj => by omega⟩
  | succ m ih =>
    intro F h
    match F, h with
    | x :: y :: t, h =>
      obtain ⟨h1, h2⟩ := ih (F := t) (by simp only [List.length_cons] at h; omega)
      refine ⟨by simp [chunkC, h1], fun j hj => ?_⟩
      cases j with
      | zero => rfl
      | succ j =>
        have := h2 j (by omega)
        simp only [chunkC, List.getElem?_cons_succ, this, show 2 * (j + 1) = 2 * j + 1 + 1 by omega, List.getD_cons_succ]
    | [x], h => first | (simp at h; done) | (simp at h; omega)
    | [], h => first | (simp at h; done) | (simp at h; omega)
theorem chunkS_at : ∀ {m : Nat} {F : List Int}, F.length = m * 3 → (chunkS F).length = m ∧ ∀ j, j < m → (chunkS F)[j]? = some ⟨F.getD (3 * j) 0, F.getD (3 * j + 1) 0, F.getD (3 * j + 2) 0 - 1⟩ := by
  intro m
  induction m with
  | zero => intro F h; rw [List.eq_nil_of_length_eq_zero (by omega : F.length = 0)]; exact ⟨rfl, fun j hj => by omega⟩
  | succ m ih =>
    intro F h
    match F, h with
    | x :: y :: z :: t, h =>
      obtain ⟨h1, h2⟩ := ih (F := t) (by simp only [List.length_cons] at h; omega)
      refine ⟨by simp [chunkS, h1], fun j hj => ?_⟩
      cases j with
      | zero => rfl
      | succ j =>
        have := h2 j (by omega)
        simp only [chunkS, List.getElem?_cons_succ, this, show 3 * (j + 1) = 3 * j + 1 + 1 + 1 by omega, show 3 * j + 1 + 1 + 1 + 1 = (3 * j + 1) + 1 + 1 + 1 by omega, show 3 * j + 1 + 1 + 1 + 2 = (3 * j + 2) + 1 + 1 + 1 by omega, List.getD_cons_succ]
    | [x, y], h => first | (simp at h; done) | (simp at h; omega)
    | [x], h => first | (simp at h; done) | (simp at h; omega)
    | [], h => first | (simp at h; done) | (simp at h; omega)
theorem chunkE_at : ∀ {m : Nat} {F : List Int}, F.length = m * 5 → (chunkE F).length = m ∧ ∀ j, j < m → (chunkE F)[j]? = some ⟨F.getD (5 * j) 0, F.getD (5 * j + 1) 0, ⟨F.getD (5 * j + 2) 0, F.getD (5 * j + 3) 0, F.getD (5 * j + 4) 0⟩⟩ := by
  intro m
  induction m with
  | zero => intro F h; rw [List.eq_nil_of_length_eq_zero (by omega : F.length = 0)]; exact ⟨rfl, fun j hj => by omega⟩
  | succ m ih =>
    intro F h
    match F, h with
    | x :: y :: z :: u :: v :: t, h =>
      obtain ⟨h1, h2⟩ := ih (F := t) (by simp only [List.length_cons] at h; omega)
      refine ⟨by simp [chunkE, h1], fun j hj => ?_⟩
      cases j with
      | zero => rfl
      | succ j =>
        have := h2 j (by omega)
        simp only [chunkE, List.getElem?_cons_succ, this, show 5 * (j + 1) = 5 * j + 1 + 1 + 1 + 1 + 1 by omega, show 5 * j + 1 + 1 + 1 + 1 + 1 + 1 = (5 * j + 1) + 1 + 1 + 1 + 1 + 1 by omega, show 5 * j + 1 + 1 + 1 + 1 + 1 + 2 = (5 * j + 2) + 1 + 1 + 1 + 1 + 1 by omega, show 5 * j + 1 + 1 + 1 + 1 + 1 + 3 = (5 * j + 3) + 1 + 1 + 1 + 1 + 1 by omega, show 5 * j + 1 + 1 + 1 + 1 + 1 + 4 = (5 * j + 4) + 1 + 1 + 1 + 1 + 1 by omega, List.getD_cons_succ]
    | [x, y, z, u], h => first | (simp at h; done) | (simp at h; omega)
    | [x, y, z], h => first | (simp at h; done) | (simp at h; omega)
    | [x, y], h => first | (simp at h; done) | (simp at h; omega)
    | [x], h => first | (simp at h; done) | (simp at h; omega)
    | [], h => first | (simp at h; done) | (simp at h; omega)
/-- An own row of numbers: its cells. -/
theorem OwnS.spotN {w : World} {lo hi m c : Nat} {A : Option Addr} {F : List Int} {e : TypeId} (h : OwnS w lo hi e 1 eI (.slice A m c) F) (hm : 0 < m) : ∃ g, A = some ⟨g, 0, none⟩ ∧ lo ≤ g ∧ g < hi ∧ ∀ q, q < m → w.cell? ⟨g, q, none⟩ = some (.int .i64 (F.getD q 0)) := by
  obtain ⟨A', n, c', hv, hn, ho⟩ := h
  injection hv with e1 e2 e3
  subst e1 e2 e3
  obtain ⟨g, cap, hv2, h1, h2, -, -, hc, -⟩ := ho.row hm
  injection hv2 with e1 e2 e3
  refine ⟨g, e1, h1, h2, fun q hq => ?_⟩
  rw [hc q (by omega)]
  have hj2 : q < F.length := by omega
  have h3 := flat_get (enc := eI) eI_len (l := F) (k := q) (j := 0) (List.getElem?_eq_getElem hj2) (by omega)
  rw [Nat.mul_one, Nat.add_zero] at h3
  rw [h3]
  simp [eI, List.getD_eq_getElem?_getD, List.getElem?_eq_getElem hj2]

set_option maxRecDepth 100000 in
set_option maxHeartbeats 4000000 in
theorem l4Rows_s (A : Option Addr) (n c : Nat) (l : List UInt8) (a : Int) (wide most : Nat) (w : World) (B : Nat) (hr : RdS w B 1 eB (.slice A n c) l) (hB : B ≤ w.heap.size) (hn : l.length ≤ 4611686018427387904) (hw1 : 1 ≤ wide) (hw5 : wide ≤ 5) (hm60 : most ≤ 60) :
    Calls Try.prog 67 #[.slice A n c, .int .i64 a, .int .i64 wide, .int .i64 most] w fun e w' => ∃ v', e = .returned (.tuple #[v', .int .i64 (gmE (l4Rows l a wide most)), .bool (l4Rows l a wide most).isSome]) ∧ OwnS w' w.heap.size w'.heap.size 3 1 eI v' (gmL (l4Rows l a wide most)) ∧ Ext w w' := by
  obtain ⟨_, _, _, ev, hl, hnc, hcm, hrd⟩ := id hr
  injection ev with e1 e2 e3
  subst e1 e2 e3
  rw [hl] at hn
  obtain ⟨gn, hgn⟩ : ∃ gn, getNum l a = gn := ⟨_, rfl⟩
  cases gn with
  | none =>
    have hres := Lib.hid (l4Rows_no (wide := wide) (most := most) hgn)
    rw [hres.out]
    go_enter Try.func67, Try.ntmps67
    go_wp2_with fail
    refine (getNum_s A n c l a _ B (by exact hrd) hl hn).mono ?_
    rw [hgn]
    clear hgn
    rintro e w1 ⟨rfl, hst⟩
    have hE := hst.ext
    try simp only [gnV]
    go_wp2
    go_ret3
    exact ⟨_, rfl, OwnS.nil _, by repeat' (first | with_reducible exact Ext.refl _ | with_reducible assumption | with_reducible refine Ext.set ?_ ?_ _ _ | with_reducible refine Ext.alloc ?_ _ | with_reducible refine Ext.drew ?_ | with_reducible refine Ext.drewN ?_ _ | with_reducible refine Ext.trans ?_ (by with_reducible assumption) | omega | (simp; done) | (simp; omega))⟩
  | some q =>
    obtain ⟨m, e⟩ := q
    have hlt := getNum_lt hgn
    by_cases hm : m ≤ most
    · have hres := Lib.hid (l4Rows_in (wide := wide) hgn hm)
      have d1 : decide ((most : Int) < (m : Int)) = false := by simp; omega
      by_cases hz : m = 0
      · subst hz
        have hg0 : Hid (l4Rows l a wide most = some ([], (e : Int))) := by show _ = _; rw [hres.out, Nat.zero_mul]; rfl
        rw [hg0.out]
        go_enter Try.func67, Try.ntmps67
        go_wp2_with fail
        refine (getNum_s A n c l a _ B (by exact hrd) hl hn).mono ?_
        rw [hgn]
        clear hgn
        rintro e w1 ⟨rfl, hst⟩
        have hE := hst.ext
        try simp only [gnV]
        go_wp2
        go_ret3
        exact ⟨_, rfl, OwnS.nil _, by repeat' (first | with_reducible exact Ext.refl _ | with_reducible assumption | with_reducible refine Ext.set ?_ ?_ _ _ | with_reducible refine Ext.alloc ?_ _ | with_reducible refine Ext.drew ?_ | with_reducible refine Ext.drewN ?_ _ | with_reducible refine Ext.trans ?_ (by with_reducible assumption) | omega | (simp; done) | (simp; omega))⟩
      · have hz2 : ((m : Int) == 0) = false := by simp; omega
        obtain ⟨p, hp⟩ : ∃ p, m * wide = p := ⟨_, rfl⟩
        have hp1 : 1 ≤ p := by rw [← hp]; exact Nat.mul_pos (by omega) hw1
        have hp2 : p ≤ 300 := by rw [← hp]; exact Nat.le_trans (Nat.mul_le_mul (show m ≤ 60 by omega) hw5) (by omega)
        have hpi : (m : Int) * (wide : Int) = (p : Int) := by rw [← hp]; push_cast; rfl
        have hww : IntKind.i64.wrap ((m : Int) * (wide : Int)) = (p : Int) := by rw [hpi]; exact IntWalk.i64_in _ (by omega)
        have hgm : getNums l (e : Int) (p : Int) = getMany l p (e : Int) := by unfold getNums; rw [if_pos (by omega), Int.toNat_natCast]
        have hg1 : Hid (l4Rows l a wide most = getNums l (e : Int) (p : Int)) := by show _ = _; rw [hres.out, hgm, hp]
        clear hgm hpi hp
        rw [hg1.out]
        go_enter Try.func67, Try.ntmps67
        go_wp2_with fail
        refine (getNum_s A n c l a _ B (by exact hrd) hl hn).mono ?_
        rw [hgn]
        clear hgn
        rintro e w1 ⟨rfl, hst⟩
        have hE := hst.ext
        have hzE := hE.size
        clear hst
        try simp only [gnV]
        go_wp2_with fail
        refine (getNums_s _ l _ (p : Int) _ B (by exact hE.rds hr hB) (by omega) (by omega)).mono ?_
        rintro e w2 ⟨v2, rfl, o2, hE2⟩
        obtain ⟨A2, n2, c2, hv2, -⟩ := id o2
        subst hv2
        go_wp2
        go_ret3
        exact ⟨_, rfl, o2.wide hzE (Nat.le_refl _), hE.trans hE2⟩
    · have hres := Lib.hid (l4Rows_out (wide := wide) hgn hm)
      rw [hres.out]
      have d1 : decide ((most : Int) < (m : Int)) = true := by simp; omega
      go_enter Try.func67, Try.ntmps67
      go_wp2_with fail
      refine (getNum_s A n c l a _ B (by exact hrd) hl hn).mono ?_
      rw [hgn]
      clear hgn
      rintro e w1 ⟨rfl, hst⟩
      have hE := hst.ext
      try simp only [gnV]
      go_wp2
      go_ret3
      exact ⟨_, rfl, OwnS.nil _, by repeat' (first | with_reducible exact Ext.refl _ | with_reducible assumption | with_reducible refine Ext.set ?_ ?_ _ _ | with_reducible refine Ext.alloc ?_ _ | with_reducible refine Ext.drew ?_ | with_reducible refine Ext.drewN ?_ _ | with_reducible refine Ext.trans ?_ (by with_reducible assumption) | omega | (simp; done) | (simp; omega))⟩

set_option maxRecDepth 100000 in
set_option maxHeartbeats 16000000 in
theorem unpackLog_s (v : Value) (l : List UInt8) (a : Int) (w : World) (B : Nat) (hr : RdS w B 1 eB v l) (hB : B ≤ w.heap.size) (hn : l.length ≤ 4611686018427387904) :
    Calls Try.prog 29 #[v, .int .i64 a] w fun e w' => ∃ v', e = .returned (.tuple #[v', .int .i64 (unpackL l a).2.1, .bool (unpackL l a).2.2]) ∧ O_Log w' w.heap.size w'.heap.size v' (unpackL l a).1 ∧ Ext w w' := by
  obtain ⟨A, n, c, rfl, hl, hnc, hcm, hrd⟩ := hr
  have hn0 := hn
  rw [hl] at hn
  obtain ⟨i0, hi0, hz0, hz1, hz2⟩ := info_parts info_Cell
  obtain ⟨j0, hj0, hy0, hy1, hy2⟩ := info_parts info_Seat
  obtain ⟨k0, hk0, hx0, hx1, hx2⟩ := info_parts info_Entry
  have hp2 : 0 < 2 := by omega
  have hp3 : 0 < 3 := by omega
  have hp5 : 0 < 5 := by omega
  obtain ⟨res, hres⟩ : ∃ res, unpackL l a = res := ⟨_, rfl⟩
  rw [hres]
  unfold unpackL at hres
  have Hres := Lib.hid hres
  clear hres
  obtain ⟨gn, hgn⟩ : ∃ gn, getNum l a = gn := ⟨_, rfl⟩
  have hW0 : Ext w (w.alloc (.cells #[.int .i64 0, .slice none 0 0, .slice none 0 0, .slice none 0 0] 42)) := by repeat' (first | with_reducible exact Ext.refl _ | with_reducible assumption | with_reducible refine Ext.set ?_ ?_ _ _ | with_reducible refine Ext.alloc ?_ _ | with_reducible refine Ext.drew ?_ | with_reducible refine Ext.drewN ?_ _ | with_reducible refine Ext.trans ?_ (by with_reducible assumption) | omega | (simp; done) | (simp; omega))
  have zW0 : w.heap.size + 1 ≤ (w.alloc (.cells #[.int .i64 0, .slice none 0 0, .slice none 0 0, .slice none 0 0] 42)).heap.size := by simp
  have z : Blk (w.alloc (.cells #[.int .i64 0, .slice none 0 0, .slice none 0 0, .slice none 0 0] 42)) w.heap.size 42 [.int .i64 0, .slice none 0 0, .slice none 0 0, .slice none 0 0] := (Blk.new w #[.int .i64 0, .slice none 0 0, .slice none 0 0, .slice none 0 0] 42 (by first | rfl | simp))
  go_enter Try.func29, Try.ntmps29
  go_wp2_with fail
  generalize (w.alloc (.cells #[.int .i64 0, .slice none 0 0, .slice none 0 0, .slice none 0 0] 42)) = W0 at *
  have hX : Ext w W0 := hW0
  have hrd0 := hW0.rd hrd hB
  clear hW0
  refine (getNum_s A n c l a _ B (by exact hrd0) hl hn).mono ?_
  rw [hgn]
  rintro e w1 ⟨rfl, hst⟩
  have hE := hst.ext
  have hz1' := hE.size
  replace z := z.ext hE
  replace hX := hX.trans hE
  clear hst hE
  cases gn with
  | none =>
    have hf : Hid (res = (zeroL, 0, false)) := by show _ = _; rw [← Hres.out, hgn]
    clear hgn
    try simp only [gnV]
    obtain ⟨z_p0, z_f0⟩ := z.at 0 _ rfl
    obtain ⟨z_p1, z_f1⟩ := z.at 1 _ rfl
    obtain ⟨z_p2, z_f2⟩ := z.at 2 _ rfl
    obtain ⟨z_p3, z_f3⟩ := z.at 3 _ rfl
    go_wp2
    rw [hf.out]
    exact bodyPost_ret (v := .tuple #[.agg #[.int .i64 0, .slice none 0 0, .slice none 0 0, .slice none 0 0], .int .i64 0, .bool false]) (by simp [results, Try.results29, go_sem, z_p0, z_p1, z_p2, z_p3]) rfl ⟨_, rfl, ⟨_, _, _, rfl, OwnS.nil _, OwnS.nil _, OwnS.nil _⟩, by repeat' (first | with_reducible exact Ext.refl _ | with_reducible assumption | with_reducible refine Ext.set ?_ ?_ _ _ | with_reducible refine Ext.alloc ?_ _ | with_reducible refine Ext.drew ?_ | with_reducible refine Ext.drewN ?_ _ | with_reducible refine Ext.trans ?_ (by with_reducible assumption) | omega | (simp; done) | (simp; omega))⟩
  | some g0 =>
    obtain ⟨base, e0⟩ := g0
    have Hg0 := Lib.hid hgn
    clear hgn
    try simp only [gnV]
    have hW1 : Ext w1 (w1.alloc (.cells #[.int .i64 (base : Int), .slice none 0 0, .slice none 0 0, .slice none 0 0] 42)) := by repeat' (first | with_reducible exact Ext.refl _ | with_reducible assumption | with_reducible refine Ext.set ?_ ?_ _ _ | with_reducible refine Ext.alloc ?_ _ | with_reducible refine Ext.drew ?_ | with_reducible refine Ext.drewN ?_ _ | with_reducible refine Ext.trans ?_ (by with_reducible assumption) | omega | (simp; done) | (simp; omega))
    have zW1 : w1.heap.size + 1 ≤ (w1.alloc (.cells #[.int .i64 (base : Int), .slice none 0 0, .slice none 0 0, .slice none 0 0] 42)).heap.size := by simp
    have p : Blk (w1.alloc (.cells #[.int .i64 (base : Int), .slice none 0 0, .slice none 0 0, .slice none 0 0] 42)) w1.heap.size 42 [.int .i64 (base : Int), .slice none 0 0, .slice none 0 0, .slice none 0 0] := (Blk.new w1 #[.int .i64 (base : Int), .slice none 0 0, .slice none 0 0, .slice none 0 0] 42 (by first | rfl | simp))
    go_wp2_with fail
    replace z := z.ext hW1
    replace hX := hX.trans hW1
    have hzW1 := hW1.size
    clear hW1
    generalize (w1.alloc (.cells #[.int .i64 (base : Int), .slice none 0 0, .slice none 0 0, .slice none 0 0] 42)) = W1 at *
    have rbs : RdS W1 B 1 eB (.slice A n c) l := RdS.of (hX.rd hrd hB) hl hnc hcm
    refine (l4Rows_s A n c l (e0 : Int) 2 40 _ B (by exact rbs) (by omega) hn0 (by omega) (by omega) (by omega)).mono ?_
    clear rbs
    obtain ⟨r1, hr1⟩ : ∃ r, l4Rows l (e0 : Int) 2 40 = r := ⟨_, rfl⟩
    rw [hr1]
    rintro e w2 ⟨v, rfl, ff1, hE⟩
    have hzz2 := hE.size
    replace z := z.ext hE
    replace p := p.ext hE
    replace hX := hX.trans hE
    clear hE
    obtain ⟨B1, q1, d1, hv3, hlf1, -⟩ := id ff1
    subst hv3
    cases r1 with
    | none =>
      have hf : Hid (res = (zeroL, 0, false)) := by
        show _ = _
        have h := Hres.out
        simp only [Hg0.out, hr1] at h
        exact h.symm
      clear hr1 ff1 hlf1
      try simp only [gmE, gmL, Option.map_none, Option.getD_none, Option.isSome_none]
      obtain ⟨z_p0, z_f0⟩ := z.at 0 _ rfl
      obtain ⟨z_p1, z_f1⟩ := z.at 1 _ rfl
      obtain ⟨z_p2, z_f2⟩ := z.at 2 _ rfl
      obtain ⟨z_p3, z_f3⟩ := z.at 3 _ rfl
      obtain ⟨p_p0, p_f0⟩ := p.at 0 _ rfl
      obtain ⟨p_p1, p_f1⟩ := p.at 1 _ rfl
      obtain ⟨p_p2, p_f2⟩ := p.at 2 _ rfl
      obtain ⟨p_p3, p_f3⟩ := p.at 3 _ rfl
      go_wp2
      rw [hf.out]
      exact bodyPost_ret (v := .tuple #[.agg #[.int .i64 0, .slice none 0 0, .slice none 0 0, .slice none 0 0], .int .i64 0, .bool false]) (by simp [results, Try.results29, go_sem, z_p0, z_p1, z_p2, z_p3]) rfl ⟨_, rfl, ⟨_, _, _, rfl, OwnS.nil _, OwnS.nil _, OwnS.nil _⟩, by repeat' (first | with_reducible exact Ext.refl _ | with_reducible assumption | with_reducible refine Ext.set ?_ ?_ _ _ | with_reducible refine Ext.alloc ?_ _ | with_reducible refine Ext.drew ?_ | with_reducible refine Ext.drewN ?_ _ | with_reducible refine Ext.trans ?_ (by with_reducible assumption) | omega | (simp; done) | (simp; omega))⟩
    | some g1 =>
      obtain ⟨F1, e1_⟩ := g1
      have Hr1 := Lib.hid hr1
      obtain ⟨⟨m1, hm1, hfl1⟩, hfb1⟩ := l4Rows_len hr1
      have Hf1 := Lib.hid hfl1
      have Hfb1 := Lib.hid hfb1
      have hlf12 : F1.length = q1 := hlf1
      have Hlf1 := Lib.hid hlf12
      replace ff1 : OwnS w2 _ w2.heap.size 3 1 eI (.slice B1 q1 d1) F1 := ff1
      clear hr1 hfl1 hfb1 hlf1 hlf12
      try simp only [gmE, gmL, Option.map_some, Option.getD_some, Option.isSome_some]
      go_wp2_with fail
      have rbs : RdS w2 B 1 eB (.slice A n c) l := RdS.of (hX.rd hrd hB) hl hnc hcm
      refine (l4Rows_s A n c l e1_ 3 10 _ B (by exact rbs) (by omega) hn0 (by omega) (by omega) (by omega)).mono ?_
      clear rbs
      obtain ⟨r2, hr2⟩ : ∃ r, l4Rows l e1_ 3 10 = r := ⟨_, rfl⟩
      rw [hr2]
      rintro e w3 ⟨v, rfl, ff2, hE⟩
      have hzz3 := hE.size
      replace z := z.ext hE
      replace p := p.ext hE
      replace hX := hX.trans hE
      replace ff1 := ff1.keep (keepE hE (by omega))
      clear hE
      obtain ⟨B2, q2, d2, hv3, hlf2, -⟩ := id ff2
      subst hv3
      cases r2 with
      | none =>
        have hf : Hid (res = (zeroL, 0, false)) := by
          show _ = _
          have h := Hres.out
          simp only [Hg0.out, Hr1.out, hr2] at h
          exact h.symm
        clear hr2 ff2 hlf2
        try simp only [gmE, gmL, Option.map_none, Option.getD_none, Option.isSome_none]
        obtain ⟨z_p0, z_f0⟩ := z.at 0 _ rfl
        obtain ⟨z_p1, z_f1⟩ := z.at 1 _ rfl
        obtain ⟨z_p2, z_f2⟩ := z.at 2 _ rfl
        obtain ⟨z_p3, z_f3⟩ := z.at 3 _ rfl
        obtain ⟨p_p0, p_f0⟩ := p.at 0 _ rfl
        obtain ⟨p_p1, p_f1⟩ := p.at 1 _ rfl
        obtain ⟨p_p2, p_f2⟩ := p.at 2 _ rfl
        obtain ⟨p_p3, p_f3⟩ := p.at 3 _ rfl
        go_wp2
        rw [hf.out]
        exact bodyPost_ret (v := .tuple #[.agg #[.int .i64 0, .slice none 0 0, .slice none 0 0, .slice none 0 0], .int .i64 0, .bool false]) (by simp [results, Try.results29, go_sem, z_p0, z_p1, z_p2, z_p3]) rfl ⟨_, rfl, ⟨_, _, _, rfl, OwnS.nil _, OwnS.nil _, OwnS.nil _⟩, by repeat' (first | with_reducible exact Ext.refl _ | with_reducible assumption | with_reducible refine Ext.set ?_ ?_ _ _ | with_reducible refine Ext.alloc ?_ _ | with_reducible refine Ext.drew ?_ | with_reducible refine Ext.drewN ?_ _ | with_reducible refine Ext.trans ?_ (by with_reducible assumption) | omega | (simp; done) | (simp; omega))⟩
      | some g2 =>
        obtain ⟨F2, e2_⟩ := g2
        have Hr2 := Lib.hid hr2
        obtain ⟨⟨m2, hm2, hfl2⟩, hfb2⟩ := l4Rows_len hr2
        have Hf2 := Lib.hid hfl2
        have Hfb2 := Lib.hid hfb2
        have hlf22 : F2.length = q2 := hlf2
        have Hlf2 := Lib.hid hlf22
        replace ff2 : OwnS w3 _ w3.heap.size 3 1 eI (.slice B2 q2 d2) F2 := ff2
        clear hr2 hfl2 hfb2 hlf2 hlf22
        try simp only [gmE, gmL, Option.map_some, Option.getD_some, Option.isSome_some]
        go_wp2_with fail
        have rbs : RdS w3 B 1 eB (.slice A n c) l := RdS.of (hX.rd hrd hB) hl hnc hcm
        refine (l4Rows_s A n c l e2_ 5 60 _ B (by exact rbs) (by omega) hn0 (by omega) (by omega) (by omega)).mono ?_
        clear rbs
        obtain ⟨r3, hr3⟩ : ∃ r, l4Rows l e2_ 5 60 = r := ⟨_, rfl⟩
        rw [hr3]
        rintro e w4 ⟨v, rfl, ff3, hE⟩
        have hzz4 := hE.size
        replace z := z.ext hE
        replace p := p.ext hE
        replace hX := hX.trans hE
        replace ff1 := ff1.keep (keepE hE (by omega))
        replace ff2 := ff2.keep (keepE hE (by omega))
        clear hE
        obtain ⟨B3, q3, d3, hv3, hlf3, -⟩ := id ff3
        subst hv3
        cases r3 with
        | none =>
          have hf : Hid (res = (zeroL, 0, false)) := by
            show _ = _
            have h := Hres.out
            simp only [Hg0.out, Hr1.out, Hr2.out, hr3] at h
            exact h.symm
          clear hr3 ff3 hlf3
          try simp only [gmE, gmL, Option.map_none, Option.getD_none, Option.isSome_none]
          obtain ⟨z_p0, z_f0⟩ := z.at 0 _ rfl
          obtain ⟨z_p1, z_f1⟩ := z.at 1 _ rfl
          obtain ⟨z_p2, z_f2⟩ := z.at 2 _ rfl
          obtain ⟨z_p3, z_f3⟩ := z.at 3 _ rfl
          obtain ⟨p_p0, p_f0⟩ := p.at 0 _ rfl
          obtain ⟨p_p1, p_f1⟩ := p.at 1 _ rfl
          obtain ⟨p_p2, p_f2⟩ := p.at 2 _ rfl
          obtain ⟨p_p3, p_f3⟩ := p.at 3 _ rfl
          go_wp2
          rw [hf.out]
          exact bodyPost_ret (v := .tuple #[.agg #[.int .i64 0, .slice none 0 0, .slice none 0 0, .slice none 0 0], .int .i64 0, .bool false]) (by simp [results, Try.results29, go_sem, z_p0, z_p1, z_p2, z_p3]) rfl ⟨_, rfl, ⟨_, _, _, rfl, OwnS.nil _, OwnS.nil _, OwnS.nil _⟩, by repeat' (first | with_reducible exact Ext.refl _ | with_reducible assumption | with_reducible refine Ext.set ?_ ?_ _ _ | with_reducible refine Ext.alloc ?_ _ | with_reducible refine Ext.drew ?_ | with_reducible refine Ext.drewN ?_ _ | with_reducible refine Ext.trans ?_ (by with_reducible assumption) | omega | (simp; done) | (simp; omega))⟩
        | some g3 =>
          obtain ⟨F3, e3_⟩ := g3
          have Hr3 := Lib.hid hr3
          obtain ⟨⟨m3, hm3, hfl3⟩, hfb3⟩ := l4Rows_len hr3
          have Hf3 := Lib.hid hfl3
          have Hfb3 := Lib.hid hfb3
          have hlf32 : F3.length = q3 := hlf3
          have Hlf3 := Lib.hid hlf32
          replace ff3 : OwnS w4 _ w4.heap.size 3 1 eI (.slice B3 q3 d3) F3 := ff3
          clear hr3 hfl3 hfb3 hlf3 hlf32
          try simp only [gmE, gmL, Option.map_some, Option.getD_some, Option.isSome_some]
          obtain ⟨hcl1, hca1⟩ := chunkC_at (m := m1) Hf1.out
          have Hcl1 := Lib.hid hcl1
          have Hca1 := Lib.hid hca1
          clear hcl1 hca1
          go_wp2
          go_loopw [14] (fun iv wr => ∃ (i q : Nat) (A' : Option Addr) (c' : Nat), i ≤ m1 ∧ Hid (q = 2 * i) ∧ iv = .int .i64 q ∧ Kp 0 (w1.heap.size) w4 wr ∧ Kp (w1.heap.size + 1) w4.heap.size w4 wr ∧ w4.heap.size ≤ wr.heap.size ∧ Ext w wr ∧ Blk wr (w1.heap.size) 42 [.int .i64 (base : Int), .slice A' i c', .slice none 0 0, .slice none 0 0] ∧ Own wr w4.heap.size wr.heap.size 86 2 (.slice A' i c') i (((chunkC F1).take i).flatMap eCell)) (fun iv _ => q1 - (intOf iv).toNat)
          case atStart => exact ⟨0, 0, none, 0, by omega, rfl, rfl, Kp.refl _ _ _, Kp.refl _ _ _, Nat.le_refl _, hX, p, Own.nil _ _ _ _ _ _⟩
          case round =>
            obtain ⟨i, q, AC, cC, hi, hq, rfl, hK1, hK2, hzr, hXr, pr, own⟩ := hrel
            have hqm : Hid (q1 = 2 * m1) := by show _ = _; have h1 := Hlf1.out; have h2 := Hf1.out; omega
            by_cases hlt : i < m1
            · have hql : q + 2 ≤ q1 := by have h1 := hqm.out; have h2 := hq.out; omega
              have hqs : q1 ≤ 300 := by have h1 := hqm.out; omega
              have hb0 : (q : Int) < (q1 : Int) := by omega
              have hg0 : 0 ≤ (q : Int) := by omega
              have hw1 : IntKind.i64.wrap ((q : Int) + 1) = (q : Int) + 1 := IntWalk.i64_in _ (by omega)
              have ht1 : ((q : Int) + 1).toNat = q + 1 := by omega
              have hb1 : (q : Int) + 1 < (q1 : Int) := by omega
              have hg1 : 0 ≤ (q : Int) + 1 := by omega
              have hwi : IntKind.i64.wrap ((q : Int) + 2) = (q : Int) + 2 := IntWalk.i64_in _ (by omega)
              obtain ⟨gs, rfl, hgs1, hgs2, hcs⟩ := ff1.spotN (by omega)
              have e0 := (World.cell?_of_block (a := ⟨gs, q, none⟩) (hK2 gs (by omega) (by omega))).trans (hcs q (by omega))
              have e1 := (World.cell?_of_block (a := ⟨gs, q + 1, none⟩) (hK2 gs (by omega) (by omega))).trans (hcs (q + 1) (by omega))
              have hsn := take_snoc (Hca1.out i hlt)
              rw [← hq.out] at hsn
              generalize F1.getD q 0 = x0 at *
              generalize F1.getD (q + 1) 0 = x1 at *
              clear hcs
              have hlp := pr.lt
              have hml : i + 1 ≤ maxLen := by unfold maxLen; have := hqm.out; omega
              have hbl : (i + 1) * 16 ≤ 140737488355328 := by have := hqm.out; omega
              obtain ⟨pr_p0, pr_f0⟩ := pr.at 0 _ rfl
              obtain ⟨pr_p1, pr_f1⟩ := pr.at 1 _ rfl
              obtain ⟨pr_p2, pr_f2⟩ := pr.at 2 _ rfl
              obtain ⟨pr_p3, pr_f3⟩ := pr.at 3 _ rfl
              go_upto_region 17 with (fail)
              refine region_anyY (X := [17]) (S := (fun w' => w'.cell? ⟨w1.heap.size, 1, none⟩ = some (.slice AC i cC) ∧ w'.cell? ⟨gs, q, none⟩ = some (.int .i64 x0) ∧ w'.cell? ⟨gs, q + 1, none⟩ = some (.int .i64 x1))) (by kernel_rfl) ⟨pr_p1, e0, e1⟩ (fun hHeld => ?_)
              refine anyY_take (i := 0) (v := ?_) rfl (by kernel_rfl) (by kernel_rfl) (by kernel_rfl) (by kernel_rfl) (fun _ _ _ h => h) (Or.inl ⟨by rfl, ?_⟩) (by assumption) ?_
              rotate_left
              · (intro w hSw; (try dsimp only at hSw); go_simp; (try with_reducible rfl))
              try simp only [Act.put, List.getElem_toArray, List.getElem_cons_zero, List.getElem_cons_succ, List.setIfInBounds_toArray, List.set_cons_zero, List.set_cons_succ]
              refine anyY_take (i := 1) (v := ?_) rfl (by kernel_rfl) (by kernel_rfl) (by kernel_rfl) (by kernel_rfl) (fun _ _ _ h => h) (Or.inl ⟨by rfl, ?_⟩) (by assumption) ?_
              rotate_left
              · (intro w hSw; (try dsimp only at hSw); go_simp; (try with_reducible rfl))
              try simp only [Act.put, List.getElem_toArray, List.getElem_cons_zero, List.getElem_cons_succ, List.setIfInBounds_toArray, List.set_cons_zero, List.set_cons_succ]
              refine anyY_take (i := 2) (v := ?_) rfl (by kernel_rfl) (by kernel_rfl) (by kernel_rfl) (by kernel_rfl) (fun _ _ _ h => h) (Or.inl ⟨by rfl, ?_⟩) (by assumption) ?_
              rotate_left
              · (intro w hSw; (try dsimp only at hSw); go_simp; (try with_reducible rfl))
              try simp only [Act.put, List.getElem_toArray, List.getElem_cons_zero, List.getElem_cons_succ, List.setIfInBounds_toArray, List.set_cons_zero, List.set_cons_succ]
              refine anyY_take (i := 3) (v := ?_) rfl (by kernel_rfl) (by kernel_rfl) (by kernel_rfl) (by kernel_rfl) (fun _ _ _ h => h) (Or.inl ⟨by rfl, ?_⟩) (by assumption) ?_
              rotate_left
              · (intro w hSw; (try dsimp only at hSw); go_simp; (try with_reducible rfl))
              try simp only [Act.put, List.getElem_toArray, List.getElem_cons_zero, List.getElem_cons_succ, List.setIfInBounds_toArray, List.set_cons_zero, List.set_cons_succ]
              refine anyY_take (i := 4) (v := ?_) rfl (by kernel_rfl) (by kernel_rfl) (by kernel_rfl) (by kernel_rfl) (fun _ _ _ h => h) (Or.inl ⟨by rfl, ?_⟩) (by assumption) ?_
              rotate_left
              · (intro w hSw; (try dsimp only at hSw); go_simp; (try with_reducible rfl))
              try simp only [Act.put, List.getElem_toArray, List.getElem_cons_zero, List.getElem_cons_succ, List.setIfInBounds_toArray, List.set_cons_zero, List.set_cons_succ]
              refine anyY_take (i := 5) (v := ?_) rfl (by kernel_rfl) (by kernel_rfl) (by kernel_rfl) (by kernel_rfl) (fun _ _ _ h => h) (Or.inl ⟨by rfl, ?_⟩) (by assumption) ?_
              rotate_left
              · (intro w hSw; (try dsimp only at hSw); go_simp; (try with_reducible rfl))
              try simp only [Act.put, List.getElem_toArray, List.getElem_cons_zero, List.getElem_cons_succ, List.setIfInBounds_toArray, List.set_cons_zero, List.set_cons_succ]
              refine anyY_take (i := 6) (v := ?_) rfl (by kernel_rfl) (by kernel_rfl) (by kernel_rfl) (by kernel_rfl) (fun _ _ _ h => h) (Or.inl ⟨by rfl, ?_⟩) (by assumption) ?_
              rotate_left
              · (intro w hSw; (try dsimp only at hSw); go_simp; (try with_reducible rfl))
              try simp only [Act.put, List.getElem_toArray, List.getElem_cons_zero, List.getElem_cons_succ, List.setIfInBounds_toArray, List.set_cons_zero, List.set_cons_succ]
              refine anyY_take (i := 7) (v := ?_) rfl (by kernel_rfl) (by kernel_rfl) (by kernel_rfl) (by kernel_rfl) (fun _ _ _ h => h) (Or.inl ⟨by rfl, ?_⟩) (by assumption) ?_
              rotate_left
              · (intro w hSw; (try dsimp only at hSw); go_simp; (try with_reducible rfl))
              try simp only [Act.put, List.getElem_toArray, List.getElem_cons_zero, List.getElem_cons_succ, List.setIfInBounds_toArray, List.set_cons_zero, List.set_cons_succ]
              refine anyY_take (i := 8) (v := ?_) rfl (by kernel_rfl) (by kernel_rfl) (by kernel_rfl) (by kernel_rfl) (fun _ _ _ h => h) (Or.inl ⟨by rfl, ?_⟩) (by assumption) ?_
              rotate_left
              · (intro w hSw; (try dsimp only at hSw); go_simp; (try with_reducible rfl))
              try simp only [Act.put, List.getElem_toArray, List.getElem_cons_zero, List.getElem_cons_succ, List.setIfInBounds_toArray, List.set_cons_zero, List.set_cons_succ]
              refine anyY_take (i := 9) (v := ?_) rfl (by kernel_rfl) (by kernel_rfl) (by kernel_rfl) (by kernel_rfl) (fun _ _ _ h => h) (Or.inl ⟨by rfl, ?_⟩) (by assumption) ?_
              rotate_left
              · (intro w hSw; (try dsimp only at hSw); go_simp; (try with_reducible rfl))
              try simp only [Act.put, List.getElem_toArray, List.getElem_cons_zero, List.getElem_cons_succ, List.setIfInBounds_toArray, List.set_cons_zero, List.set_cons_succ]
              refine anyY_take (i := 10) (v := ?_) rfl (by kernel_rfl) (by kernel_rfl) (by kernel_rfl) (by kernel_rfl) (fun _ _ _ h => h) (Or.inl ⟨by rfl, ?_⟩) (by assumption) ?_
              rotate_left
              · (intro w hSw; (try dsimp only at hSw); go_simp; (try with_reducible rfl))
              try simp only [Act.put, List.getElem_toArray, List.getElem_cons_zero, List.getElem_cons_succ, List.setIfInBounds_toArray, List.set_cons_zero, List.set_cons_succ]
              refine anyY_take (i := 11) (v := ?_) rfl (by kernel_rfl) (by kernel_rfl) (by kernel_rfl) (by kernel_rfl) (fun _ _ _ h => h) (Or.inl ⟨by rfl, ?_⟩) (by assumption) ?_
              rotate_left
              · (intro w hSw; (try dsimp only at hSw); go_simp; (try with_reducible rfl))
              try simp only [Act.put, List.getElem_toArray, List.getElem_cons_zero, List.getElem_cons_succ, List.setIfInBounds_toArray, List.set_cons_zero, List.set_cons_succ]
              refine anyY_take (i := 12) (v := ?_) rfl (by kernel_rfl) (by kernel_rfl) (by kernel_rfl) (by kernel_rfl) (fun _ _ _ h => h) (Or.inl ⟨by rfl, ?_⟩) (by assumption) ?_
              rotate_left
              · (intro w hSw; (try dsimp only at hSw); go_simp; (try with_reducible rfl))
              try simp only [Act.put, List.getElem_toArray, List.getElem_cons_zero, List.getElem_cons_succ, List.setIfInBounds_toArray, List.set_cons_zero, List.set_cons_succ]
              refine anyY_one (i := 13) (by kernel_rfl) rfl (fun K hK => ?_)
              go_simp
              (try dsimp only)
              refine hK.out _ _ ⟨Ext.cellAt ((Ext.refl _).alloc _) pr_p1, Ext.cellAt ((Ext.refl _).alloc _) e0, Ext.cellAt ((Ext.refl _).alloc _) e1⟩ (fun hHeld => ?_)
              clear hK K
              try simp only [Act.put, List.getElem_toArray, List.getElem_cons_zero, List.getElem_cons_succ, List.setIfInBounds_toArray, List.set_cons_zero, List.set_cons_succ]
              have hV : Ext wr (wr.alloc (.cells #[.int .i64 x0, .int .i64 x1] 86)).drew := ((Ext.refl wr).alloc _).drew
              have hrx := rd_new wr [.int .i64 x0, .int .i64 x1] 86 2 rfl
              have owV := hV.own own (Nat.le_refl _)
              have hzV : wr.heap.size + 1 = (wr.alloc (.cells #[.int .i64 x0, .int .i64 x1] 86)).drew.heap.size := by simp
              refine anyY_one (i := 14) (by kernel_rfl) rfl (fun K hK => ?_)
              refine step_app1 (d := .tmp 68) (s := .tmp 79) ?_ ?_ 86 i0 _ 2 16 Try.underlying36 hi0 hz0 hz1 hz2 rfl hp2 w4.heap.size wr.heap.size (.slice AC i cC) i (((chunkC F1).take i).flatMap eCell) ?_ owV (by omega) (by omega) (wr.heap.size + 1) (some ⟨wr.heap.size, 0, none⟩) 1 1 (eCell (⟨x0, x1⟩ : CellD)) ?_ (by exact hrx) (fun u hu => oneCell_Cell [(⟨x0, x1⟩ : CellD)] u (by simpa using hu)) hml hbl ?_
              rfl
              rfl
              (focus (simp [Act.eval]; done))
              (focus (simp [Act.eval]; done))
              intro A6 c6 w6 o6 hg6
              have hF6 : Fr _ _ _ w6 := Fr.of_grown hg6 (fun g h => owV.lt g h)
              have hz6 := hF6.size
              (clear pr_p0 pr_f0 pr_p1 pr_f1 pr_p2 pr_f2 pr_p3 pr_f3)
              replace pr := (pr.ext hV).fr hF6 (.inl (by omega))
              obtain ⟨pr_p0, pr_f0⟩ := pr.at 0 _ rfl
              obtain ⟨pr_p1, pr_f1⟩ := pr.at 1 _ rfl
              obtain ⟨pr_p2, pr_f2⟩ := pr.at 2 _ rfl
              obtain ⟨pr_p3, pr_f3⟩ := pr.at 3 _ rfl
              replace e0 := hF6.cellAt (hV.cellAt e0) (.inl (by omega))
              replace e1 := hF6.cellAt (hV.cellAt e1) (.inl (by omega))
              (try dsimp only)
              refine hK.out _ _ ⟨pr_p1, e0, e1⟩ (fun hHeld => ?_)
              clear hK K
              try simp only [Act.put, List.getElem_toArray, List.getElem_cons_zero, List.getElem_cons_succ, List.setIfInBounds_toArray, List.set_cons_zero, List.set_cons_succ]
              refine anyY_take (i := 15) (v := ?_) rfl (by kernel_rfl) (by kernel_rfl) (by kernel_rfl) (by kernel_rfl) (fun _ _ _ h => h) (Or.inl ⟨by rfl, ?_⟩) (by assumption) ?_
              rotate_left
              · (intro w hSw; (try dsimp only at hSw); go_simp; (try with_reducible rfl))
              try simp only [Act.put, List.getElem_toArray, List.getElem_cons_zero, List.getElem_cons_succ, List.setIfInBounds_toArray, List.set_cons_zero, List.set_cons_succ]
              refine anyY_take (i := 16) (v := ?_) rfl (by kernel_rfl) (by kernel_rfl) (by kernel_rfl) (by kernel_rfl) (fun _ _ _ h => h) (Or.inl ⟨by rfl, ?_⟩) (by assumption) ?_
              rotate_left
              · (intro w hSw; (try dsimp only at hSw); go_simp; (try with_reducible rfl))
              try simp only [Act.put, List.getElem_toArray, List.getElem_cons_zero, List.getElem_cons_succ, List.setIfInBounds_toArray, List.set_cons_zero, List.set_cons_succ]
              refine anyY_last (x := 17) (by kernel_rfl) (by kernel_rfl) rfl (fun K hK => ?_)
              go_simp
              (try dsimp only)
              refine hK.out _ _ ?_
              clear hK K
              try simp only [Act.put, List.getElem_toArray, List.getElem_cons_zero, List.getElem_cons_succ, List.setIfInBounds_toArray, List.set_cons_zero, List.set_cons_succ]
              refine anyY_done (by kernel_rfl) ?_ _
              clear hHeld pr_p0 pr_f0 pr_p1 pr_f1 pr_p2 pr_f2 pr_p3 pr_f3 e0 e1
              have hK1n : Kp 0 (w1.heap.size) w4 (w6.setCell ⟨w1.heap.size, 1, none⟩ (.slice A6 (i + 1) c6)) := ((hK1.ext (by omega) hV).fr (by omega) (.inl (by omega)) hF6).set (.inr (by omega)) _ _
              have hK2n : Kp (w1.heap.size + 1) w4.heap.size w4 (w6.setCell ⟨w1.heap.size, 1, none⟩ (.slice A6 (i + 1) c6)) := ((hK2.ext (by omega) hV).fr (by omega) (.inl (by omega)) hF6).set (.inl (by omega)) _ _
              have hXn : Ext w (w6.setCell ⟨w1.heap.size, 1, none⟩ (.slice A6 (i + 1) c6)) := ((hXr.trans hV).fr hF6 (by omega)).set (by omega) _ _
              have o7 : Own (w6.setCell ⟨w1.heap.size, 1, none⟩ (.slice A6 (i + 1) c6)) w4.heap.size w6.heap.size 86 2 (.slice A6 (i + 1) c6) (i + 1) (((chunkC F1).take (i + 1)).flatMap eCell) := by
                rw [hsn, List.flatMap_append, List.flatMap_cons, List.flatMap_nil, List.append_nil]
                exact o6.dodge pr.row (by decide) 1 _
              have pn := pr.set 1 (.slice A6 (i + 1) c6)
              have hzn1 : w6.heap.size ≤ (w6.setCell ⟨w1.heap.size, 1, none⟩ (.slice A6 (i + 1) c6)).heap.size := by simp
              have hqn : Hid (q + 2 = 2 * (i + 1)) := by show _ = _; have := hq.out; omega
              clear o6 hg6 hF6 hV hrx owV own pr hK1 hK2 hXr hsn
              go_wp2
              go_roundw
              case rel => exact ⟨i + 1, q + 2, A6, c6, by omega, hqn, by go_num, hK1n, hK2n, by omega, hXn, pn, o7.wide (Nat.le_refl _) hzn1⟩
              case measure => simp [intOf]; omega
            · obtain rfl : m1 = i := by omega
              obtain rfl : q = q1 := by have h1 := hqm.out; have h2 := hq.out; omega
              have hwi : IntKind.i64.wrap ((q : Int) + 1) = (q : Int) + 1 := IntWalk.i64_in _ (by have h1 := hqm.out; omega)
              have hbi : decide ((q : Int) + 1 < (q : Int)) = false := by simp; omega
              have own2 : O_CellS wr w4.heap.size wr.heap.size (.slice AC m1 cC) (chunkC F1) := OwnS.of (by rw [List.take_of_length_le (by rw [Hcl1.out]; exact Nat.le_refl _)] at own; exact own) Hcl1.out
              replace z := z.kp hK1 (by omega) (by omega)
              clear hX p
              have hX := hXr
              have p := pr
              have oC := own2
              replace ff2 := ff2.keep (hK2.sub (by omega) (by omega))
              replace ff3 := ff3.keep (hK2.sub (by omega) (by omega))
              clear own own2 hK1 hK2 hXr pr hlt hq hqm
              rename World => wC
              have hzc : w4.heap.size ≤ wC.heap.size := hzr
              clear hzr
              obtain ⟨hcl2, hca2⟩ := chunkS_at (m := m2) Hf2.out
              have Hcl2 := Lib.hid hcl2
              have Hca2 := Lib.hid hca2
              clear hcl2 hca2
              go_wp2
              go_loopw [15] (fun iv wr => ∃ (i q : Nat) (A' : Option Addr) (c' : Nat), i ≤ m2 ∧ Hid (q = 3 * i) ∧ iv = .int .i64 q ∧ Kp 0 (w1.heap.size) wC wr ∧ Kp (w1.heap.size + 1) wC.heap.size wC wr ∧ wC.heap.size ≤ wr.heap.size ∧ Ext w wr ∧ Blk wr (w1.heap.size) 42 [.int .i64 (base : Int), .slice AC m1 cC, .slice A' i c', .slice none 0 0] ∧ Own wr wC.heap.size wr.heap.size 88 3 (.slice A' i c') i (((chunkS F2).take i).flatMap eSeat)) (fun iv _ => q2 - (intOf iv).toNat)
              case atStart => exact ⟨0, 0, none, 0, by omega, rfl, rfl, Kp.refl _ _ _, Kp.refl _ _ _, Nat.le_refl _, hX, p, Own.nil _ _ _ _ _ _⟩
              case round =>
                obtain ⟨i, q, AS, cS, hi, hq, rfl, hK1, hK2, hzr, hXr, pr, own⟩ := hrel
                have hqm : Hid (q2 = 3 * m2) := by show _ = _; have h1 := Hlf2.out; have h2 := Hf2.out; omega
                by_cases hlt : i < m2
                · have hql : q + 3 ≤ q2 := by have h1 := hqm.out; have h2 := hq.out; omega
                  have hqs : q2 ≤ 300 := by have h1 := hqm.out; omega
                  have hb0 : (q : Int) < (q2 : Int) := by omega
                  have hg0 : 0 ≤ (q : Int) := by omega
                  have hw1 : IntKind.i64.wrap ((q : Int) + 1) = (q : Int) + 1 := IntWalk.i64_in _ (by omega)
                  have ht1 : ((q : Int) + 1).toNat = q + 1 := by omega
                  have hb1 : (q : Int) + 1 < (q2 : Int) := by omega
                  have hg1 : 0 ≤ (q : Int) + 1 := by omega
                  have hw2 : IntKind.i64.wrap ((q : Int) + 2) = (q : Int) + 2 := IntWalk.i64_in _ (by omega)
                  have ht2 : ((q : Int) + 2).toNat = q + 2 := by omega
                  have hb2 : (q : Int) + 2 < (q2 : Int) := by omega
                  have hg2 : 0 ≤ (q : Int) + 2 := by omega
                  have hwi : IntKind.i64.wrap ((q : Int) + 3) = (q : Int) + 3 := IntWalk.i64_in _ (by omega)
                  obtain ⟨gs, rfl, hgs1, hgs2, hcs⟩ := ff2.spotN (by omega)
                  have e0 := (World.cell?_of_block (a := ⟨gs, q, none⟩) (hK2 gs (by omega) (by omega))).trans (hcs q (by omega))
                  have e1 := (World.cell?_of_block (a := ⟨gs, q + 1, none⟩) (hK2 gs (by omega) (by omega))).trans (hcs (q + 1) (by omega))
                  have e2 := (World.cell?_of_block (a := ⟨gs, q + 2, none⟩) (hK2 gs (by omega) (by omega))).trans (hcs (q + 2) (by omega))
                  have hbb := getD_bound Hfb2.out (q + 2)
                  have hsn := take_snoc (Hca2.out i hlt)
                  rw [← hq.out] at hsn
                  generalize F2.getD q 0 = x0 at *
                  generalize F2.getD (q + 1) 0 = x1 at *
                  generalize F2.getD (q + 2) 0 = x2 at *
                  clear hcs
                  have hww : IntKind.i64.wrap (x2 - 1) = x2 - 1 := IntWalk.i64_in _ (by omega)
                  have hlp := pr.lt
                  have hml : i + 1 ≤ maxLen := by unfold maxLen; have := hqm.out; omega
                  have hbl : (i + 1) * 24 ≤ 140737488355328 := by have := hqm.out; omega
                  obtain ⟨pr_p0, pr_f0⟩ := pr.at 0 _ rfl
                  obtain ⟨pr_p1, pr_f1⟩ := pr.at 1 _ rfl
                  obtain ⟨pr_p2, pr_f2⟩ := pr.at 2 _ rfl
                  obtain ⟨pr_p3, pr_f3⟩ := pr.at 3 _ rfl
                  go_upto_region 21 with (fail)
                  refine region_anyY (X := [23]) (S := (fun w' => w'.cell? ⟨w1.heap.size, 2, none⟩ = some (.slice AS i cS) ∧ w'.cell? ⟨gs, q, none⟩ = some (.int .i64 x0) ∧ w'.cell? ⟨gs, q + 1, none⟩ = some (.int .i64 x1) ∧ w'.cell? ⟨gs, q + 2, none⟩ = some (.int .i64 x2))) (by kernel_rfl) ⟨pr_p2, e0, e1, e2⟩ (fun hHeld => ?_)
                  refine anyY_take (i := 0) (v := ?_) rfl (by kernel_rfl) (by kernel_rfl) (by kernel_rfl) (by kernel_rfl) (fun _ _ _ h => h) (Or.inl ⟨by rfl, ?_⟩) (by assumption) ?_
                  rotate_left
                  · (intro w hSw; (try dsimp only at hSw); go_simp; (try with_reducible rfl))
                  try simp only [Act.put, List.getElem_toArray, List.getElem_cons_zero, List.getElem_cons_succ, List.setIfInBounds_toArray, List.set_cons_zero, List.set_cons_succ]
                  refine anyY_take (i := 1) (v := ?_) rfl (by kernel_rfl) (by kernel_rfl) (by kernel_rfl) (by kernel_rfl) (fun _ _ _ h => h) (Or.inl ⟨by rfl, ?_⟩) (by assumption) ?_
                  rotate_left
                  · (intro w hSw; (try dsimp only at hSw); go_simp; (try with_reducible rfl))
                  try simp only [Act.put, List.getElem_toArray, List.getElem_cons_zero, List.getElem_cons_succ, List.setIfInBounds_toArray, List.set_cons_zero, List.set_cons_succ]
                  refine anyY_take (i := 2) (v := ?_) rfl (by kernel_rfl) (by kernel_rfl) (by kernel_rfl) (by kernel_rfl) (fun _ _ _ h => h) (Or.inl ⟨by rfl, ?_⟩) (by assumption) ?_
                  rotate_left
                  · (intro w hSw; (try dsimp only at hSw); go_simp; (try with_reducible rfl))
                  try simp only [Act.put, List.getElem_toArray, List.getElem_cons_zero, List.getElem_cons_succ, List.setIfInBounds_toArray, List.set_cons_zero, List.set_cons_succ]
                  refine anyY_take (i := 3) (v := ?_) rfl (by kernel_rfl) (by kernel_rfl) (by kernel_rfl) (by kernel_rfl) (fun _ _ _ h => h) (Or.inl ⟨by rfl, ?_⟩) (by assumption) ?_
                  rotate_left
                  · (intro w hSw; (try dsimp only at hSw); go_simp; (try with_reducible rfl))
                  try simp only [Act.put, List.getElem_toArray, List.getElem_cons_zero, List.getElem_cons_succ, List.setIfInBounds_toArray, List.set_cons_zero, List.set_cons_succ]
                  refine anyY_take (i := 4) (v := ?_) rfl (by kernel_rfl) (by kernel_rfl) (by kernel_rfl) (by kernel_rfl) (fun _ _ _ h => h) (Or.inl ⟨by rfl, ?_⟩) (by assumption) ?_
                  rotate_left
                  · (intro w hSw; (try dsimp only at hSw); go_simp; (try with_reducible rfl))
                  try simp only [Act.put, List.getElem_toArray, List.getElem_cons_zero, List.getElem_cons_succ, List.setIfInBounds_toArray, List.set_cons_zero, List.set_cons_succ]
                  refine anyY_take (i := 5) (v := ?_) rfl (by kernel_rfl) (by kernel_rfl) (by kernel_rfl) (by kernel_rfl) (fun _ _ _ h => h) (Or.inl ⟨by rfl, ?_⟩) (by assumption) ?_
                  rotate_left
                  · (intro w hSw; (try dsimp only at hSw); go_simp; (try with_reducible rfl))
                  try simp only [Act.put, List.getElem_toArray, List.getElem_cons_zero, List.getElem_cons_succ, List.setIfInBounds_toArray, List.set_cons_zero, List.set_cons_succ]
                  refine anyY_take (i := 6) (v := ?_) rfl (by kernel_rfl) (by kernel_rfl) (by kernel_rfl) (by kernel_rfl) (fun _ _ _ h => h) (Or.inl ⟨by rfl, ?_⟩) (by assumption) ?_
                  rotate_left
                  · (intro w hSw; (try dsimp only at hSw); go_simp; (try with_reducible rfl))
                  try simp only [Act.put, List.getElem_toArray, List.getElem_cons_zero, List.getElem_cons_succ, List.setIfInBounds_toArray, List.set_cons_zero, List.set_cons_succ]
                  refine anyY_take (i := 7) (v := ?_) rfl (by kernel_rfl) (by kernel_rfl) (by kernel_rfl) (by kernel_rfl) (fun _ _ _ h => h) (Or.inl ⟨by rfl, ?_⟩) (by assumption) ?_
                  rotate_left
                  · (intro w hSw; (try dsimp only at hSw); go_simp; (try with_reducible rfl))
                  try simp only [Act.put, List.getElem_toArray, List.getElem_cons_zero, List.getElem_cons_succ, List.setIfInBounds_toArray, List.set_cons_zero, List.set_cons_succ]
                  refine anyY_take (i := 8) (v := ?_) rfl (by kernel_rfl) (by kernel_rfl) (by kernel_rfl) (by kernel_rfl) (fun _ _ _ h => h) (Or.inl ⟨by rfl, ?_⟩) (by assumption) ?_
                  rotate_left
                  · (intro w hSw; (try dsimp only at hSw); go_simp; (try with_reducible rfl))
                  try simp only [Act.put, List.getElem_toArray, List.getElem_cons_zero, List.getElem_cons_succ, List.setIfInBounds_toArray, List.set_cons_zero, List.set_cons_succ]
                  refine anyY_take (i := 9) (v := ?_) rfl (by kernel_rfl) (by kernel_rfl) (by kernel_rfl) (by kernel_rfl) (fun _ _ _ h => h) (Or.inl ⟨by rfl, ?_⟩) (by assumption) ?_
                  rotate_left
                  · (intro w hSw; (try dsimp only at hSw); go_simp; (try with_reducible rfl))
                  try simp only [Act.put, List.getElem_toArray, List.getElem_cons_zero, List.getElem_cons_succ, List.setIfInBounds_toArray, List.set_cons_zero, List.set_cons_succ]
                  refine anyY_take (i := 10) (v := ?_) rfl (by kernel_rfl) (by kernel_rfl) (by kernel_rfl) (by kernel_rfl) (fun _ _ _ h => h) (Or.inl ⟨by rfl, ?_⟩) (by assumption) ?_
                  rotate_left
                  · (intro w hSw; (try dsimp only at hSw); go_simp; (try with_reducible rfl))
                  try simp only [Act.put, List.getElem_toArray, List.getElem_cons_zero, List.getElem_cons_succ, List.setIfInBounds_toArray, List.set_cons_zero, List.set_cons_succ]
                  refine anyY_take (i := 11) (v := ?_) rfl (by kernel_rfl) (by kernel_rfl) (by kernel_rfl) (by kernel_rfl) (fun _ _ _ h => h) (Or.inl ⟨by rfl, ?_⟩) (by assumption) ?_
                  rotate_left
                  · (intro w hSw; (try dsimp only at hSw); go_simp; (try with_reducible rfl))
                  try simp only [Act.put, List.getElem_toArray, List.getElem_cons_zero, List.getElem_cons_succ, List.setIfInBounds_toArray, List.set_cons_zero, List.set_cons_succ]
                  refine anyY_take (i := 12) (v := ?_) rfl (by kernel_rfl) (by kernel_rfl) (by kernel_rfl) (by kernel_rfl) (fun _ _ _ h => h) (Or.inl ⟨by rfl, ?_⟩) (by assumption) ?_
                  rotate_left
                  · (intro w hSw; (try dsimp only at hSw); go_simp; (try with_reducible rfl))
                  try simp only [Act.put, List.getElem_toArray, List.getElem_cons_zero, List.getElem_cons_succ, List.setIfInBounds_toArray, List.set_cons_zero, List.set_cons_succ]
                  refine anyY_take (i := 13) (v := ?_) rfl (by kernel_rfl) (by kernel_rfl) (by kernel_rfl) (by kernel_rfl) (fun _ _ _ h => h) (Or.inl ⟨by rfl, ?_⟩) (by assumption) ?_
                  rotate_left
                  · (intro w hSw; (try dsimp only at hSw); go_simp; (try with_reducible rfl))
                  try simp only [Act.put, List.getElem_toArray, List.getElem_cons_zero, List.getElem_cons_succ, List.setIfInBounds_toArray, List.set_cons_zero, List.set_cons_succ]
                  refine anyY_take (i := 14) (v := ?_) rfl (by kernel_rfl) (by kernel_rfl) (by kernel_rfl) (by kernel_rfl) (fun _ _ _ h => h) (Or.inl ⟨by rfl, ?_⟩) (by assumption) ?_
                  rotate_left
                  · (intro w hSw; (try dsimp only at hSw); go_simp; (try with_reducible rfl))
                  try simp only [Act.put, List.getElem_toArray, List.getElem_cons_zero, List.getElem_cons_succ, List.setIfInBounds_toArray, List.set_cons_zero, List.set_cons_succ]
                  refine anyY_take (i := 15) (v := ?_) rfl (by kernel_rfl) (by kernel_rfl) (by kernel_rfl) (by kernel_rfl) (fun _ _ _ h => h) (Or.inl ⟨by rfl, ?_⟩) (by assumption) ?_
                  rotate_left
                  · (intro w hSw; (try dsimp only at hSw); go_simp; (try with_reducible rfl))
                  try simp only [Act.put, List.getElem_toArray, List.getElem_cons_zero, List.getElem_cons_succ, List.setIfInBounds_toArray, List.set_cons_zero, List.set_cons_succ]
                  refine anyY_take (i := 16) (v := ?_) rfl (by kernel_rfl) (by kernel_rfl) (by kernel_rfl) (by kernel_rfl) (fun _ _ _ h => h) (Or.inl ⟨by rfl, ?_⟩) (by assumption) ?_
                  rotate_left
                  · (intro w hSw; (try dsimp only at hSw); go_simp; (try with_reducible rfl))
                  try simp only [Act.put, List.getElem_toArray, List.getElem_cons_zero, List.getElem_cons_succ, List.setIfInBounds_toArray, List.set_cons_zero, List.set_cons_succ]
                  refine anyY_take (i := 17) (v := ?_) rfl (by kernel_rfl) (by kernel_rfl) (by kernel_rfl) (by kernel_rfl) (fun _ _ _ h => h) (Or.inl ⟨by rfl, ?_⟩) (by assumption) ?_
                  rotate_left
                  · (intro w hSw; (try dsimp only at hSw); go_simp; (try with_reducible rfl))
                  try simp only [Act.put, List.getElem_toArray, List.getElem_cons_zero, List.getElem_cons_succ, List.setIfInBounds_toArray, List.set_cons_zero, List.set_cons_succ]
                  refine anyY_take (i := 18) (v := ?_) rfl (by kernel_rfl) (by kernel_rfl) (by kernel_rfl) (by kernel_rfl) (fun _ _ _ h => h) (Or.inl ⟨by rfl, ?_⟩) (by assumption) ?_
                  rotate_left
                  · (intro w hSw; (try dsimp only at hSw); go_simp; (try with_reducible rfl))
                  try simp only [Act.put, List.getElem_toArray, List.getElem_cons_zero, List.getElem_cons_succ, List.setIfInBounds_toArray, List.set_cons_zero, List.set_cons_succ]
                  refine anyY_one (i := 19) (by kernel_rfl) rfl (fun K hK => ?_)
                  go_simp
                  (try dsimp only)
                  refine hK.out _ _ ⟨Ext.cellAt ((Ext.refl _).alloc _) pr_p2, Ext.cellAt ((Ext.refl _).alloc _) e0, Ext.cellAt ((Ext.refl _).alloc _) e1, Ext.cellAt ((Ext.refl _).alloc _) e2⟩ (fun hHeld => ?_)
                  clear hK K
                  try simp only [Act.put, List.getElem_toArray, List.getElem_cons_zero, List.getElem_cons_succ, List.setIfInBounds_toArray, List.set_cons_zero, List.set_cons_succ]
                  have hV : Ext wr (wr.alloc (.cells #[.int .i64 x0, .int .i64 x1, .int .i64 (x2 - 1)] 88)).drew := ((Ext.refl wr).alloc _).drew
                  have hrx := rd_new wr [.int .i64 x0, .int .i64 x1, .int .i64 (x2 - 1)] 88 3 rfl
                  have owV := hV.own own (Nat.le_refl _)
                  have hzV : wr.heap.size + 1 = (wr.alloc (.cells #[.int .i64 x0, .int .i64 x1, .int .i64 (x2 - 1)] 88)).drew.heap.size := by simp
                  refine anyY_one (i := 20) (by kernel_rfl) rfl (fun K hK => ?_)
                  refine step_app1 (d := .tmp 92) (s := .tmp 109) ?_ ?_ 88 j0 _ 3 24 Try.underlying37 hj0 hy0 hy1 hy2 rfl hp3 wC.heap.size wr.heap.size (.slice AS i cS) i (((chunkS F2).take i).flatMap eSeat) ?_ owV (by omega) (by omega) (wr.heap.size + 1) (some ⟨wr.heap.size, 0, none⟩) 1 1 (eSeat (⟨x0, x1, x2 - 1⟩ : SeatD)) ?_ (by exact hrx) (fun u hu => oneCell_Seat [(⟨x0, x1, x2 - 1⟩ : SeatD)] u (by simpa using hu)) hml hbl ?_
                  rfl
                  rfl
                  (focus (simp [Act.eval]; done))
                  (focus (simp [Act.eval]; done))
                  intro A6 c6 w6 o6 hg6
                  have hF6 : Fr _ _ _ w6 := Fr.of_grown hg6 (fun g h => owV.lt g h)
                  have hz6 := hF6.size
                  (clear pr_p0 pr_f0 pr_p1 pr_f1 pr_p2 pr_f2 pr_p3 pr_f3)
                  replace pr := (pr.ext hV).fr hF6 (.inl (by omega))
                  obtain ⟨pr_p0, pr_f0⟩ := pr.at 0 _ rfl
                  obtain ⟨pr_p1, pr_f1⟩ := pr.at 1 _ rfl
                  obtain ⟨pr_p2, pr_f2⟩ := pr.at 2 _ rfl
                  obtain ⟨pr_p3, pr_f3⟩ := pr.at 3 _ rfl
                  replace e0 := hF6.cellAt (hV.cellAt e0) (.inl (by omega))
                  replace e1 := hF6.cellAt (hV.cellAt e1) (.inl (by omega))
                  replace e2 := hF6.cellAt (hV.cellAt e2) (.inl (by omega))
                  (try dsimp only)
                  refine hK.out _ _ ⟨pr_p2, e0, e1, e2⟩ (fun hHeld => ?_)
                  clear hK K
                  try simp only [Act.put, List.getElem_toArray, List.getElem_cons_zero, List.getElem_cons_succ, List.setIfInBounds_toArray, List.set_cons_zero, List.set_cons_succ]
                  refine anyY_take (i := 21) (v := ?_) rfl (by kernel_rfl) (by kernel_rfl) (by kernel_rfl) (by kernel_rfl) (fun _ _ _ h => h) (Or.inl ⟨by rfl, ?_⟩) (by assumption) ?_
                  rotate_left
                  · (intro w hSw; (try dsimp only at hSw); go_simp; (try with_reducible rfl))
                  try simp only [Act.put, List.getElem_toArray, List.getElem_cons_zero, List.getElem_cons_succ, List.setIfInBounds_toArray, List.set_cons_zero, List.set_cons_succ]
                  refine anyY_take (i := 22) (v := ?_) rfl (by kernel_rfl) (by kernel_rfl) (by kernel_rfl) (by kernel_rfl) (fun _ _ _ h => h) (Or.inl ⟨by rfl, ?_⟩) (by assumption) ?_
                  rotate_left
                  · (intro w hSw; (try dsimp only at hSw); go_simp; (try with_reducible rfl))
                  try simp only [Act.put, List.getElem_toArray, List.getElem_cons_zero, List.getElem_cons_succ, List.setIfInBounds_toArray, List.set_cons_zero, List.set_cons_succ]
                  refine anyY_last (x := 23) (by kernel_rfl) (by kernel_rfl) rfl (fun K hK => ?_)
                  go_simp
                  (try dsimp only)
                  refine hK.out _ _ ?_
                  clear hK K
                  try simp only [Act.put, List.getElem_toArray, List.getElem_cons_zero, List.getElem_cons_succ, List.setIfInBounds_toArray, List.set_cons_zero, List.set_cons_succ]
                  refine anyY_done (by kernel_rfl) ?_ _
                  clear hHeld pr_p0 pr_f0 pr_p1 pr_f1 pr_p2 pr_f2 pr_p3 pr_f3 e0 e1 e2
                  have hK1n : Kp 0 (w1.heap.size) wC (w6.setCell ⟨w1.heap.size, 2, none⟩ (.slice A6 (i + 1) c6)) := ((hK1.ext (by omega) hV).fr (by omega) (.inl (by omega)) hF6).set (.inr (by omega)) _ _
                  have hK2n : Kp (w1.heap.size + 1) wC.heap.size wC (w6.setCell ⟨w1.heap.size, 2, none⟩ (.slice A6 (i + 1) c6)) := ((hK2.ext (by omega) hV).fr (by omega) (.inl (by omega)) hF6).set (.inl (by omega)) _ _
                  have hXn : Ext w (w6.setCell ⟨w1.heap.size, 2, none⟩ (.slice A6 (i + 1) c6)) := ((hXr.trans hV).fr hF6 (by omega)).set (by omega) _ _
                  have o7 : Own (w6.setCell ⟨w1.heap.size, 2, none⟩ (.slice A6 (i + 1) c6)) wC.heap.size w6.heap.size 88 3 (.slice A6 (i + 1) c6) (i + 1) (((chunkS F2).take (i + 1)).flatMap eSeat) := by
                    rw [hsn, List.flatMap_append, List.flatMap_cons, List.flatMap_nil, List.append_nil]
                    exact o6.dodge pr.row (by decide) 2 _
                  have pn := pr.set 2 (.slice A6 (i + 1) c6)
                  have hzn1 : w6.heap.size ≤ (w6.setCell ⟨w1.heap.size, 2, none⟩ (.slice A6 (i + 1) c6)).heap.size := by simp
                  have hqn : Hid (q + 3 = 3 * (i + 1)) := by show _ = _; have := hq.out; omega
                  clear o6 hg6 hF6 hV hrx owV own pr hK1 hK2 hXr hsn
                  go_wp2
                  go_roundw
                  case rel => exact ⟨i + 1, q + 3, A6, c6, by omega, hqn, by go_num, hK1n, hK2n, by omega, hXn, pn, o7.wide (Nat.le_refl _) hzn1⟩
                  case measure => simp [intOf]; omega
                · obtain rfl : m2 = i := by omega
                  obtain rfl : q = q2 := by have h1 := hqm.out; have h2 := hq.out; omega
                  have hwi : IntKind.i64.wrap ((q : Int) + 2) = (q : Int) + 2 := IntWalk.i64_in _ (by have h1 := hqm.out; omega)
                  have hbi : decide ((q : Int) + 2 < (q : Int)) = false := by simp; omega
                  have own2 : O_SeatS wr wC.heap.size wr.heap.size (.slice AS m2 cS) (chunkS F2) := OwnS.of (by rw [List.take_of_length_le (by rw [Hcl2.out]; exact Nat.le_refl _)] at own; exact own) Hcl2.out
                  replace z := z.kp hK1 (by omega) (by omega)
                  clear hX p
                  have hX := hXr
                  have p := pr
                  have oS := own2
                  replace oC := oC.keep (hK2.sub (by omega) (by omega))
                  replace ff3 := ff3.keep (hK2.sub (by omega) (by omega))
                  clear own own2 hK1 hK2 hXr pr hlt hq hqm
                  rename World => wS
                  have hzs : wC.heap.size ≤ wS.heap.size := hzr
                  clear hzr
                  obtain ⟨hcl3, hca3⟩ := chunkE_at (m := m3) Hf3.out
                  have Hcl3 := Lib.hid hcl3
                  have Hca3 := Lib.hid hca3
                  clear hcl3 hca3
                  go_wp2
                  go_loopw [16] (fun iv wr => ∃ (i q : Nat) (A' : Option Addr) (c' : Nat), i ≤ m3 ∧ Hid (q = 5 * i) ∧ iv = .int .i64 q ∧ Kp 0 (w1.heap.size) wS wr ∧ Kp (w1.heap.size + 1) wS.heap.size wS wr ∧ wS.heap.size ≤ wr.heap.size ∧ Ext w wr ∧ Blk wr (w1.heap.size) 42 [.int .i64 (base : Int), .slice AC m1 cC, .slice AS m2 cS, .slice A' i c'] ∧ Own wr wS.heap.size wr.heap.size 90 5 (.slice A' i c') i (((chunkE F3).take i).flatMap eEntry)) (fun iv _ => q3 - (intOf iv).toNat)
                  case atStart => exact ⟨0, 0, none, 0, by omega, rfl, rfl, Kp.refl _ _ _, Kp.refl _ _ _, Nat.le_refl _, hX, p, Own.nil _ _ _ _ _ _⟩
                  case round =>
                    obtain ⟨i, q, AE, cE, hi, hq, rfl, hK1, hK2, hzr, hXr, pr, own⟩ := hrel
                    have hqm : Hid (q3 = 5 * m3) := by show _ = _; have h1 := Hlf3.out; have h2 := Hf3.out; omega
                    by_cases hlt : i < m3
                    · have hql : q + 5 ≤ q3 := by have h1 := hqm.out; have h2 := hq.out; omega
                      have hqs : q3 ≤ 300 := by have h1 := hqm.out; omega
                      have hb0 : (q : Int) < (q3 : Int) := by omega
                      have hg0 : 0 ≤ (q : Int) := by omega
                      have hw1 : IntKind.i64.wrap ((q : Int) + 1) = (q : Int) + 1 := IntWalk.i64_in _ (by omega)
                      have ht1 : ((q : Int) + 1).toNat = q + 1 := by omega
                      have hb1 : (q : Int) + 1 < (q3 : Int) := by omega
                      have hg1 : 0 ≤ (q : Int) + 1 := by omega
                      have hw2 : IntKind.i64.wrap ((q : Int) + 2) = (q : Int) + 2 := IntWalk.i64_in _ (by omega)
                      have ht2 : ((q : Int) + 2).toNat = q + 2 := by omega
                      have hb2 : (q : Int) + 2 < (q3 : Int) := by omega
                      have hg2 : 0 ≤ (q : Int) + 2 := by omega
                      have hw3 : IntKind.i64.wrap ((q : Int) + 3) = (q : Int) + 3 := IntWalk.i64_in _ (by omega)
                      have ht3 : ((q : Int) + 3).toNat = q + 3 := by omega
                      have hb3 : (q : Int) + 3 < (q3 : Int) := by omega
                      have hg3 : 0 ≤ (q : Int) + 3 := by omega
                      have hw4 : IntKind.i64.wrap ((q : Int) + 4) = (q : Int) + 4 := IntWalk.i64_in _ (by omega)
                      have ht4 : ((q : Int) + 4).toNat = q + 4 := by omega
                      have hb4 : (q : Int) + 4 < (q3 : Int) := by omega
                      have hg4 : 0 ≤ (q : Int) + 4 := by omega
                      have hwi : IntKind.i64.wrap ((q : Int) + 5) = (q : Int) + 5 := IntWalk.i64_in _ (by omega)
                      obtain ⟨gs, rfl, hgs1, hgs2, hcs⟩ := ff3.spotN (by omega)
                      have e0 := (World.cell?_of_block (a := ⟨gs, q, none⟩) (hK2 gs (by omega) (by omega))).trans (hcs q (by omega))
                      have e1 := (World.cell?_of_block (a := ⟨gs, q + 1, none⟩) (hK2 gs (by omega) (by omega))).trans (hcs (q + 1) (by omega))
                      have e2 := (World.cell?_of_block (a := ⟨gs, q + 2, none⟩) (hK2 gs (by omega) (by omega))).trans (hcs (q + 2) (by omega))
                      have e3 := (World.cell?_of_block (a := ⟨gs, q + 3, none⟩) (hK2 gs (by omega) (by omega))).trans (hcs (q + 3) (by omega))
                      have e4 := (World.cell?_of_block (a := ⟨gs, q + 4, none⟩) (hK2 gs (by omega) (by omega))).trans (hcs (q + 4) (by omega))
                      have hsn := take_snoc (Hca3.out i hlt)
                      rw [← hq.out] at hsn
                      generalize F3.getD q 0 = x0 at *
                      generalize F3.getD (q + 1) 0 = x1 at *
                      generalize F3.getD (q + 2) 0 = x2 at *
                      generalize F3.getD (q + 3) 0 = x3 at *
                      generalize F3.getD (q + 4) 0 = x4 at *
                      clear hcs
                      have hlp := pr.lt
                      have hml : i + 1 ≤ maxLen := by unfold maxLen; have := hqm.out; omega
                      have hbl : (i + 1) * 40 ≤ 140737488355328 := by have := hqm.out; omega
                      obtain ⟨pr_p0, pr_f0⟩ := pr.at 0 _ rfl
                      obtain ⟨pr_p1, pr_f1⟩ := pr.at 1 _ rfl
                      obtain ⟨pr_p2, pr_f2⟩ := pr.at 2 _ rfl
                      obtain ⟨pr_p3, pr_f3⟩ := pr.at 3 _ rfl
                      go_upto_region 25 with (fail)
                      refine region_anyY (X := [31]) (S := (fun w' => w'.cell? ⟨w1.heap.size, 3, none⟩ = some (.slice AE i cE) ∧ w'.cell? ⟨gs, q, none⟩ = some (.int .i64 x0) ∧ w'.cell? ⟨gs, q + 1, none⟩ = some (.int .i64 x1) ∧ w'.cell? ⟨gs, q + 2, none⟩ = some (.int .i64 x2) ∧ w'.cell? ⟨gs, q + 3, none⟩ = some (.int .i64 x3) ∧ w'.cell? ⟨gs, q + 4, none⟩ = some (.int .i64 x4))) (by kernel_rfl) ⟨pr_p3, e0, e1, e2, e3, e4⟩ (fun hHeld => ?_)
                      refine anyY_take (i := 0) (v := ?_) rfl (by kernel_rfl) (by kernel_rfl) (by kernel_rfl) (by kernel_rfl) (fun _ _ _ h => h) (Or.inl ⟨by rfl, ?_⟩) (by assumption) ?_
                      rotate_left
                      · (intro w hSw; (try dsimp only at hSw); go_simp; (try with_reducible rfl))
                      try simp only [Act.put, List.getElem_toArray, List.getElem_cons_zero, List.getElem_cons_succ, List.setIfInBounds_toArray, List.set_cons_zero, List.set_cons_succ]
                      refine anyY_take (i := 1) (v := ?_) rfl (by kernel_rfl) (by kernel_rfl) (by kernel_rfl) (by kernel_rfl) (fun _ _ _ h => h) (Or.inl ⟨by rfl, ?_⟩) (by assumption) ?_
                      rotate_left
                      · (intro w hSw; (try dsimp only at hSw); go_simp; (try with_reducible rfl))
                      try simp only [Act.put, List.getElem_toArray, List.getElem_cons_zero, List.getElem_cons_succ, List.setIfInBounds_toArray, List.set_cons_zero, List.set_cons_succ]
                      refine anyY_take (i := 2) (v := ?_) rfl (by kernel_rfl) (by kernel_rfl) (by kernel_rfl) (by kernel_rfl) (fun _ _ _ h => h) (Or.inl ⟨by rfl, ?_⟩) (by assumption) ?_
                      rotate_left
                      · (intro w hSw; (try dsimp only at hSw); go_simp; (try with_reducible rfl))
                      try simp only [Act.put, List.getElem_toArray, List.getElem_cons_zero, List.getElem_cons_succ, List.setIfInBounds_toArray, List.set_cons_zero, List.set_cons_succ]
                      refine anyY_take (i := 3) (v := ?_) rfl (by kernel_rfl) (by kernel_rfl) (by kernel_rfl) (by kernel_rfl) (fun _ _ _ h => h) (Or.inl ⟨by rfl, ?_⟩) (by assumption) ?_
                      rotate_left
                      · (intro w hSw; (try dsimp only at hSw); go_simp; (try with_reducible rfl))
                      try simp only [Act.put, List.getElem_toArray, List.getElem_cons_zero, List.getElem_cons_succ, List.setIfInBounds_toArray, List.set_cons_zero, List.set_cons_succ]
                      refine anyY_take (i := 4) (v := ?_) rfl (by kernel_rfl) (by kernel_rfl) (by kernel_rfl) (by kernel_rfl) (fun _ _ _ h => h) (Or.inl ⟨by rfl, ?_⟩) (by assumption) ?_
                      rotate_left
                      · (intro w hSw; (try dsimp only at hSw); go_simp; (try with_reducible rfl))
                      try simp only [Act.put, List.getElem_toArray, List.getElem_cons_zero, List.getElem_cons_succ, List.setIfInBounds_toArray, List.set_cons_zero, List.set_cons_succ]
                      refine anyY_take (i := 5) (v := ?_) rfl (by kernel_rfl) (by kernel_rfl) (by kernel_rfl) (by kernel_rfl) (fun _ _ _ h => h) (Or.inl ⟨by rfl, ?_⟩) (by assumption) ?_
                      rotate_left
                      · (intro w hSw; (try dsimp only at hSw); go_simp; (try with_reducible rfl))
                      try simp only [Act.put, List.getElem_toArray, List.getElem_cons_zero, List.getElem_cons_succ, List.setIfInBounds_toArray, List.set_cons_zero, List.set_cons_succ]
                      refine anyY_take (i := 6) (v := ?_) rfl (by kernel_rfl) (by kernel_rfl) (by kernel_rfl) (by kernel_rfl) (fun _ _ _ h => h) (Or.inl ⟨by rfl, ?_⟩) (by assumption) ?_
                      rotate_left
                      · (intro w hSw; (try dsimp only at hSw); go_simp; (try with_reducible rfl))
                      try simp only [Act.put, List.getElem_toArray, List.getElem_cons_zero, List.getElem_cons_succ, List.setIfInBounds_toArray, List.set_cons_zero, List.set_cons_succ]
                      refine anyY_take (i := 7) (v := ?_) rfl (by kernel_rfl) (by kernel_rfl) (by kernel_rfl) (by kernel_rfl) (fun _ _ _ h => h) (Or.inl ⟨by rfl, ?_⟩) (by assumption) ?_
                      rotate_left
                      · (intro w hSw; (try dsimp only at hSw); go_simp; (try with_reducible rfl))
                      try simp only [Act.put, List.getElem_toArray, List.getElem_cons_zero, List.getElem_cons_succ, List.setIfInBounds_toArray, List.set_cons_zero, List.set_cons_succ]
                      refine anyY_take (i := 8) (v := ?_) rfl (by kernel_rfl) (by kernel_rfl) (by kernel_rfl) (by kernel_rfl) (fun _ _ _ h => h) (Or.inl ⟨by rfl, ?_⟩) (by assumption) ?_
                      rotate_left
                      · (intro w hSw; (try dsimp only at hSw); go_simp; (try with_reducible rfl))
                      try simp only [Act.put, List.getElem_toArray, List.getElem_cons_zero, List.getElem_cons_succ, List.setIfInBounds_toArray, List.set_cons_zero, List.set_cons_succ]
                      refine anyY_take (i := 9) (v := ?_) rfl (by kernel_rfl) (by kernel_rfl) (by kernel_rfl) (by kernel_rfl) (fun _ _ _ h => h) (Or.inl ⟨by rfl, ?_⟩) (by assumption) ?_
                      rotate_left
                      · (intro w hSw; (try dsimp only at hSw); go_simp; (try with_reducible rfl))
                      try simp only [Act.put, List.getElem_toArray, List.getElem_cons_zero, List.getElem_cons_succ, List.setIfInBounds_toArray, List.set_cons_zero, List.set_cons_succ]
                      refine anyY_take (i := 10) (v := ?_) rfl (by kernel_rfl) (by kernel_rfl) (by kernel_rfl) (by kernel_rfl) (fun _ _ _ h => h) (Or.inl ⟨by rfl, ?_⟩) (by assumption) ?_
                      rotate_left
                      · (intro w hSw; (try dsimp only at hSw); go_simp; (try with_reducible rfl))
                      try simp only [Act.put, List.getElem_toArray, List.getElem_cons_zero, List.getElem_cons_succ, List.setIfInBounds_toArray, List.set_cons_zero, List.set_cons_succ]
                      refine anyY_take (i := 11) (v := ?_) rfl (by kernel_rfl) (by kernel_rfl) (by kernel_rfl) (by kernel_rfl) (fun _ _ _ h => h) (Or.inl ⟨by rfl, ?_⟩) (by assumption) ?_
                      rotate_left
                      · (intro w hSw; (try dsimp only at hSw); go_simp; (try with_reducible rfl))
                      try simp only [Act.put, List.getElem_toArray, List.getElem_cons_zero, List.getElem_cons_succ, List.setIfInBounds_toArray, List.set_cons_zero, List.set_cons_succ]
                      refine anyY_take (i := 12) (v := ?_) rfl (by kernel_rfl) (by kernel_rfl) (by kernel_rfl) (by kernel_rfl) (fun _ _ _ h => h) (Or.inl ⟨by rfl, ?_⟩) (by assumption) ?_
                      rotate_left
                      · (intro w hSw; (try dsimp only at hSw); go_simp; (try with_reducible rfl))
                      try simp only [Act.put, List.getElem_toArray, List.getElem_cons_zero, List.getElem_cons_succ, List.setIfInBounds_toArray, List.set_cons_zero, List.set_cons_succ]
                      refine anyY_take (i := 13) (v := ?_) rfl (by kernel_rfl) (by kernel_rfl) (by kernel_rfl) (by kernel_rfl) (fun _ _ _ h => h) (Or.inl ⟨by rfl, ?_⟩) (by assumption) ?_
                      rotate_left
                      · (intro w hSw; (try dsimp only at hSw); go_simp; (try with_reducible rfl))
                      try simp only [Act.put, List.getElem_toArray, List.getElem_cons_zero, List.getElem_cons_succ, List.setIfInBounds_toArray, List.set_cons_zero, List.set_cons_succ]
                      refine anyY_take (i := 14) (v := ?_) rfl (by kernel_rfl) (by kernel_rfl) (by kernel_rfl) (by kernel_rfl) (fun _ _ _ h => h) (Or.inl ⟨by rfl, ?_⟩) (by assumption) ?_
                      rotate_left
                      · (intro w hSw; (try dsimp only at hSw); go_simp; (try with_reducible rfl))
                      try simp only [Act.put, List.getElem_toArray, List.getElem_cons_zero, List.getElem_cons_succ, List.setIfInBounds_toArray, List.set_cons_zero, List.set_cons_succ]
                      refine anyY_take (i := 15) (v := ?_) rfl (by kernel_rfl) (by kernel_rfl) (by kernel_rfl) (by kernel_rfl) (fun _ _ _ h => h) (Or.inl ⟨by rfl, ?_⟩) (by assumption) ?_
                      rotate_left
                      · (intro w hSw; (try dsimp only at hSw); go_simp; (try with_reducible rfl))
                      try simp only [Act.put, List.getElem_toArray, List.getElem_cons_zero, List.getElem_cons_succ, List.setIfInBounds_toArray, List.set_cons_zero, List.set_cons_succ]
                      refine anyY_take (i := 16) (v := ?_) rfl (by kernel_rfl) (by kernel_rfl) (by kernel_rfl) (by kernel_rfl) (fun _ _ _ h => h) (Or.inl ⟨by rfl, ?_⟩) (by assumption) ?_
                      rotate_left
                      · (intro w hSw; (try dsimp only at hSw); go_simp; (try with_reducible rfl))
                      try simp only [Act.put, List.getElem_toArray, List.getElem_cons_zero, List.getElem_cons_succ, List.setIfInBounds_toArray, List.set_cons_zero, List.set_cons_succ]
                      refine anyY_take (i := 17) (v := ?_) rfl (by kernel_rfl) (by kernel_rfl) (by kernel_rfl) (by kernel_rfl) (fun _ _ _ h => h) (Or.inl ⟨by rfl, ?_⟩) (by assumption) ?_
                      rotate_left
                      · (intro w hSw; (try dsimp only at hSw); go_simp; (try with_reducible rfl))
                      try simp only [Act.put, List.getElem_toArray, List.getElem_cons_zero, List.getElem_cons_succ, List.setIfInBounds_toArray, List.set_cons_zero, List.set_cons_succ]
                      refine anyY_take (i := 18) (v := ?_) rfl (by kernel_rfl) (by kernel_rfl) (by kernel_rfl) (by kernel_rfl) (fun _ _ _ h => h) (Or.inl ⟨by rfl, ?_⟩) (by assumption) ?_
                      rotate_left
                      · (intro w hSw; (try dsimp only at hSw); go_simp; (try with_reducible rfl))
                      try simp only [Act.put, List.getElem_toArray, List.getElem_cons_zero, List.getElem_cons_succ, List.setIfInBounds_toArray, List.set_cons_zero, List.set_cons_succ]
                      refine anyY_take (i := 19) (v := ?_) rfl (by kernel_rfl) (by kernel_rfl) (by kernel_rfl) (by kernel_rfl) (fun _ _ _ h => h) (Or.inl ⟨by rfl, ?_⟩) (by assumption) ?_
                      rotate_left
                      · (intro w hSw; (try dsimp only at hSw); go_simp; (try with_reducible rfl))
                      try simp only [Act.put, List.getElem_toArray, List.getElem_cons_zero, List.getElem_cons_succ, List.setIfInBounds_toArray, List.set_cons_zero, List.set_cons_succ]
                      refine anyY_take (i := 20) (v := ?_) rfl (by kernel_rfl) (by kernel_rfl) (by kernel_rfl) (by kernel_rfl) (fun _ _ _ h => h) (Or.inl ⟨by rfl, ?_⟩) (by assumption) ?_
                      rotate_left
                      · (intro w hSw; (try dsimp only at hSw); go_simp; (try with_reducible rfl))
                      try simp only [Act.put, List.getElem_toArray, List.getElem_cons_zero, List.getElem_cons_succ, List.setIfInBounds_toArray, List.set_cons_zero, List.set_cons_succ]
                      refine anyY_take (i := 21) (v := ?_) rfl (by kernel_rfl) (by kernel_rfl) (by kernel_rfl) (by kernel_rfl) (fun _ _ _ h => h) (Or.inl ⟨by rfl, ?_⟩) (by assumption) ?_
                      rotate_left
                      · (intro w hSw; (try dsimp only at hSw); go_simp; (try with_reducible rfl))
                      try simp only [Act.put, List.getElem_toArray, List.getElem_cons_zero, List.getElem_cons_succ, List.setIfInBounds_toArray, List.set_cons_zero, List.set_cons_succ]
                      refine anyY_take (i := 22) (v := ?_) rfl (by kernel_rfl) (by kernel_rfl) (by kernel_rfl) (by kernel_rfl) (fun _ _ _ h => h) (Or.inl ⟨by rfl, ?_⟩) (by assumption) ?_
                      rotate_left
                      · (intro w hSw; (try dsimp only at hSw); go_simp; (try with_reducible rfl))
                      try simp only [Act.put, List.getElem_toArray, List.getElem_cons_zero, List.getElem_cons_succ, List.setIfInBounds_toArray, List.set_cons_zero, List.set_cons_succ]
                      refine anyY_take (i := 23) (v := ?_) rfl (by kernel_rfl) (by kernel_rfl) (by kernel_rfl) (by kernel_rfl) (fun _ _ _ h => h) (Or.inl ⟨by rfl, ?_⟩) (by assumption) ?_
                      rotate_left
                      · (intro w hSw; (try dsimp only at hSw); go_simp; (try with_reducible rfl))
                      try simp only [Act.put, List.getElem_toArray, List.getElem_cons_zero, List.getElem_cons_succ, List.setIfInBounds_toArray, List.set_cons_zero, List.set_cons_succ]
                      refine anyY_take (i := 24) (v := ?_) rfl (by kernel_rfl) (by kernel_rfl) (by kernel_rfl) (by kernel_rfl) (fun _ _ _ h => h) (Or.inl ⟨by rfl, ?_⟩) (by assumption) ?_
                      rotate_left
                      · (intro w hSw; (try dsimp only at hSw); go_simp; (try with_reducible rfl))
                      try simp only [Act.put, List.getElem_toArray, List.getElem_cons_zero, List.getElem_cons_succ, List.setIfInBounds_toArray, List.set_cons_zero, List.set_cons_succ]
                      refine anyY_take (i := 25) (v := ?_) rfl (by kernel_rfl) (by kernel_rfl) (by kernel_rfl) (by kernel_rfl) (fun _ _ _ h => h) (Or.inl ⟨by rfl, ?_⟩) (by assumption) ?_
                      rotate_left
                      · (intro w hSw; (try dsimp only at hSw); go_simp; (try with_reducible rfl))
                      try simp only [Act.put, List.getElem_toArray, List.getElem_cons_zero, List.getElem_cons_succ, List.setIfInBounds_toArray, List.set_cons_zero, List.set_cons_succ]
                      refine anyY_take (i := 26) (v := ?_) rfl (by kernel_rfl) (by kernel_rfl) (by kernel_rfl) (by kernel_rfl) (fun _ _ _ h => h) (Or.inl ⟨by rfl, ?_⟩) (by assumption) ?_
                      rotate_left
                      · (intro w hSw; (try dsimp only at hSw); go_simp; (try with_reducible rfl))
                      try simp only [Act.put, List.getElem_toArray, List.getElem_cons_zero, List.getElem_cons_succ, List.setIfInBounds_toArray, List.set_cons_zero, List.set_cons_succ]
                      refine anyY_take (i := 27) (v := ?_) rfl (by kernel_rfl) (by kernel_rfl) (by kernel_rfl) (by kernel_rfl) (fun _ _ _ h => h) (Or.inl ⟨by rfl, ?_⟩) (by assumption) ?_
                      rotate_left
                      · (intro w hSw; (try dsimp only at hSw); go_simp; (try with_reducible rfl))
                      try simp only [Act.put, List.getElem_toArray, List.getElem_cons_zero, List.getElem_cons_succ, List.setIfInBounds_toArray, List.set_cons_zero, List.set_cons_succ]
                      refine anyY_one (i := 28) (by kernel_rfl) rfl (fun K hK => ?_)
                      go_simp
                      (try dsimp only)
                      refine hK.out _ _ ⟨Ext.cellAt ((Ext.refl _).alloc _) pr_p3, Ext.cellAt ((Ext.refl _).alloc _) e0, Ext.cellAt ((Ext.refl _).alloc _) e1, Ext.cellAt ((Ext.refl _).alloc _) e2, Ext.cellAt ((Ext.refl _).alloc _) e3, Ext.cellAt ((Ext.refl _).alloc _) e4⟩ (fun hHeld => ?_)
                      clear hK K
                      try simp only [Act.put, List.getElem_toArray, List.getElem_cons_zero, List.getElem_cons_succ, List.setIfInBounds_toArray, List.set_cons_zero, List.set_cons_succ]
                      have hV : Ext wr (wr.alloc (.cells #[.int .i64 x0, .int .i64 x1, .int .i64 x2, .int .i64 x3, .int .i64 x4] 90)).drew := ((Ext.refl wr).alloc _).drew
                      have hrx := rd_new wr [.int .i64 x0, .int .i64 x1, .int .i64 x2, .int .i64 x3, .int .i64 x4] 90 5 rfl
                      have owV := hV.own own (Nat.le_refl _)
                      have hzV : wr.heap.size + 1 = (wr.alloc (.cells #[.int .i64 x0, .int .i64 x1, .int .i64 x2, .int .i64 x3, .int .i64 x4] 90)).drew.heap.size := by simp
                      refine anyY_one (i := 29) (by kernel_rfl) rfl (fun K hK => ?_)
                      refine step_app1 (d := .tmp 121) (s := .tmp 148) ?_ ?_ 90 k0 _ 5 40 Try.underlying40 hk0 hx0 hx1 hx2 rfl hp5 wS.heap.size wr.heap.size (.slice AE i cE) i (((chunkE F3).take i).flatMap eEntry) ?_ owV (by omega) (by omega) (wr.heap.size + 1) (some ⟨wr.heap.size, 0, none⟩) 1 1 (eEntry (⟨x0, x1, ⟨x2, x3, x4⟩⟩ : EntryD)) ?_ (by exact hrx) (fun u hu => oneCell_Entry [(⟨x0, x1, ⟨x2, x3, x4⟩⟩ : EntryD)] u (by simpa using hu)) hml hbl ?_
                      rfl
                      rfl
                      (focus (simp [Act.eval]; done))
                      (focus (simp [Act.eval]; done))
                      intro A6 c6 w6 o6 hg6
                      have hF6 : Fr _ _ _ w6 := Fr.of_grown hg6 (fun g h => owV.lt g h)
                      have hz6 := hF6.size
                      (clear pr_p0 pr_f0 pr_p1 pr_f1 pr_p2 pr_f2 pr_p3 pr_f3)
                      replace pr := (pr.ext hV).fr hF6 (.inl (by omega))
                      obtain ⟨pr_p0, pr_f0⟩ := pr.at 0 _ rfl
                      obtain ⟨pr_p1, pr_f1⟩ := pr.at 1 _ rfl
                      obtain ⟨pr_p2, pr_f2⟩ := pr.at 2 _ rfl
                      obtain ⟨pr_p3, pr_f3⟩ := pr.at 3 _ rfl
                      replace e0 := hF6.cellAt (hV.cellAt e0) (.inl (by omega))
                      replace e1 := hF6.cellAt (hV.cellAt e1) (.inl (by omega))
                      replace e2 := hF6.cellAt (hV.cellAt e2) (.inl (by omega))
                      replace e3 := hF6.cellAt (hV.cellAt e3) (.inl (by omega))
                      replace e4 := hF6.cellAt (hV.cellAt e4) (.inl (by omega))
                      (try dsimp only)
                      refine hK.out _ _ ⟨pr_p3, e0, e1, e2, e3, e4⟩ (fun hHeld => ?_)
                      clear hK K
                      try simp only [Act.put, List.getElem_toArray, List.getElem_cons_zero, List.getElem_cons_succ, List.setIfInBounds_toArray, List.set_cons_zero, List.set_cons_succ]
                      refine anyY_take (i := 30) (v := ?_) rfl (by kernel_rfl) (by kernel_rfl) (by kernel_rfl) (by kernel_rfl) (fun _ _ _ h => h) (Or.inl ⟨by rfl, ?_⟩) (by assumption) ?_
                      rotate_left
                      · (intro w hSw; (try dsimp only at hSw); go_simp; (try with_reducible rfl))
                      try simp only [Act.put, List.getElem_toArray, List.getElem_cons_zero, List.getElem_cons_succ, List.setIfInBounds_toArray, List.set_cons_zero, List.set_cons_succ]
                      refine anyY_last (x := 31) (by kernel_rfl) (by kernel_rfl) rfl (fun K hK => ?_)
                      go_simp
                      (try dsimp only)
                      refine hK.out _ _ ?_
                      clear hK K
                      try simp only [Act.put, List.getElem_toArray, List.getElem_cons_zero, List.getElem_cons_succ, List.setIfInBounds_toArray, List.set_cons_zero, List.set_cons_succ]
                      refine anyY_done (by kernel_rfl) ?_ _
                      clear hHeld pr_p0 pr_f0 pr_p1 pr_f1 pr_p2 pr_f2 pr_p3 pr_f3 e0 e1 e2 e3 e4
                      have hK1n : Kp 0 (w1.heap.size) wS (w6.setCell ⟨w1.heap.size, 3, none⟩ (.slice A6 (i + 1) c6)) := ((hK1.ext (by omega) hV).fr (by omega) (.inl (by omega)) hF6).set (.inr (by omega)) _ _
                      have hK2n : Kp (w1.heap.size + 1) wS.heap.size wS (w6.setCell ⟨w1.heap.size, 3, none⟩ (.slice A6 (i + 1) c6)) := ((hK2.ext (by omega) hV).fr (by omega) (.inl (by omega)) hF6).set (.inl (by omega)) _ _
                      have hXn : Ext w (w6.setCell ⟨w1.heap.size, 3, none⟩ (.slice A6 (i + 1) c6)) := ((hXr.trans hV).fr hF6 (by omega)).set (by omega) _ _
                      have o7 : Own (w6.setCell ⟨w1.heap.size, 3, none⟩ (.slice A6 (i + 1) c6)) wS.heap.size w6.heap.size 90 5 (.slice A6 (i + 1) c6) (i + 1) (((chunkE F3).take (i + 1)).flatMap eEntry) := by
                        rw [hsn, List.flatMap_append, List.flatMap_cons, List.flatMap_nil, List.append_nil]
                        exact o6.dodge pr.row (by decide) 3 _
                      have pn := pr.set 3 (.slice A6 (i + 1) c6)
                      have hzn1 : w6.heap.size ≤ (w6.setCell ⟨w1.heap.size, 3, none⟩ (.slice A6 (i + 1) c6)).heap.size := by simp
                      have hqn : Hid (q + 5 = 5 * (i + 1)) := by show _ = _; have := hq.out; omega
                      clear o6 hg6 hF6 hV hrx owV own pr hK1 hK2 hXr hsn
                      go_wp2
                      go_roundw
                      case rel => exact ⟨i + 1, q + 5, A6, c6, by omega, hqn, by go_num, hK1n, hK2n, by omega, hXn, pn, o7.wide (Nat.le_refl _) hzn1⟩
                      case measure => simp [intOf]; omega
                    · obtain rfl : m3 = i := by omega
                      obtain rfl : q = q3 := by have h1 := hqm.out; have h2 := hq.out; omega
                      have hwi : IntKind.i64.wrap ((q : Int) + 4) = (q : Int) + 4 := IntWalk.i64_in _ (by have h1 := hqm.out; omega)
                      have hbi : decide ((q : Int) + 4 < (q : Int)) = false := by simp; omega
                      have own2 : O_EntryS wr wS.heap.size wr.heap.size (.slice AE m3 cE) (chunkE F3) := OwnS.of (by rw [List.take_of_length_le (by rw [Hcl3.out]; exact Nat.le_refl _)] at own; exact own) Hcl3.out
                      replace z := z.kp hK1 (by omega) (by omega)
                      clear hX p
                      have hX := hXr
                      have p := pr
                      have oE := own2
                      replace oC := oC.keep (hK2.sub (by omega) (by omega))
                      replace oS := oS.keep (hK2.sub (by omega) (by omega))
                      clear own own2 hK1 hK2 hXr pr hlt hq hqm
                      rename World => wE
                      have hze : wS.heap.size ≤ wE.heap.size := hzr
                      clear hzr
                      have hf0 : Hid (res = if logOk ⟨(base : Int), ⟨chunkC F1, chunkS F2⟩, chunkE F3⟩ then (⟨(base : Int), ⟨chunkC F1, chunkS F2⟩, chunkE F3⟩, e3_, true) else (zeroL, 0, false)) := by
                        show _ = _
                        have h := Hres.out
                        simp only [Hg0.out, Hr1.out, Hr2.out, Hr3.out] at h
                        exact h.symm
                      have oL : O_Log wE (w1.heap.size + 1) wE.heap.size (.agg #[.int .i64 (base : Int), .slice AC m1 cC, .slice AS m2 cS, .slice AE m3 cE]) ⟨(base : Int), ⟨chunkC F1, chunkS F2⟩, chunkE F3⟩ := ⟨_, _, _, rfl, O_CellS.wide oC (by omega) (by omega), O_SeatS.wide oS (by omega) (by omega), O_EntryS.wide oE (by omega) (Nat.le_refl _)⟩
                      clear oC oS oE
                      generalize (⟨(base : Int), ⟨chunkC F1, chunkS F2⟩, chunkE F3⟩ : LogD) = F at *
                      obtain ⟨ok, hok⟩ : ∃ ok, logOk F = ok := ⟨_, rfl⟩
                      obtain ⟨z_p0, z_f0⟩ := z.at 0 _ rfl
                      obtain ⟨z_p1, z_f1⟩ := z.at 1 _ rfl
                      obtain ⟨z_p2, z_f2⟩ := z.at 2 _ rfl
                      obtain ⟨z_p3, z_f3⟩ := z.at 3 _ rfl
                      obtain ⟨p_p0, p_f0⟩ := p.at 0 _ rfl
                      obtain ⟨p_p1, p_f1⟩ := p.at 1 _ rfl
                      obtain ⟨p_p2, p_f2⟩ := p.at 2 _ rfl
                      obtain ⟨p_p3, p_f3⟩ := p.at 3 _ rfl
                      go_wp2_with fail
                      refine (logOk_s _ F _ wE.heap.size (by exact oL.rd) (Nat.le_refl _)).mono ?_
                      rw [hok]
                      rintro e w9 ⟨rfl, hE9⟩
                      clear z_p0 z_f0 z_p1 z_f1 z_p2 z_f2 z_p3 z_f3 p_p0 p_f0 p_p1 p_f1 p_p2 p_f2 p_p3 p_f3
                      replace z := z.ext hE9
                      replace p := p.ext hE9
                      obtain ⟨z_p0, z_f0⟩ := z.at 0 _ rfl
                      obtain ⟨z_p1, z_f1⟩ := z.at 1 _ rfl
                      obtain ⟨z_p2, z_f2⟩ := z.at 2 _ rfl
                      obtain ⟨z_p3, z_f3⟩ := z.at 3 _ rfl
                      obtain ⟨p_p0, p_f0⟩ := p.at 0 _ rfl
                      obtain ⟨p_p1, p_f1⟩ := p.at 1 _ rfl
                      obtain ⟨p_p2, p_f2⟩ := p.at 2 _ rfl
                      obtain ⟨p_p3, p_f3⟩ := p.at 3 _ rfl
                      have hz9 := hE9.size
                      replace oL := oL.keep (keepE hE9 (Nat.le_refl _))
                      replace hX := hX.trans hE9
                      clear hE9
                      cases ok with
                      | false =>
                        have hf : Hid (res = (zeroL, 0, false)) := by show _ = _; rw [hf0.out, if_neg (by rw [hok]; simp)]
                        clear hf0 hok
                        go_wp2
                        rw [hf.out]
                        exact bodyPost_ret (v := .tuple #[.agg #[.int .i64 0, .slice none 0 0, .slice none 0 0, .slice none 0 0], .int .i64 0, .bool false]) (by simp [results, Try.results29, go_sem, z_p0, z_p1, z_p2, z_p3]) rfl ⟨_, rfl, ⟨_, _, _, rfl, OwnS.nil _, OwnS.nil _, OwnS.nil _⟩, by repeat' (first | with_reducible exact Ext.refl _ | with_reducible assumption | with_reducible refine Ext.set ?_ ?_ _ _ | with_reducible refine Ext.alloc ?_ _ | with_reducible refine Ext.drew ?_ | with_reducible refine Ext.drewN ?_ _ | with_reducible refine Ext.trans ?_ (by with_reducible assumption) | omega | (simp; done) | (simp; omega))⟩
                      | true =>
                        have hf : Hid (res = (F, e3_, true)) := by show _ = _; rw [hf0.out, if_pos hok]
                        clear hf0 hok
                        have hlz9 := z.lt
                        have hbz := z.bt
                        go_wp2
                        rw [hf.out]
                        exact bodyPost_ret (v := .tuple #[.agg #[.int .i64 (base : Int), .slice AC m1 cC, .slice AS m2 cS, .slice AE m3 cE], .int .i64 e3_, .bool true]) (by simp [results, Try.results29, go_sem, z_p0, z_p1, z_p2, z_p3]) rfl ⟨_, rfl, O_Log.wide (O_Log.dodge4 oL hbz _ _ _ _) (by omega) (by first | (simp; omega) | (simp; done)), by repeat' (first | with_reducible exact Ext.refl _ | with_reducible assumption | with_reducible refine Ext.set ?_ ?_ _ _ | with_reducible refine Ext.alloc ?_ _ | with_reducible refine Ext.drew ?_ | with_reducible refine Ext.drewN ?_ _ | with_reducible refine Ext.trans ?_ (by with_reducible assumption) | omega | (simp; done) | (simp; omega))⟩

end Go.Proofs.Ytbfbdhjeoknjkaa
