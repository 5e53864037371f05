/-
  CellAt, SeatOf, valueOf, cellFor, seatFor, the program's and the reference's, walked.
-/
import Derived.Test.YtbfbdhjeoknjkaaFind
import Derived.Test.YtbfbdhjeoknjkaaImageOkI
import Derived.Test.YtbfbdhjeoknjkaaImageOkS
namespace Go.Proofs.Ytbfbdhjeoknjkaa
open Go.RowKit

/-! ### right images, in words of keys -/

theorem inB_iff {x a b : Int} : inB x a b = true ↔ a ≤ x ∧ x ≤ b := by simp [inB]
theorem asc_of {α : Type} {key : α → Int} {l : List α} (h : ∀ i x y, l[i]? = some x → l[i + 1]? = some y → key x < key y) : (l.map key).Pairwise (· < ·) := by
  rw [List.pairwise_iff_getElem]
  have : ∀ d i (h1 : i < l.length) (h2 : i + d + 1 < l.length), key l[i] < key l[i + d + 1] := by
    intro d
    induction d with
    | zero => exact fun i h1 h2 => h i _ _ (List.getElem?_eq_getElem h1) (List.getElem?_eq_getElem h2)
    | succ d ih =>
      intro i h1 h2
      have h3 := ih i h1 (by omega)
      have h4 := h (i + d + 1) _ _ (List.getElem?_eq_getElem (by omega)) (List.getElem?_eq_getElem h2)
      have e : i + (d + 1) + 1 = i + d + 1 + 1 := by omega
      exact Int.lt_trans h3 (by simpa [e] using h4)
  intro i j h1 h2 hij
  rw [List.length_map] at h1 h2
  have := this (j - i - 1) i h1 (by omega)
  have e : i + (j - i - 1) + 1 = j := by omega
  simp only [e] at this
  simpa using this

structure GoodC (l : List CellD) : Prop where
  asc : Asc (l.map (·.key))
  val : ∀ c ∈ l, 0 ≤ c.value ∧ c.value ≤ 1000000000
structure GoodS (l : List SeatD) : Prop where
  asc : Asc (l.map (·.client))
  val : ∀ c ∈ l, (1 ≤ c.req ∧ c.req ≤ 1000000000) ∧ -1 ≤ c.answer ∧ c.answer ≤ 1000000000

theorem cellsOk_iff {l : List CellD} : cellsOk l = true ↔ GoodC l := by
  constructor
  · intro h
    have h1 : ∀ i x, l[i]? = some x → cellOkAt l i = true := fun i x hx => List.all_eq_true.1 h i (List.mem_range.2 (List.getElem?_eq_some_iff.1 hx).1)
    have h2 : ∀ x ∈ l, (0 ≤ x.key ∧ x.key ≤ 1000000000) ∧ 0 ≤ x.value ∧ x.value ≤ 1000000000 := by
      intro x hx
      obtain ⟨i, hi⟩ := List.mem_iff_getElem?.1 hx
      have := h1 i x hi
      rw [cellOkAt_eq hi] at this
      simp only [Bool.and_eq_true] at this
      exact ⟨(wholeB_iff _).1 this.1, (wholeB_iff _).1 this.2.1⟩
    refine ⟨⟨asc_of fun i x y hx hy => ?_, fun k hk => ?_⟩, fun c hc => (h2 c hc).2⟩
    · have := h1 (i + 1) y hy
      rw [cellOkAt_eq hy] at this
      simp [List.getD_eq_getElem?_getD, hx] at this
      omega
    · obtain ⟨c, hc, rfl⟩ := List.mem_map.1 hk
      exact (h2 c hc).1
  · intro h
    refine List.all_eq_true.2 fun i hi => ?_
    obtain ⟨x, hx⟩ := some_of_lt (List.mem_range.1 hi)
    have hm := List.mem_of_getElem? hx
    have h1 := h.asc.2 x.key (List.mem_map.2 ⟨x, hm, rfl⟩)
    have h2 := h.val x hm
    rw [cellOkAt_eq hx, (wholeB_iff _).2 h1, (wholeB_iff _).2 h2]
    by_cases h0 : 0 < i
    · obtain ⟨y, hy⟩ := some_of_lt (l := l) (k := i - 1) (by have := List.mem_range.1 hi; omega)
      have := asc_lt h.asc.1 (i := i - 1) (j := i) (x := y.key) (y := x.key) (by rw [List.getElem?_map, hy]; rfl) (by rw [List.getElem?_map, hx]; rfl) (by omega)
      simp [List.getD_eq_getElem?_getD, hy]
      omega
    · simp [h0]
theorem seatsOk_iff {l : List SeatD} : seatsOk l = true ↔ GoodS l := by
  constructor
  · intro h
    have h1 : ∀ i x, l[i]? = some x → seatOkAt l i = true := fun i x hx => List.all_eq_true.1 h i (List.mem_range.2 (List.getElem?_eq_some_iff.1 hx).1)
    have h2 : ∀ x ∈ l, (0 ≤ x.client ∧ x.client ≤ 1000000000) ∧ (1 ≤ x.req ∧ x.req ≤ 1000000000) ∧ -1 ≤ x.answer ∧ x.answer ≤ 1000000000 := by
      intro x hx
      obtain ⟨i, hi⟩ := List.mem_iff_getElem?.1 hx
      have := h1 i x hi
      rw [seatOkAt_eq hi] at this
      simp only [Bool.and_eq_true] at this
      exact ⟨(wholeB_iff _).1 this.1, inB_iff.1 this.2.1, inB_iff.1 this.2.2.1⟩
    refine ⟨⟨asc_of fun i x y hx hy => ?_, fun k hk => ?_⟩, fun c hc => (h2 c hc).2⟩
    · have := h1 (i + 1) y hy
      rw [seatOkAt_eq hy] at this
      simp [List.getD_eq_getElem?_getD, hx] at this
      omega
    · obtain ⟨c, hc, rfl⟩ := List.mem_map.1 hk
      exact (h2 c hc).1
  · intro h
    refine List.all_eq_true.2 fun i hi => ?_
    obtain ⟨x, hx⟩ := some_of_lt (List.mem_range.1 hi)
    have hm := List.mem_of_getElem? hx
    have h1 := h.asc.2 x.client (List.mem_map.2 ⟨x, hm, rfl⟩)
    have h2 := h.val x hm
    rw [seatOkAt_eq hx, (wholeB_iff _).2 h1, inB_iff.2 h2.1, inB_iff.2 h2.2]
    by_cases h0 : 0 < i
    · obtain ⟨y, hy⟩ := some_of_lt (l := l) (k := i - 1) (by have := List.mem_range.1 hi; omega)
      have := asc_lt h.asc.1 (i := i - 1) (j := i) (x := y.client) (y := x.client) (by rw [List.getElem?_map, hy]; rfl) (by rw [List.getElem?_map, hx]; rfl) (by omega)
      simp [List.getD_eq_getElem?_getD, hy]
      omega
    · simp [h0]
structure GoodI (m : ImageD) : Prop where
  cells : GoodC m.cells
  seats : GoodS m.seats
  nc : m.cells.length ≤ 40
  ns : m.seats.length ≤ 10
theorem imageOk_iff {m : ImageD} : imageOk m = true ↔ GoodI m := by
  unfold imageOk
  simp only [Bool.and_eq_true, decide_eq_true_eq, cellsOk_iff, seatsOk_iff]
  exact ⟨fun ⟨a, b, c, d⟩ => ⟨a, b, c, d⟩, fun h => ⟨h.cells, h.seats, h.nc, h.ns⟩⟩

/-! ### what is looked for -/

def getC (l : List CellD) (k : Int) : Int := match findK CellD.key l k with | some c => c.value | none => -1
def getS (l : List SeatD) (k : Int) : SeatD × Bool := match findK SeatD.client l k with | some c => (c, true) | none => (⟨0, 0, 0⟩, false)
theorem getC_some {l : List CellD} {k : Int} {c : CellD} (h : findK CellD.key l k = some c) : getC l k = c.value := by simp only [getC, h]
theorem getC_none {l : List CellD} {k : Int} (h : findK CellD.key l k = none) : getC l k = -1 := by simp only [getC, h]
theorem getS_some {l : List SeatD} {k : Int} {c : SeatD} (h : findK SeatD.client l k = some c) : getS l k = (c, true) := by simp only [getS, h]
theorem getS_none {l : List SeatD} {k : Int} (h : findK SeatD.client l k = none) : getS l k = (⟨0, 0, 0⟩, false) := by simp only [getS, h]
def cellAt (m : ImageD) (k : Int) : Int := if imageOk m then getC m.cells k else -1
def seatOf (m : ImageD) (k : Int) : SeatD × Bool := if imageOk m then getS m.seats k else (⟨0, 0, 0⟩, false)
theorem cellAt_no {m : ImageD} {k : Int} (h : imageOk m = false) : cellAt m k = -1 := by simp [cellAt, h]
theorem cellAt_ok {m : ImageD} {k : Int} (h : imageOk m = true) : cellAt m k = getC m.cells k := by simp [cellAt, h]
theorem seatOf_no {m : ImageD} {k : Int} (h : imageOk m = false) : seatOf m k = (⟨0, 0, 0⟩, false) := by simp [seatOf, h]
theorem seatOf_ok {m : ImageD} {k : Int} (h : imageOk m = true) : seatOf m k = getS m.seats k := by simp [seatOf, h]
theorem GoodC.fits {l : List CellD} (h : GoodC l) : ∀ x ∈ l, -9223372036854775808 ≤ x.key ∧ x.key ≤ 9223372036854775807 := fun x hx => by
  have := h.asc.2 x.key (List.mem_map.2 ⟨x, hx, rfl⟩)
  omega
theorem GoodS.fits {l : List SeatD} (h : GoodS l) : ∀ x ∈ l, -9223372036854775808 ≤ x.client ∧ x.client ≤ 9223372036854775807 := fun x hx => by
  have := h.asc.2 x.client (List.mem_map.2 ⟨x, hx, rfl⟩)
  omega
/-- A list none of whose first k keys is the key, taken whole. -/
theorem findK_scan {α : Type} {key : α → Int} {l : List α} {k : Int} (h : ∀ (j : Nat) (x : α), l[j]? = some x → key x ≠ k) : findK key l k = none := findK_none (by
  intro hm
  obtain ⟨x, hx, e⟩ := List.mem_map.1 hm
  obtain ⟨j, hj⟩ := List.mem_iff_getElem?.1 hx
  exact h j x hj e)



set_option maxRecDepth 100000 in
set_option maxHeartbeats 1000000 in
theorem cellAt_s (v : Value) (m : ImageD) (k : Int) (w : World) (B : Nat) (hr : R_Image w B v m) (hB : B ≤ w.heap.size) (_ : -9223372036854775808 ≤ k ∧ k ≤ 9223372036854775807) :
    Calls Try.prog 144 #[v, .int .i64 k] w fun e w' => e = .returned (.int .i64 (cellAt m k)) ∧ Ext w w' := by
  have hr0 := hr
  obtain ⟨u, s, rfl, hu, hs⟩ := hr
  have hlen := hu.len
  obtain ⟨A0, n0, c0, rfl, hl, -, -, hrd⟩ := hu
  obtain ⟨A1, n1, c1, hw1, -⟩ := id hs
  subst hw1
  rw [hl] at hlen
  have Hl := Lib.hid hl
  clear hl
  obtain ⟨ok, hok⟩ : ∃ ok, imageOk m = ok := ⟨_, rfl⟩
  cases ok with
  | false =>
    have hres := Lib.hid (cellAt_no (k := k) hok)
    go_enter Try.func144, Try.ntmps144
    go_wp2_with fail
    refine (imageOk_s _ m _ B (by exact hr0.keep (keepE' (by repeat' (first | with_reducible exact Ext.refl _ | with_reducible assumption | with_reducible refine Ext.set ?_ ?_ _ _ | with_reducible refine Ext.alloc ?_ _ | with_reducible refine Ext.drew ?_ | with_reducible refine Ext.drewN ?_ _ | with_reducible refine Ext.trans ?_ (by with_reducible assumption) | omega | (simp; done) | (simp; omega))) hB)) (by simp; omega)).mono ?_
    rw [hok]
    rintro e w1 ⟨rfl, hE1⟩
    clear hok
    go_wp2
    go_ret
    exact ⟨ret_int hres.out.symm, by repeat' (first | with_reducible exact Ext.refl _ | with_reducible assumption | with_reducible refine Ext.set ?_ ?_ _ _ | with_reducible refine Ext.alloc ?_ _ | with_reducible refine Ext.drew ?_ | with_reducible refine Ext.drewN ?_ _ | with_reducible refine Ext.trans ?_ (by with_reducible assumption) | omega | (simp; done) | (simp; omega))⟩
  | true =>
    have hres := Lib.hid (cellAt_ok (k := k) hok)
    have hg := imageOk_iff.1 hok
    go_enter Try.func144, Try.ntmps144
    go_wp2_with fail
    refine (imageOk_s _ m _ B (by exact hr0.keep (keepE' (by repeat' (first | with_reducible exact Ext.refl _ | with_reducible assumption | with_reducible refine Ext.set ?_ ?_ _ _ | with_reducible refine Ext.alloc ?_ _ | with_reducible refine Ext.drew ?_ | with_reducible refine Ext.drewN ?_ _ | with_reducible refine Ext.trans ?_ (by with_reducible assumption) | omega | (simp; done) | (simp; omega))) hB)) (by simp; omega)).mono ?_
    rw [hok]
    rintro e w1 ⟨rfl, hE1⟩
    clear hok
    have q0 := hE1.cellAt (new_box w _ #[.slice A0 n0 c0, .slice A1 n1 c1] 39 0 _ rfl rfl)
    have hz := hE1.size
    simp only [World.size_alloc] at hz
    have Hg := Lib.hid hg
    have hext : Ext w w1 := by repeat' (first | with_reducible exact Ext.refl _ | with_reducible assumption | with_reducible refine Ext.set ?_ ?_ _ _ | with_reducible refine Ext.alloc ?_ _ | with_reducible refine Ext.drew ?_ | with_reducible refine Ext.drewN ?_ _ | with_reducible refine Ext.trans ?_ (by with_reducible assumption) | omega | (simp; done) | (simp; omega))
    clear hg hr0
    go_wp2
    go_loop [5] (fun iv => ∃ i : Nat, i ≤ n0 ∧ iv = .int .i64 i ∧ Hid (∀ j x, j < i → m.cells[j]? = some x → x.key ≠ k)) (fun iv => n0 - (intOf iv).toNat)
    case atStart => exact ⟨0, by omega, rfl, fun j x hj => absurd hj (by omega)⟩
    case round =>
      obtain ⟨i, hi, rfl, hno⟩ := hrel
      by_cases hlt : i < n0
      · obtain ⟨b, off, x, rfl, hb, hx1, hc0, hc1⟩ := (hext.rd hrd hB).Cell Hl.out hlt
        have Hx := Lib.hid hx1
        clear hx1
        by_cases he : x.key = k
        · have hfi := Lib.hid (getC_some (findK_at Hg.out.cells.asc.1 Hx.out he))
          have he1 : (x.key == k) = true := by simpa using he
          clear he
          go_wp2
          go_ret
          exact ⟨ret_int (by rw [hres.out, hfi.out]), by repeat' (first | with_reducible exact Ext.refl _ | with_reducible assumption | with_reducible refine Ext.set ?_ ?_ _ _ | with_reducible refine Ext.alloc ?_ _ | with_reducible refine Ext.drew ?_ | with_reducible refine Ext.drewN ?_ _ | with_reducible refine Ext.trans ?_ (by with_reducible assumption) | omega | (simp; done) | (simp; omega))⟩
        · have he1 : (x.key == k) = false := by simpa using he
          have He := Lib.hid he
          clear he
          go_wp2
          go_round
          case rel => exact ⟨i + 1, by omega, by go_num, fun j y hj hy => by
            rcases Nat.lt_or_ge j i with h | h
            · exact hno.out j y h hy
            · obtain rfl : j = i := by omega
              rw [Hx.out] at hy
              injection hy with hy
              rw [← hy]
              exact He.out⟩
          case measure => simp [intOf]; omega
      · obtain rfl : i = n0 := by omega
        have hfi := Lib.hid (getC_none (findK_scan (key := CellD.key) (l := m.cells) (k := k) (fun j x hx => hno.out j x (by rw [← Hl.out]; exact (List.getElem?_eq_some_iff.1 hx).1) hx)))
        go_wp2
        go_ret
        exact ⟨ret_int (by rw [hres.out, hfi.out]), by repeat' (first | with_reducible exact Ext.refl _ | with_reducible assumption | with_reducible refine Ext.set ?_ ?_ _ _ | with_reducible refine Ext.alloc ?_ _ | with_reducible refine Ext.drew ?_ | with_reducible refine Ext.drewN ?_ _ | with_reducible refine Ext.trans ?_ (by with_reducible assumption) | omega | (simp; done) | (simp; omega))⟩



set_option maxRecDepth 100000 in
set_option maxHeartbeats 1000000 in
theorem seatOf_s (v : Value) (m : ImageD) (k : Int) (w : World) (B : Nat) (hr : R_Image w B v m) (hB : B ≤ w.heap.size) (_ : -9223372036854775808 ≤ k ∧ k ≤ 9223372036854775807) :
    Calls Try.prog 141 #[v, .int .i64 k] w fun e w' => e = .returned (.tuple #[.agg #[.int .i64 (seatOf m k).1.client, .int .i64 (seatOf m k).1.req, .int .i64 (seatOf m k).1.answer], .bool (seatOf m k).2]) ∧ Ext w w' := by
  have hr0 := hr
  obtain ⟨u, s, rfl, hu, hs⟩ := hr
  have hlen := hs.len
  obtain ⟨A0, n0, c0, hw0, -⟩ := id hu
  obtain ⟨A1, n1, c1, hw1, hl, -, -, hrd⟩ := id hs
  subst hw0 hw1
  rw [hl] at hlen
  have Hl := Lib.hid hl
  clear hl
  obtain ⟨res, hres⟩ : ∃ res, seatOf m k = res := ⟨_, rfl⟩
  have Hr := Lib.hid hres
  rw [hres]
  clear hres
  obtain ⟨ok, hok⟩ : ∃ ok, imageOk m = ok := ⟨_, rfl⟩
  have Hok := Lib.hid hok
  clear hok
  go_enter Try.func141, Try.ntmps141
  go_wp2
  go_loopw [6] (fun iv wr => ∃ i : Nat, i ≤ n1 ∧ iv = .int .i64 i ∧ Hid (∀ j x, j < i → m.seats[j]? = some x → x.client ≠ k) ∧ Ext ((w.alloc (.cells #[.slice A0 n0 c0, .slice A1 n1 c1] 39)).alloc (.cells #[.int .i64 0, .int .i64 0, .int .i64 0] 88)) wr) (fun iv _ => n1 - (intOf iv).toNat)
  case atStart => exact ⟨0, by omega, rfl, fun j x hj => absurd hj (by omega), Ext.refl _⟩
  case round =>
    obtain ⟨i, hi, rfl, hno, hext⟩ := hrel
    have hext0 : Ext w wr := by repeat' (first | with_reducible exact Ext.refl _ | with_reducible assumption | with_reducible refine Ext.set ?_ ?_ _ _ | with_reducible refine Ext.alloc ?_ _ | with_reducible refine Ext.drew ?_ | with_reducible refine Ext.drewN ?_ _ | with_reducible refine Ext.trans ?_ (by with_reducible assumption) | omega | (simp; done) | (simp; omega))
    obtain ⟨hc0, hf0, hz0⟩ := hext.look
    have hz2 : w.heap.size + 1 < wr.heap.size := by simp at hz0; omega
    have hz3 : w.heap.size < wr.heap.size := by omega
    clear hz0
    by_cases hlt : i < n1
    · have hlt' : (i : Int) < (n1 : Int) := by omega
      cases ok with
      | false =>
        have Hres : Hid (res = (⟨0, 0, 0⟩, false)) := by
          show _ = _
          rw [← Hr.out]
          exact seatOf_no Hok.out
        go_wp2_with fail
        refine (imageOk_s _ m _ B (by exact hr0.keep (keepE' (by repeat' (first | with_reducible exact Ext.refl _ | with_reducible assumption | with_reducible refine Ext.set ?_ ?_ _ _ | with_reducible refine Ext.alloc ?_ _ | with_reducible refine Ext.drew ?_ | with_reducible refine Ext.drewN ?_ _ | with_reducible refine Ext.trans ?_ (by with_reducible assumption) | omega | (simp; done) | (simp; omega))) hB)) (by omega)).mono ?_
        rw [Hok.out]
        rintro e w1 ⟨rfl, hE1⟩
        obtain ⟨hc1, hf1, hz1⟩ := hE1.look
        have hz4 : w.heap.size + 1 < w1.heap.size := by omega
        go_wp2
        rw [Hres.out]
        exact bodyPost_ret (v := .tuple #[.agg #[.int .i64 0, .int .i64 0, .int .i64 0], .bool false]) (by simp [results, Try.results141, go_sem, hc1, hc0, hz2]) rfl ⟨rfl, by repeat' (first | with_reducible exact Ext.refl _ | with_reducible assumption | with_reducible refine Ext.set ?_ ?_ _ _ | with_reducible refine Ext.alloc ?_ _ | with_reducible refine Ext.drew ?_ | with_reducible refine Ext.drewN ?_ _ | with_reducible refine Ext.trans ?_ (by with_reducible assumption) | omega | (simp; done) | (simp; omega))⟩
      | true =>
        have Hg := Lib.hid (imageOk_iff.1 Hok.out)
        have Hres : Hid (res = getS m.seats k) := by
          show _ = _
          rw [← Hr.out]
          exact seatOf_ok Hok.out
        go_wp2_with fail
        refine (imageOk_s _ m _ B (by exact hr0.keep (keepE' (by repeat' (first | with_reducible exact Ext.refl _ | with_reducible assumption | with_reducible refine Ext.set ?_ ?_ _ _ | with_reducible refine Ext.alloc ?_ _ | with_reducible refine Ext.drew ?_ | with_reducible refine Ext.drewN ?_ _ | with_reducible refine Ext.trans ?_ (by with_reducible assumption) | omega | (simp; done) | (simp; omega))) hB)) (by omega)).mono ?_
        rw [Hok.out]
        rintro e w1 ⟨rfl, hE1⟩
        have hext1 := hext.trans hE1
        obtain ⟨hc1, hf1, hz1⟩ := hext1.look
        have hz4 : w.heap.size + 1 < w1.heap.size := by simp at hz1; omega
        have hext2 : Ext w w1 := by repeat' (first | with_reducible exact Ext.refl _ | with_reducible assumption | with_reducible refine Ext.set ?_ ?_ _ _ | with_reducible refine Ext.alloc ?_ _ | with_reducible refine Ext.drew ?_ | with_reducible refine Ext.drewN ?_ _ | with_reducible refine Ext.trans ?_ (by with_reducible assumption) | omega | (simp; done) | (simp; omega))
        obtain ⟨b, off, x, rfl, hb, hx1, hd0, hd1, hd2⟩ := (hext2.rd hrd hB).Seat Hl.out hlt
        have Hx := Lib.hid hx1
        have hne : b ≠ w.heap.size + 1 := by omega
        clear hx1 hc0 hf0 hz1
        by_cases he : x.client = k
        · have hfi : Hid (res = (x, true)) := by
            show _ = _
            rw [Hres.out]
            exact getS_some (findK_at Hg.out.seats.asc.1 Hx.out he)
          have he1 : (x.client == k) = true := by simpa using he
          clear he
          go_wp2
          rw [hfi.out]
          exact bodyPost_ret (v := .tuple #[.agg #[.int .i64 x.client, .int .i64 x.req, .int .i64 x.answer], .bool true]) (by simp [results, Try.results141, go_sem, hc1]) rfl ⟨rfl, by repeat' (first | with_reducible exact Ext.refl _ | with_reducible assumption | with_reducible refine Ext.set ?_ ?_ _ _ | with_reducible refine Ext.alloc ?_ _ | with_reducible refine Ext.drew ?_ | with_reducible refine Ext.drewN ?_ _ | with_reducible refine Ext.trans ?_ (by with_reducible assumption) | omega | (simp; done) | (simp; omega))⟩
        · have he1 : (x.client == k) = false := by simpa using he
          have He := Lib.hid he
          clear he
          go_wp2
          go_roundw
          case rel => exact ⟨i + 1, by omega, by go_num, fun j y hj hy => by
            rcases Nat.lt_or_ge j i with h | h
            · exact hno.out j y h hy
            · obtain rfl : j = i := by omega
              rw [Hx.out] at hy
              injection hy with hy
              rw [← hy]
              exact He.out, hext1⟩
          case measure => simp [intOf]; omega
    · obtain rfl : i = n1 := by omega
      have Hres : Hid (res = (⟨0, 0, 0⟩, false)) := by
        show _ = _
        rw [← Hr.out]
        cases ok with
        | false => exact seatOf_no Hok.out
        | true =>
          rw [seatOf_ok Hok.out]
          exact getS_none (findK_scan (key := SeatD.client) (l := m.seats) (k := k) (fun j x hx => hno.out j x (by rw [← Hl.out]; exact (List.getElem?_eq_some_iff.1 hx).1) hx))
      go_wp2
      rw [Hres.out]
      exact bodyPost_ret (v := .tuple #[.agg #[.int .i64 0, .int .i64 0, .int .i64 0], .bool false]) (by simp [results, Try.results141, go_sem, hc0]) rfl ⟨rfl, by repeat' (first | with_reducible exact Ext.refl _ | with_reducible assumption | with_reducible refine Ext.set ?_ ?_ _ _ | with_reducible refine Ext.alloc ?_ _ | with_reducible refine Ext.drew ?_ | with_reducible refine Ext.drewN ?_ _ | with_reducible refine Ext.trans ?_ (by with_reducible assumption) | omega | (simp; done) | (simp; omega))⟩
end Go.Proofs.Ytbfbdhjeoknjkaa
