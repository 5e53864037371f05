/-
  The reference's cursor over a code: what is drawn lies in its bounds, and only the cursor's block turns.
-/
import Derived.Test.YtbfbdhjeoknjkaaSmall
import Derived.Test.YtbfbdhjeoknjkaaMg1
namespace Go.Proofs.Ytbfbdhjeoknjkaa
open Go.RowKit

/-- The block is a cursor over bytes that lie ahead of it. -/
def Cur (w : World) (g : Nat) : Prop := ∃ (A : Option Addr) (n c : Nat) (l : List UInt8) (i : Nat) (h : Int),
  Bx w g 0 (.slice A n c) ∧ Bx w g 1 (.int .i64 i) ∧ Bx w g 2 (.int .i64 h) ∧ l.length = n ∧ n ≤ 4611686018427387904 ∧ Rd w g 1 A n (l.flatMap eB) ∧ i ≤ n
theorem Cur.lt {w : World} {g : Nat} (h : Cur w g) : g < w.heap.size := by
  obtain ⟨_, _, _, _, _, _, x, _⟩ := h
  exact x.lt
theorem Cur.ext {a b : World} {g : Nat} (h : Cur a g) (hE : Ext a b) : Cur b g := by
  have hg := h.lt
  obtain ⟨A, n, c, l, i, hh, x0, x1, x2, hl, hn, hr, hi⟩ := h
  exact ⟨A, n, c, l, i, hh, x0.ext hE, x1.ext hE, x2.ext hE, hl, hn, hE.rd hr (Nat.le_of_lt hg), hi⟩
theorem Fr.ext {lo hi : Nat} {a b : World} (h : Ext a b) : Fr lo hi a b := Fr.of_below h
theorem Fr.cell1 {w : World} {g j : Nat} (u : Value) : Fr g (g + 1) w (w.setCell ⟨g, j, none⟩ u) := Fr.of_grown (grownBy_setCell g j u rfl) (fun k hk => by injection hk with hk; omega)
theorem and255 (a : Int) : 0 ≤ bits .and .i64 a 255 ∧ bits .and .i64 a 255 ≤ 255 := by
  have h : bits .and .i64 a 255 = IntKind.i64.wrap (((BitVec.ofInt 64 a) &&& (BitVec.ofInt 64 255)).toNat : Int) := rfl
  have h2 : ((BitVec.ofInt 64 a) &&& (BitVec.ofInt 64 255)).toNat ≤ 255 := by
    rw [BitVec.toNat_and]
    exact Nat.le_trans Nat.and_le_right (by decide)
  rw [h, IntWalk.i64_in _ (by omega)]
  omega

set_option maxRecDepth 100000 in
set_option maxHeartbeats 2000000 in
theorem l1Byte_s (g : Nat) (w : World) (hc : Cur w g) : Calls Try.prog 132 #[.pointer (some ⟨g, 0, none⟩)] w fun e w' => ∃ x : Nat, x ≤ 255 ∧ e = .returned (.int .i64 x) ∧ Cur w' g ∧ Fr g (g + 1) w w' := by
  have hg := hc.lt
  obtain ⟨A, n, c, l, i, h, x0, x1, x2, hl, hn, hr, hi⟩ := hc
  obtain ⟨p0, f0⟩ := id x0
  obtain ⟨p1, f1⟩ := id x1
  obtain ⟨p2, f2⟩ := id x2
  go_enter Try.func132, Try.ntmps132
  go_wp2_with fail
  generalize wrap64 (wrap64 (h * 6364136223846793005) + 1442695040888963407) = h2
  clear p0 f0 p1 f1 p2 f2
  replace x0 := Bx.off x0 (k := 2) (by omega) (.int .i64 h2)
  replace x1 := Bx.off x1 (k := 2) (by omega) (.int .i64 h2)
  replace x2 := Bx.same x2 (.int .i64 h2)
  have hF1 : Fr g (g + 1) w (w.setCell ⟨g, 2, none⟩ (.int .i64 h2)) := Fr.cell1 _
  have hr1 := hr.fr hF1 (Nat.le_refl _) (Nat.le_of_lt hg)
  have hg1 : g < (w.setCell ⟨g, 2, none⟩ (.int .i64 h2)).heap.size := by simpa using hg
  generalize w.setCell ⟨g, 2, none⟩ (.int .i64 h2) = w1 at *
  obtain ⟨p0, f0⟩ := id x0
  obtain ⟨p1, f1⟩ := id x1
  obtain ⟨p2, f2⟩ := id x2
  go_quiet (fail)
  have hb := and255 (bits BinOp.xor IntKind.i64 (h2 / 8589934592) (h2 / 35184372088832))
  generalize bits BinOp.and IntKind.i64 (bits BinOp.xor IntKind.i64 (h2 / 8589934592) (h2 / 35184372088832)) 255 = b at *
  have hE2 : Ext w1 (w1.drewN nq) := (Ext.refl _).drewN _
  clear p0 f0 p1 f1 p2 f2
  replace x0 := x0.ext hE2
  replace x1 := x1.ext hE2
  replace x2 := x2.ext hE2
  have hF2 : Fr g (g + 1) w (w1.drewN nq) := hF1.trans (Fr.ext hE2)
  have hr2 := hE2.rd hr1 (Nat.le_of_lt hg1)
  have hg2 := x0.lt
  clear hE2 hF1 hr1 hg1 hr
  generalize w1.drewN nq = w2 at *
  clear nq
  obtain ⟨p0, f0⟩ := id x0
  obtain ⟨p1, f1⟩ := id x1
  obtain ⟨p2, f2⟩ := id x2
  by_cases hlt : i < n
  · have d1 : decide ((i : Int) < (n : Int)) = true := by simp; omega
    obtain ⟨b0, off, x, rfl, hb0, hx, hcx⟩ := hr2.byte hl hlt
    have hlt' : (i : Int) < (n : Int) := by omega
    go_wp2_with fail
    go_quiet (fail)
    have hE3 : Ext w2 (w2.drewN nq) := (Ext.refl _).drewN _
    clear p0 f0 p1 f1 p2 f2
    replace x0 := x0.ext hE3
    replace x1 := x1.ext hE3
    replace x2 := x2.ext hE3
    replace hcx := hE3.cellAt hcx
    have hF3 : Fr g (g + 1) w (w2.drewN nq) := hF2.trans (Fr.ext hE3)
    have hr3 := hE3.rd hr2 (Nat.le_of_lt hg2)
    have hg3 := x0.lt
    clear hE3 hF2 hr2
    generalize w2.drewN nq = w3 at *
    clear nq
    obtain ⟨p0, f0⟩ := id x0
    obtain ⟨p1, f1⟩ := id x1
    obtain ⟨p2, f2⟩ := id x2
    have hxb : (x.toNat : Int) ≤ 255 := by have := x.toNat_lt; omega
    have hx0 : 0 ≤ (x.toNat : Int) := by omega
    go_wp2_with fail
    go_quiet (fail)
    have hb2 := and255 (b + (x.toNat : Int))
    generalize bits BinOp.and IntKind.i64 (b + (x.toNat : Int)) 255 = b2 at *
    have hE4 : Ext w3 (w3.drewN nq) := (Ext.refl _).drewN _
    clear p0 f0 p1 f1 p2 f2
    replace x0 := x0.ext hE4
    replace x1 := x1.ext hE4
    replace x2 := x2.ext hE4
    have hF4 : Fr g (g + 1) w (w3.drewN nq) := hF3.trans (Fr.ext hE4)
    have hr4 := hE4.rd hr3 (Nat.le_of_lt hg3)
    have hg4 := x0.lt
    clear hE4 hF3 hr3
    generalize w3.drewN nq = w4 at *
    clear nq
    obtain ⟨p0, f0⟩ := id x0
    obtain ⟨p1, f1⟩ := id x1
    obtain ⟨p2, f2⟩ := id x2
    have hF5 : Fr g (g + 1) w4 (w4.setCell ⟨g, 1, none⟩ (.int .i64 ((i + 1 : Nat) : Int))) := Fr.cell1 _
    go_wp2
    go_ret
    exact ⟨b2.toNat, by omega, congrArg (fun z => Ending.returned (Value.int IntKind.i64 z)) (by omega), ⟨some ⟨b0, off, none⟩, n, c, l, i + 1, h2, Bx.off x0 (by omega) _, Bx.same x1 _, Bx.off x2 (by omega) _, hl, hn, hr4.fr hF5 (Nat.le_refl _) (Nat.le_of_lt hg4), by omega⟩, hF4.trans hF5⟩
  · have d1 : decide ((i : Int) < (n : Int)) = false := by simp; omega
    go_wp2_with fail
    go_quiet (fail)
    have hE3 : Ext w2 (w2.drewN nq) := (Ext.refl _).drewN _
    clear p0 f0 p1 f1 p2 f2
    replace x0 := x0.ext hE3
    replace x1 := x1.ext hE3
    replace x2 := x2.ext hE3
    have hF3 : Fr g (g + 1) w (w2.drewN nq) := hF2.trans (Fr.ext hE3)
    have hr3 := hE3.rd hr2 (Nat.le_of_lt hg2)
    clear hE3 hF2 hr2
    go_wp2
    go_ret
    exact ⟨b.toNat, by omega, congrArg (fun z => Ending.returned (Value.int IntKind.i64 z)) (by omega), ⟨A, n, c, l, i, h2, x0, x1, x2, hl, hn, hr3, hi⟩, hF3⟩

set_option maxRecDepth 100000 in
set_option maxHeartbeats 2000000 in
theorem l1Below_s (g : Nat) (n : Int) (w : World) (hc : Cur w g) (hn : n ≤ 4611686018427387904) : Calls Try.prog 105 #[.pointer (some ⟨g, 0, none⟩), .int .i64 n] w fun e w' => ∃ x : Nat, e = .returned (.int .i64 x) ∧ (0 < n → (x : Int) < n) ∧ (n ≤ 0 → x = 0) ∧ Cur w' g ∧ Fr g (g + 1) w w' := by
  by_cases h0 : n ≤ 0
  · have d1 : decide (n ≤ 0) = true := by simpa using h0
    go_enter Try.func105, Try.ntmps105
    go_wp2
    go_ret
    exact ⟨0, rfl, by omega, by omega, hc, Fr.ext (Ext.refl _)⟩
  · have d1 : decide (n ≤ 0) = false := by simpa using h0
    by_cases h1 : n ≤ 256
    · have d2 : decide (n ≤ 256) = true := by simpa using h1
      go_enter Try.func105, Try.ntmps105
      go_wp2_with fail
      refine (l1Byte_s g _ hc).mono ?_
      rintro e w1 ⟨x, hx, rfl, hc1, hF1⟩
      go_wp2
      go_ret
      have hm1 := Int.emod_nonneg (x : Int) (show n ≠ 0 by omega)
      have hm2 := Int.emod_lt_of_pos (x : Int) (show 0 < n by omega)
      exact ⟨((x : Int) % n).toNat, congrArg (fun z => Ending.returned (Value.int IntKind.i64 z)) (by omega), by omega, by omega, hc1, hF1⟩
    · have d2 : decide (n ≤ 256) = false := by simpa using h1
      go_enter Try.func105, Try.ntmps105
      go_wp2_with fail
      refine (l1Byte_s g _ hc).mono ?_
      rintro e w1 ⟨x1, hx1, rfl, hc1, hF1⟩
      go_wp2_with fail
      refine (l1Byte_s g _ hc1).mono ?_
      rintro e w2 ⟨x2, hx2, rfl, hc2, hF2⟩
      go_wp2_with fail
      refine (l1Byte_s g _ hc2).mono ?_
      rintro e w3 ⟨x3, hx3, rfl, hc3, hF3⟩
      go_wp2_with fail
      refine (l1Byte_s g _ hc3).mono ?_
      rintro e w4 ⟨x4, hx4, rfl, hc4, hF4⟩
      go_wp2
      go_ret
      have hm1 := Int.emod_nonneg ((x1 : Int) * 16777216 + x2 * 65536 + x3 * 256 + x4) (show n ≠ 0 by omega)
      have hm2 := Int.emod_lt_of_pos ((x1 : Int) * 16777216 + x2 * 65536 + x3 * 256 + x4) (show 0 < n by omega)
      exact ⟨(((x1 : Int) * 16777216 + x2 * 65536 + x3 * 256 + x4) % n).toNat, congrArg (fun z => Ending.returned (Value.int IntKind.i64 z)) (by omega), by omega, by omega, hc4, ((hF1.trans hF2).trans hF3).trans hF4⟩
theorem l1Once_s (g : Nat) (n : Int) (w : World) (hc : Cur w g) (hn : n ≤ 4611686018427387904) : Calls Try.prog 130 #[.pointer (some ⟨g, 0, none⟩), .int .i64 n] w fun e w' => ∃ b : Bool, e = .returned (.bool b) ∧ Cur w' g ∧ Fr g (g + 1) w w' := by
  go_enter Try.func130, Try.ntmps130
  go_wp2_with fail
  refine (l1Below_s g n _ hc hn).mono ?_
  rintro e w1 ⟨x, rfl, -, -, hc1, hF1⟩
  go_wp2
  go_ret
  exact ⟨_, rfl, hc1, hF1⟩
theorem l1PickInt_s (g b : Nat) (l : List Int) (w : World) (hc : Cur w g) (hb : b ≠ g) (hm : 0 < l.length) (hl : l.length ≤ 256) (hcell : ∀ j x, l[j]? = some x → w.cell? ⟨b, j, none⟩ = some (.int .i64 x)) :
    Calls Try.prog 106 #[.pointer (some ⟨g, 0, none⟩), .slice (some ⟨b, 0, none⟩) l.length l.length] w fun e w' => ∃ x, x ∈ l ∧ e = .returned (.int .i64 x) ∧ Cur w' g ∧ Fr g (g + 1) w w' := by
  go_enter Try.func106, Try.ntmps106
  go_wp2_with fail
  refine (l1Below_s g _ _ hc (by omega)).mono ?_
  rintro e w1 ⟨k, rfl, hk, -, hc1, hF1⟩
  have hk1 : k < l.length := by have := hk (by omega); omega
  have hk2 : (k : Int) < (l.length : Int) := by omega
  obtain ⟨x, hx⟩ := some_of_lt hk1
  have hcx := hF1.cellAt (hcell k x hx) (by omega)
  go_wp2
  go_ret
  exact ⟨x, List.mem_of_getElem? hx, rfl, hc1, hF1⟩
theorem l1Size_s (A : Option Addr) (n c : Nat) (most : Int) (w : World) (hn : n ≤ 4611686018427387904) (h0 : 0 ≤ most) : Calls Try.prog 58 #[.slice A n c, .int .i64 most] w fun e w' => ∃ x : Nat, (x : Int) ≤ most ∧ e = .returned (.int .i64 x) ∧ w = w' := by
  have hq : 0 ≤ (n : Int) / 20 ∧ (n : Int) / 20 ≤ n := by omega
  by_cases h : most < 2 + (n : Int) / 20
  · go_enter Try.func58, Try.ntmps58
    go_wp2
    go_ret
    exact ⟨most.toNat, by omega, congrArg (fun z => Ending.returned (Value.int IntKind.i64 z)) (by omega), rfl⟩
  · go_enter Try.func58, Try.ntmps58
    go_wp2
    go_ret
    exact ⟨2 + n / 20, by omega, congrArg (fun z => Ending.returned (Value.int IntKind.i64 z)) (by omega), rfl⟩
set_option maxRecDepth 100000 in
set_option maxHeartbeats 2000000 in
theorem l1New_s (A : Option Addr) (n c : Nat) (l : List UInt8) (w : World) (hr : Rd w w.heap.size 1 A n (l.flatMap eB)) (hl : l.length = n) (hn : n ≤ 4611686018427387904) : Calls Try.prog 57 #[.slice A n c] w fun e w' => e = .returned (.pointer (some ⟨w.heap.size, 0, none⟩)) ∧ Cur w' w.heap.size ∧ Ext w w' := by
  go_enter Try.func57, Try.ntmps57
  go_wp2
  go_loop [3, 4] (fun hv iv => ∃ (h : Int) (i : Nat), hv = .int .i64 h ∧ iv = .int .i64 i ∧ i ≤ n) (fun _ iv => n - (intOf iv).toNat)
  case atStart => exact ⟨_, 0, rfl, rfl, by omega⟩
  case round =>
    obtain ⟨h, i, rfl, rfl, hi⟩ := hrel
    by_cases hlt : i < n ∧ i < 4000
    · obtain ⟨h1, h2⟩ := hlt
      obtain ⟨b, off, x, rfl, hb, hx, hcx⟩ := hr.byte hl h1
      have h1' : (i : Int) < (n : Int) := by omega
      have d1 : decide ((i : Int) < 4000) = true := by simp; omega
      have d2 : decide (i < 4000) = true := by simp; omega
      go_wp2
      go_round
      case rel => exact ⟨_, i + 1, rfl, by go_num, by omega⟩
      case measure => simp [intOf]; omega
    · by_cases h1 : i < n
      · have d1 : decide ((i : Int) < 4000) = false := by simp; omega
        have d2 : decide (i < 4000) = false := by simp; omega
        have h1' : (i : Int) < (n : Int) := by omega
        go_wp2
        go_ret
        have hE : Ext w (w.alloc (.cells #[.slice A n c, .int .i64 ((0 : Nat) : Int), .int .i64 h] 144)) := (Ext.refl _).alloc _
        exact ⟨rfl, ⟨A, n, c, l, 0, h, Bx.new w _ _ 0 _ rfl rfl, Bx.new w _ _ 1 _ rfl rfl, Bx.new w _ _ 2 _ rfl rfl, hl, hn, hE.rd hr (Nat.le_refl _), by omega⟩, hE⟩
      · have h1' : ¬ (i : Int) < (n : Int) := by omega
        go_wp2
        go_ret
        have hE : Ext w (w.alloc (.cells #[.slice A n c, .int .i64 ((0 : Nat) : Int), .int .i64 h] 144)) := (Ext.refl _).alloc _
        exact ⟨rfl, ⟨A, n, c, l, 0, h, Bx.new w _ _ 0 _ rfl rfl, Bx.new w _ _ 1 _ rfl rfl, Bx.new w _ _ 2 _ rfl rfl, hl, hn, hE.rd hr (Nat.le_refl _), by omega⟩, hE⟩

end Go.Proofs.Ytbfbdhjeoknjkaa
