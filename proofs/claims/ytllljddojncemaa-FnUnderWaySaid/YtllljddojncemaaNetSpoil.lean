/-
  'NetSpoil' on both sides, walked.
-/
import Derived.Test.YtllljddojncemaaNetTake
import Derived.Laws.IdiomStrings
namespace Go.Proofs.Ytllljddojncemaa
open Go.RowKit

theorem xor_bit : ∀ (y : Fin 256) (m : Fin 8), bits .xor .u8 ((y.val : Nat) : Int) (((2 ^ m.val : Nat) : Nat) : Int) = (((UInt8.ofNat y.val ^^^ UInt8.ofNat (2 ^ m.val)).toNat : Nat) : Int) := by decide +kernel
theorem xor_byte (y : UInt8) (m : Nat) (hm : m ≤ 7) : bits .xor .u8 (y.toNat : Int) ((2 ^ m : Nat) : Int) = ((y ^^^ UInt8.ofNat (2 ^ m)).toNat : Int) := by
  have hy := y.toNat_lt
  have h := xor_bit ⟨y.toNat, by omega⟩ ⟨m, by omega⟩
  have hu : UInt8.ofNat y.toNat = y := UInt8.ofNat_toNat
  dsimp only at h
  rw [hu] at h
  exact h
theorem xor_bit2 (y : UInt8) (m : Nat) (hm : m ≤ 7) : bits .xor .u8 (y.toNat : Int) ((2 : Int) ^ m % 256) = ((y ^^^ UInt8.ofNat (2 ^ m)).toNat : Int) := by
  have h2 : ((2 : Int) ^ m % 256) = ((2 ^ m : Nat) : Int) := by
    have : m = 0 ∨ m = 1 ∨ m = 2 ∨ m = 3 ∨ m = 4 ∨ m = 5 ∨ m = 6 ∨ m = 7 := by omega
    rcases this with rfl | rfl | rfl | rfl | rfl | rfl | rfl | rfl <;> rfl
  rw [h2]
  exact xor_byte y m hm
/-- What a string's bytes are once laid in a row of their own. -/
theorem bytes_cell (w : World) (e : TypeId) (s : ByteArray) (cap : Nat) (q : Nat × Nat) (j : Nat) (hj : j < s.size) :
    (w.drew.alloc (.cells (bytesRow s cap) e q)).cell? ⟨w.heap.size, j, none⟩ = some (.int .u8 ((s.data.toList.getD j 0).toNat : Int)) := by
  have hb : (w.drew.alloc (.cells (bytesRow s cap) e q)).heap[w.heap.size]? = some (.cells (bytesRow s cap) e q) := heap_alloc_new w.drew _
  have hj' : j < s.data.size := hj
  rw [cell_of_row _ _ _ _ e q hb]
  unfold bytesRow
  rw [Array.getElem?_append_left (by rw [Array.size_map]; exact hj'), Array.getElem?_map, List.getD_eq_getElem?_getD, Array.getElem?_toList, Array.getElem?_eq_getElem hj']
  rfl
theorem bytes_free (w : World) (e : TypeId) (s : ByteArray) (cap j : Nat) (hj : j < s.size) :
    (w.drew.alloc (.cells (bytesRow s cap) e ((bytesRow s cap).size, (bytesRow s cap).size + 1))).frozen? ⟨w.heap.size, j, none⟩ = false := by
  have hb : (w.drew.alloc (.cells (bytesRow s cap) e ((bytesRow s cap).size, (bytesRow s cap).size + 1))).heap[w.heap.size]? = some (.cells (bytesRow s cap) e ((bytesRow s cap).size, (bytesRow s cap).size + 1)) := heap_alloc_new w.drew _
  have hs : j < (bytesRow s cap).size := by
    unfold bytesRow
    rw [Array.size_append]
    have : s.size = (s.data.map (fun b => Value.int .u8 b.toNat)).size := by rw [Array.size_map]; rfl
    omega
  simp only [World.frozen?]
  rw [hb]
  simp
  omega
theorem flipB_size (s : ByteArray) (b : Nat) : (flipB s b).size = s.size := by
  unfold flipB
  show (List.toArray _).size = s.data.size
  rw [List.size_toArray, List.length_set, Array.length_toList]
theorem shl_bit (m : Nat) (hm : m ≤ 7) (W : World) : (Op.shift BinOp.shl .u8 1 .i64 (m : Int)).run Try.prog W = .ok (.int .u8 ((2 ^ m : Nat) : Int)) W := by
  have : m = 0 ∨ m = 1 ∨ m = 2 ∨ m = 3 ∨ m = 4 ∨ m = 5 ∨ m = 6 ∨ m = 7 := by omega
  rcases this with rfl | rfl | rfl | rfl | rfl | rfl | rfl | rfl <;> rfl
theorem inB_bit {bit : Int} {z : Nat} (h : inB bit 0 (8 * (z : Int) - 1) = true) : ∃ b : Nat, b = bit ∧ b < 8 * z := by
  unfold inB at h
  simp only [decide_eq_true_eq] at h
  exact ⟨bit.toNat, by omega, by omega⟩
theorem inB_not {bit : Int} {z : Nat} (h : inB bit 0 (8 * (z : Int) - 1) = false) : ¬ (0 ≤ bit ∧ bit < 8 * (z : Int)) := by
  unfold inB at h
  simp only [decide_eq_false_iff_not] at h
  omega

set_option maxRecDepth 100000 in
set_option maxHeartbeats 4000000 in
theorem netSpoil_i (v : Value) (n : NetD) (i bit : Int) (w : World) (B : Nat) (hr : R_Net w B v n) (hB : B ≤ w.heap.size) (hsz : n.list.length ≤ 1048576) :
    Calls Try.prog 29 #[v, .int .i64 i, .int .i64 bit] w fun e w' => ∃ v', e = .returned (.tuple #[v', .int .i64 (netSpoil n i bit).2]) ∧ O_Net w' w.heap.size w'.heap.size v' (netSpoil n i bit).1 ∧ Ext w w' := by
  have hr0 := hr
  obtain ⟨u, rfl, A, m, c, rfl, hl, hmc, hcm, hrd⟩ := hr
  rw [hl] at hsz
  have Hl := Lib.hid hl
  clear hl
  have hW0 : Ext w ((w.alloc (.cells #[.int .i64 n.next, .slice A m c] 29)).alloc (.cells #[.int .i64 0, .slice none 0 0] 29)) := by repeat' (first | with_reducible exact Ext.refl _ | with_reducible assumption | with_reducible refine Ext.set ?_ ?_ _ _ | with_reducible refine Ext.alloc ?_ _ | with_reducible refine Ext.drew ?_ | with_reducible refine Ext.drewN ?_ _ | with_reducible refine Ext.trans ?_ (by with_reducible assumption) | omega | (simp; done) | (simp; omega))
  have zW0 : w.heap.size + 2 ≤ ((w.alloc (.cells #[.int .i64 n.next, .slice A m c] 29)).alloc (.cells #[.int .i64 0, .slice none 0 0] 29)).heap.size := by simp
  have x : Blk ((w.alloc (.cells #[.int .i64 n.next, .slice A m c] 29)).alloc (.cells #[.int .i64 0, .slice none 0 0] 29)) w.heap.size 29 [.int .i64 n.next, .slice A m c] := ((Blk.new w #[.int .i64 n.next, .slice A m c] 29 (by first | rfl | simp)).alloc (.cells #[.int .i64 0, .slice none 0 0] 29))
  have y : Blk ((w.alloc (.cells #[.int .i64 n.next, .slice A m c] 29)).alloc (.cells #[.int .i64 0, .slice none 0 0] 29)) (w.heap.size + 1) 29 [.int .i64 0, .slice none 0 0] := (Blk.new (w.alloc (.cells #[.int .i64 n.next, .slice A m c] 29)) #[.int .i64 0, .slice none 0 0] 29 (by first | rfl | simp))
  obtain ⟨ok, hok⟩ : ∃ ok, netOk n = ok := ⟨_, rfl⟩
  have Hok := Lib.hid hok
  obtain ⟨fa, hfa⟩ : ∃ fa, flAt n.list i = fa := ⟨_, rfl⟩
  have Hfa := Lib.hid hfa
  clear hok hfa
  go_enter Try.func29, Try.ntmps29
  go_wp2_with fail
  generalize ((w.alloc (.cells #[.int .i64 n.next, .slice A m c] 29)).alloc (.cells #[.int .i64 0, .slice none 0 0] 29)) = W0 at *
  refine (netOk_i _ n _ B (by exact hr0.keep (keepE' hW0 hB)) (by omega) (by rw [Hl.out]; omega)).mono ?_
  rw [Hok.out]
  rintro e w1 ⟨rfl, hE1⟩
  have hX1 := hW0.trans hE1
  have hz10 := hE1.size
  replace x := x.ext hE1
  replace y := y.ext hE1
  have hlx := x.lt
  have hly := y.lt
  clear hE1 hW0
  obtain ⟨x_p0, x_f0⟩ := x.at 0 _ rfl
  obtain ⟨x_p1, x_f1⟩ := x.at 1 _ rfl
  obtain ⟨y_p0, y_f0⟩ := y.at 0 _ rfl
  obtain ⟨y_p1, y_f1⟩ := y.at 1 _ rfl
  cases ok with
  | false =>
    have hf : Hid (netSpoil n i bit = (zeroN, 1)) := by show _ = _; exact netSpoil_bad Hok.out
    go_wp2
    rw [hf.out]
    exact bodyPost_ret (v := .tuple #[.agg #[.int .i64 0, .slice none 0 0], .int .i64 1]) (by simp [results, Try.results29, go_sem, y_p0, y_p1]) rfl ⟨_, rfl, ⟨_, rfl, OwnS.nil _⟩, by repeat' (first | with_reducible exact Ext.refl _ | with_reducible assumption | with_reducible refine Ext.set ?_ ?_ _ _ | with_reducible refine Ext.alloc ?_ _ | with_reducible refine Ext.drew ?_ | with_reducible refine Ext.drewN ?_ _ | with_reducible refine Ext.trans ?_ (by with_reducible assumption) | omega | (simp; done) | (simp; omega))⟩
  | true =>
    obtain ⟨h1, h2, h3⟩ := netOk_parts Hok.out
    rw [Hl.out] at h3
    go_wp2_with fail
    refine (copyNet_i _ n _ B (by exact hr0.keep (keepE' hX1 hB)) (by omega) (by rw [Hl.out]; omega)).mono ?_
    rintro e w2 ⟨v2, rfl, o2, hE2⟩
    obtain ⟨u2, rfl, k2⟩ := o2
    obtain ⟨A2, m2, c2, hv2, hl2, ow2⟩ := k2
    subst hv2
    have hmm : m = m2 := by rw [← Hl.out]; exact hl2
    subst hmm
    clear hl2
    have hz2 := hE2.size
    have hX2 := hX1.trans hE2
    clear x_p0 x_f0 x_p1 x_f1 y_p0 y_f0 y_p1 y_f1
    replace x := x.ext hE2
    replace y := y.ext hE2
    clear hE2
    have hW2 : Ext w2 (w2.alloc (.cells #[.int .i64 n.next, .slice A2 m c2] 29)) := by repeat' (first | with_reducible exact Ext.refl _ | with_reducible assumption | with_reducible refine Ext.set ?_ ?_ _ _ | with_reducible refine Ext.alloc ?_ _ | with_reducible refine Ext.drew ?_ | with_reducible refine Ext.drewN ?_ _ | with_reducible refine Ext.trans ?_ (by with_reducible assumption) | omega | (simp; done) | (simp; omega))
    have zW2 : w2.heap.size + 1 ≤ (w2.alloc (.cells #[.int .i64 n.next, .slice A2 m c2] 29)).heap.size := by simp
    have q : Blk (w2.alloc (.cells #[.int .i64 n.next, .slice A2 m c2] 29)) w2.heap.size 29 [.int .i64 n.next, .slice A2 m c2] := (Blk.new w2 #[.int .i64 n.next, .slice A2 m c2] 29 (by first | rfl | simp))
    replace x := x.ext hW2
    replace y := y.ext hW2
    replace ow2 := hW2.own ow2 (Nat.le_refl _)
    replace hX2 := hX2.trans hW2
    obtain ⟨x_p0, x_f0⟩ := x.at 0 _ rfl
    obtain ⟨x_p1, x_f1⟩ := x.at 1 _ rfl
    obtain ⟨y_p0, y_f0⟩ := y.at 0 _ rfl
    obtain ⟨y_p1, y_f1⟩ := y.at 1 _ rfl
    obtain ⟨q_p0, q_f0⟩ := q.at 0 _ rfl
    obtain ⟨q_p1, q_f1⟩ := q.at 1 _ rfl
    go_wp2_with fail
    clear hW2
    generalize (w2.alloc (.cells #[.int .i64 n.next, .slice A2 m c2] 29)) = W2 at *
    refine (isFlight_i _ n i _ B (by exact hr0.keep (keepE' hX2 hB)) (by rw [Hl.out]; omega)).mono ?_
    rw [Hfa.out]
    rintro e w3 ⟨rfl, hE3⟩
    have hz3 := hE3.size
    have hX3 := hX2.trans hE3
    replace ow2 := hE3.own ow2 (by omega)
    clear x_p0 x_f0 x_p1 x_f1 y_p0 y_f0 y_p1 y_f1 q_p0 q_f0 q_p1 q_f1
    replace x := x.ext hE3
    replace y := y.ext hE3
    replace q := q.ext hE3
    obtain ⟨x_p0, x_f0⟩ := x.at 0 _ rfl
    obtain ⟨x_p1, x_f1⟩ := x.at 1 _ rfl
    obtain ⟨y_p0, y_f0⟩ := y.at 0 _ rfl
    obtain ⟨y_p1, y_f1⟩ := y.at 1 _ rfl
    obtain ⟨q_p0, q_f0⟩ := q.at 0 _ rfl
    obtain ⟨q_p1, q_f1⟩ := q.at 1 _ rfl
    clear hE3
    have hlx := x.lt
    have hly := y.lt
    have hlq := q.lt
    cases fa with
    | none =>
      have hf : Hid (netSpoil n i bit = (n, 2)) := by show _ = _; exact netSpoil_none Hok.out Hfa.out
      go_wp2
      rw [hf.out]
      exact bodyPost_ret (v := .tuple #[.agg #[.int .i64 n.next, .slice A2 m c2], .int .i64 2]) (by simp [results, Try.results29, go_sem, y_p0, y_p1]) rfl ⟨_, rfl, ⟨_, rfl, (O_FlightS.keep (OwnS.of ow2 Hl.out) (show Kp _ _ _ _ by repeat' (first | with_reducible exact Kp.refl _ _ _ | with_reducible assumption | with_reducible refine Kp.set ?_ ?_ _ _ | with_reducible refine Kp.alloc ?_ ?_ _ | with_reducible refine Kp.drew ?_ | with_reducible refine Kp.drewN ?_ _ | with_reducible refine Kp.ext ?_ ?_ (by with_reducible assumption) | with_reducible refine Kp.fr ?_ ?_ ?_ (by with_reducible assumption) | omega | (simp; done) | (simp; omega)))).wide (by omega) (by first | (simp; done) | (simp; omega))⟩, by repeat' (first | with_reducible exact Ext.refl _ | with_reducible assumption | with_reducible refine Ext.set ?_ ?_ _ _ | with_reducible refine Ext.alloc ?_ _ | with_reducible refine Ext.drew ?_ | with_reducible refine Ext.drewN ?_ _ | with_reducible refine Ext.trans ?_ (by with_reducible assumption) | omega | (simp; done) | (simp; omega))⟩
    | some fl =>
      obtain ⟨k, hk0, hk, hfl⟩ := flAt_some Hfa.out
      subst hk0
      have hsize := (flB_size (netOk_at Hok.out hfl).1).1
      rw [Hl.out] at hk
      have Hfl := Lib.hid hfl
      clear hfl
      have hk1 : (k : Int) < (m : Int) := by omega
      obtain ⟨b, off, fl', rfl, hb, hx1, hc0, hc1, hc2⟩ := (hX3.rd hrd hB).Flight Hl.out hk
      obtain rfl : fl' = fl := by rw [Hfl.out] at hx1; exact (Option.some.inj hx1).symm
      clear hx1 hc0 hc1
      obtain ⟨z, hz⟩ : ∃ z, fl'.bytes.size = z := ⟨_, rfl⟩
      rw [hz] at hsize
      have Hz := Lib.hid hz
      go_wp2_with fail
      refine (from_any _ _ _ _).mono ?_
      rintro e w4 ⟨rfl, rfl⟩
      clear hz
      cases hin : inB bit 0 (8 * (z : Int) - 1) with
      | false =>
        have hf : Hid (netSpoil n (k : Int) bit = (n, 2)) := by show _ = _; exact netSpoil_out Hok.out Hfa.out (by rw [Hz.out]; exact inB_not hin)
        clear hin
        go_wp2
        rw [hf.out]
        exact bodyPost_ret (v := .tuple #[.agg #[.int .i64 n.next, .slice A2 m c2], .int .i64 2]) (by simp [results, Try.results29, go_sem, y_p0, y_p1]) rfl ⟨_, rfl, ⟨_, rfl, (O_FlightS.keep (OwnS.of ow2 Hl.out) (show Kp _ _ _ _ by repeat' (first | with_reducible exact Kp.refl _ _ _ | with_reducible assumption | with_reducible refine Kp.set ?_ ?_ _ _ | with_reducible refine Kp.alloc ?_ ?_ _ | with_reducible refine Kp.drew ?_ | with_reducible refine Kp.drewN ?_ _ | with_reducible refine Kp.ext ?_ ?_ (by with_reducible assumption) | with_reducible refine Kp.fr ?_ ?_ ?_ (by with_reducible assumption) | omega | (simp; done) | (simp; omega)))).wide (by omega) (by first | (simp; done) | (simp; omega))⟩, by repeat' (first | with_reducible exact Ext.refl _ | with_reducible assumption | with_reducible refine Ext.set ?_ ?_ _ _ | with_reducible refine Ext.alloc ?_ _ | with_reducible refine Ext.drew ?_ | with_reducible refine Ext.drewN ?_ _ | with_reducible refine Ext.trans ?_ (by with_reducible assumption) | omega | (simp; done) | (simp; omega))⟩
      | true =>
        obtain ⟨t, ht0, ht⟩ := inB_bit hin
        clear hin
        subst ht0
        have hf : Hid (netSpoil n (k : Int) (t : Int) = (⟨n.next, n.list.set k (spoil fl' t)⟩, 0)) := by show _ = _; exact netSpoil_in Hok.out Hfa.out (by rw [Hz.out]; exact ht)
        go_upto_region 6 with (fail)
        have hkb0 : ∃ kb, t / 8 = kb := ⟨_, rfl⟩
        obtain ⟨kb, hkb⟩ := hkb0
        obtain ⟨mb, hmb⟩ : ∃ mb, t % 8 = mb := ⟨_, rfl⟩
        have hkz : kb < z := by omega
        have hmb7 : mb ≤ 7 := by omega
        have hkz2 : (kb : Int) < (z : Int) := by omega
        have a1 : (t : Int).tdiv 8 = (kb : Int) := by rw [Int.tdiv_eq_ediv_of_nonneg (by omega)]; omega
        have a2 : (t : Int) / 8 = (kb : Int) := by omega
        have a3 : (t : Int).tmod 8 = (mb : Int) := by rw [Int.tmod_eq_emod_of_nonneg (by omega)]; omega
        have a4 : (t : Int) % 8 = (mb : Int) := by omega
        obtain ⟨y0, hy0⟩ : ∃ y0, fl'.bytes.data.toList.getD kb 0 = y0 := ⟨_, rfl⟩
        obtain ⟨y1, hy1⟩ : ∃ y1, y0 ^^^ UInt8.ofNat (2 ^ mb) = y1 := ⟨_, rfl⟩
        have hflip : Hid ((⟨(fl'.bytes.data.toList.set kb y1).toArray⟩ : ByteArray) = flipB fl'.bytes t) := by show _ = _; unfold flipB; rw [hkb, hmb, hy0, hy1]
        have hxor := xor_bit2 y0 mb hmb7
        rw [hy1] at hxor
        have hwk : IntKind.i64.wrap (kb : Int) = (kb : Int) := IntWalk.i64_in _ (by omega)
        have hwm : IntKind.i64.wrap (mb : Int) = (mb : Int) := IntWalk.i64_in _ (by omega)
        clear hmb hy1 hmb7 hkb
        obtain ⟨cp, hcp⟩ : ∃ cp, grownCap w3 fl'.bytes.size 0 5 = cp := ⟨_, rfl⟩
        have hcv := run_bytes_of_string (P := Try.prog) w3 9 50 5 fl'.bytes Try.underlying9 Try.underlying50 Try.underlying5
        rw [hcp] at hcv
        have hE5 : Ext w3 (w3.drew.alloc (.cells (bytesRow fl'.bytes cp) 5 ((bytesRow fl'.bytes cp).size, (bytesRow fl'.bytes cp).size + 1))) := ((Ext.refl _).drew).alloc _
        have hcell : Hid (∀ j, j < z → (w3.drew.alloc (.cells (bytesRow fl'.bytes cp) 5 ((bytesRow fl'.bytes cp).size, (bytesRow fl'.bytes cp).size + 1))).cell? ⟨w3.heap.size, j, none⟩ = some (.int .u8 ((fl'.bytes.data.toList.getD j 0).toNat : Int))) := fun j hj => bytes_cell w3 _ _ cp _ j (by rw [Hz.out]; exact hj)
        have hyf := bytes_free w3 5 fl'.bytes cp kb (by rw [Hz.out]; exact hkz)
        have hsz5 : (w3.drew.alloc (.cells (bytesRow fl'.bytes cp) 5 ((bytesRow fl'.bytes cp).size, (bytesRow fl'.bytes cp).size + 1))).heap.size = w3.heap.size + 1 := by simp
        generalize (w3.drew.alloc (.cells (bytesRow fl'.bytes cp) 5 ((bytesRow fl'.bytes cp).size, (bytesRow fl'.bytes cp).size + 1))) = W5 at *
        rw [Hz.out] at hcv
        clear hcp
        have hyc := hcell.out kb hkz
        rw [hy0] at hyc
        have hz5 : w3.heap.size < W5.heap.size := by omega
        clear hsz5 hy0
        have Hzz := Lib.hid hz5
        go_upto_region 7 with (fail)
        clear hcv
        clear x_p0 x_f0 x_p1 x_f1 y_p0 y_f0 y_p1 y_f1 q_p0 q_f0 q_p1 q_f1
        replace x := x.ext hE5
        replace y := y.ext hE5
        replace q := q.ext hE5
        obtain ⟨x_p0, x_f0⟩ := x.at 0 _ rfl
        obtain ⟨x_p1, x_f1⟩ := x.at 1 _ rfl
        obtain ⟨y_p0, y_f0⟩ := y.at 0 _ rfl
        obtain ⟨y_p1, y_f1⟩ := y.at 1 _ rfl
        obtain ⟨q_p0, q_f0⟩ := q.at 0 _ rfl
        obtain ⟨q_p1, q_f1⟩ := q.at 1 _ rfl
        replace ow2 := hE5.own ow2 (by omega)
        have hX5 := hX3.trans hE5
        clear hE5
        go_still_tail 10, (by kernel_rfl)
        repeat still_step
        change wpList _ _ _ _ _ W5.drew
        have hcell2 : Hid (∀ j, j < z → W5.drew.cell? ⟨w3.heap.size, j, none⟩ = some (.int .u8 ((fl'.bytes.data.toList.getD j 0).toNat : Int))) := hcell.out
        replace hyc : W5.drew.cell? ⟨w3.heap.size, kb, none⟩ = some (.int .u8 (y0.toNat : Int)) := hyc
        replace hyf : W5.drew.frozen? ⟨w3.heap.size, kb, none⟩ = false := hyf
        replace ow2 := (show Own W5.drew _ _ _ _ _ _ _ from ow2)
        replace hX5 := hX5.drew
        have hz7 : W5.heap.size ≤ W5.drew.heap.size := Nat.le_refl _
        clear x_p0 x_f0 x_p1 x_f1 y_p0 y_f0 y_p1 y_f1 q_p0 q_f0 q_p1 q_f1
        replace x := x.drew
        replace y := y.drew
        replace q := q.drew
        obtain ⟨x_p0, x_f0⟩ := x.at 0 _ rfl
        obtain ⟨x_p1, x_f1⟩ := x.at 1 _ rfl
        obtain ⟨y_p0, y_f0⟩ := y.at 0 _ rfl
        obtain ⟨y_p1, y_f1⟩ := y.at 1 _ rfl
        obtain ⟨q_p0, q_f0⟩ := q.at 0 _ rfl
        obtain ⟨q_p1, q_f1⟩ := q.at 1 _ rfl
        clear hcell
        generalize W5.drew = W7 at *
        go_upto_region 8 with (fail)
        rw [hxor]
        have hE8 : Ext w (W7.setCell ⟨w3.heap.size, kb, none⟩ (.int .u8 (y1.toNat : Int))) := hX5.set (by omega) _ _
        have hF8 : Kp 0 w3.heap.size W7 (W7.setCell ⟨w3.heap.size, kb, none⟩ (.int .u8 (y1.toNat : Int))) := (show Kp _ _ _ _ by repeat' (first | with_reducible exact Kp.refl _ _ _ | with_reducible assumption | with_reducible refine Kp.set ?_ ?_ _ _ | with_reducible refine Kp.alloc ?_ ?_ _ | with_reducible refine Kp.drew ?_ | with_reducible refine Kp.drewN ?_ _ | with_reducible refine Kp.ext ?_ ?_ (by with_reducible assumption) | with_reducible refine Kp.fr ?_ ?_ ?_ (by with_reducible assumption) | omega | (simp; done) | (simp; omega)))
        have hz8 : W7.heap.size ≤ (W7.setCell ⟨w3.heap.size, kb, none⟩ (.int .u8 (y1.toNat : Int))).heap.size := by simp
        have hall : Hid (∀ j (hj : j < (fl'.bytes.data.toList.set kb y1).length), (W7.setCell ⟨w3.heap.size, kb, none⟩ (.int .u8 (y1.toNat : Int))).cell? ((⟨w3.heap.size, 0, none⟩ : Addr).add j) = some (.int .u8 (((fl'.bytes.data.toList.set kb y1)[j]).toNat : Int))) := by
          intro j hj
          rw [addr_add, Nat.zero_add]
          have hj2 : j < z := by rw [← Hz.out]; simpa using hj
          by_cases hjk : j = kb
          · subst hjk
            rw [World.cell?_setCell_same _ _ _ hyc]
            simp
          · rw [World.cell?_setCell_other _ _ _ _ (by intro h; injection h with _ h; exact hjk h.symm), hcell2.out j hj2, List.getElem_set_ne (fun h => hjk h.symm), List.getD_eq_getElem?_getD, List.getElem?_eq_getElem (by simpa using hj)]
            rfl
        clear hcell2 hyc hyf hxor
        clear x_p0 x_f0 x_p1 x_f1 y_p0 y_f0 y_p1 y_f1 q_p0 q_f0 q_p1 q_f1
        replace x := x.kp hF8 (by omega) (by omega)
        replace y := y.kp hF8 (by omega) (by omega)
        replace q := q.kp hF8 (by omega) (by omega)
        replace ow2 := Own.keep ow2 (fun k h1 h2 => hF8 k (by omega) (by omega))
        generalize W7.setCell ⟨w3.heap.size, kb, none⟩ (.int .u8 (y1.toNat : Int)) = W8 at *
        clear hF8 hX5
        have hback := run_convert_bytes_back (P := Try.prog) W8 50 9 5 ⟨w3.heap.size, 0, none⟩ cp (fl'.bytes.data.toList.set kb y1) Try.underlying50 Try.underlying5 Try.underlying9 hall.out
        rw [hflip.out, show (fl'.bytes.data.toList.set kb y1).length = z from by rw [List.length_set]; exact Hz.out] at hback
        clear hall
        obtain ⟨g, cap, hv, hg1, hg2, hnc, -⟩ := ow2.row (by omega)
        injection hv with hA _ hcap
        subst hA hcap
        obtain ⟨⟨u0, hs0⟩, hf0⟩ := ow2.spot (j := k * 3 + 2) (by omega)
        have o4 := ow2.set (by omega) (k * 3 + 2) (.string (flipB fl'.bytes t))
        have hls : Hid ((n.list.flatMap eFlight).set (k * 3 + 2) (.string (flipB fl'.bytes t)) = (n.list.set k (spoil fl' t)).flatMap eFlight) :=
          flat_set eFlight_len (by omega) Hfl.out (by omega) (by simp [eFlight, spoil])
        rw [hls.out] at o4
        have k9 : O_FlightS (W8.setCell ⟨g, k * 3 + 2, none⟩ (.string (flipB fl'.bytes t))) _ _ _ (n.list.set k (spoil fl' t)) := OwnS.of o4 (by rw [List.length_set]; exact Hl.out)
        have hX9 : Ext w (W8.setCell ⟨g, k * 3 + 2, none⟩ (.string (flipB fl'.bytes t))) := hE8.set (by omega) _ _
        have n1 : ¬ g = w.heap.size := by omega
        have n2 : ¬ g = w.heap.size + 1 := by omega
        have n3 : ¬ g = w2.heap.size := by omega
        clear ow2 o4 hls
        generalize flipB fl'.bytes t = s9 at *
        obtain ⟨x_p0, x_f0⟩ := x.at 0 _ rfl
        obtain ⟨x_p1, x_f1⟩ := x.at 1 _ rfl
        obtain ⟨y_p0, y_f0⟩ := y.at 0 _ rfl
        obtain ⟨y_p1, y_f1⟩ := y.at 1 _ rfl
        obtain ⟨q_p0, q_f0⟩ := q.at 0 _ rfl
        obtain ⟨q_p1, q_f1⟩ := q.at 1 _ rfl
        go_wp2
        rw [hf.out]
        dsimp only
        exact bodyPost_ret (v := .tuple #[.agg #[.int .i64 n.next, .slice (some ⟨g, 0, none⟩) m c2], .int .i64 0]) (by simp [results, Try.results29, go_sem, y_p0, y_p1]) rfl ⟨_, rfl, ⟨_, rfl, (O_FlightS.keep k9 (show Kp _ _ _ _ by repeat' (first | with_reducible exact Kp.refl _ _ _ | with_reducible assumption | with_reducible refine Kp.set ?_ ?_ _ _ | with_reducible refine Kp.alloc ?_ ?_ _ | with_reducible refine Kp.drew ?_ | with_reducible refine Kp.drewN ?_ _ | with_reducible refine Kp.ext ?_ ?_ (by with_reducible assumption) | with_reducible refine Kp.fr ?_ ?_ ?_ (by with_reducible assumption) | omega | (simp; done) | (simp; omega)))).wide (by first | omega | (simp; omega)) (by first | (simp; done) | (simp; omega))⟩, by repeat' (first | with_reducible exact Ext.refl _ | with_reducible assumption | with_reducible refine Ext.set ?_ ?_ _ _ | with_reducible refine Ext.alloc ?_ _ | with_reducible refine Ext.drew ?_ | with_reducible refine Ext.drewN ?_ _ | with_reducible refine Ext.trans ?_ (by with_reducible assumption) | omega | (simp; done) | (simp; omega))⟩

set_option maxRecDepth 100000 in
set_option maxHeartbeats 4000000 in
theorem netSpoil_s (v : Value) (n : NetD) (i bit : Int) (w : World) (B : Nat) (hr : R_Net w B v n) (hB : B ≤ w.heap.size) (hsz : n.list.length ≤ 1048576) (hbf : -9223372036854775808 ≤ bit ∧ bit ≤ 9223372036854775807) :
    Calls Try.prog 28 #[v, .int .i64 i, .int .i64 bit] w fun e w' => ∃ v', e = .returned (.tuple #[v', .int .i64 (netSpoil n i bit).2]) ∧ O_Net w' w.heap.size w'.heap.size v' (netSpoil n i bit).1 ∧ Ext w w' := by
  have hr0 := hr
  obtain ⟨u, rfl, A, m, c, rfl, hl, hmc, hcm, hrd⟩ := hr
  rw [hl] at hsz
  have Hl := Lib.hid hl
  clear hl
  have hW0 : Ext w ((w.alloc (.cells #[.int .i64 n.next, .slice A m c] 29)).alloc (.cells #[.int .i64 0, .slice none 0 0] 29)) := by repeat' (first | with_reducible exact Ext.refl _ | with_reducible assumption | with_reducible refine Ext.set ?_ ?_ _ _ | with_reducible refine Ext.alloc ?_ _ | with_reducible refine Ext.drew ?_ | with_reducible refine Ext.drewN ?_ _ | with_reducible refine Ext.trans ?_ (by with_reducible assumption) | omega | (simp; done) | (simp; omega))
  have zW0 : w.heap.size + 2 ≤ ((w.alloc (.cells #[.int .i64 n.next, .slice A m c] 29)).alloc (.cells #[.int .i64 0, .slice none 0 0] 29)).heap.size := by simp
  have x : Blk ((w.alloc (.cells #[.int .i64 n.next, .slice A m c] 29)).alloc (.cells #[.int .i64 0, .slice none 0 0] 29)) w.heap.size 29 [.int .i64 n.next, .slice A m c] := ((Blk.new w #[.int .i64 n.next, .slice A m c] 29 (by first | rfl | simp)).alloc (.cells #[.int .i64 0, .slice none 0 0] 29))
  have y : Blk ((w.alloc (.cells #[.int .i64 n.next, .slice A m c] 29)).alloc (.cells #[.int .i64 0, .slice none 0 0] 29)) (w.heap.size + 1) 29 [.int .i64 0, .slice none 0 0] := (Blk.new (w.alloc (.cells #[.int .i64 n.next, .slice A m c] 29)) #[.int .i64 0, .slice none 0 0] 29 (by first | rfl | simp))
  have htk := fun W hW hB' => netTake_s (.agg #[.int .i64 n.next, .slice A m c]) n i W B hW hB' (by rw [Hl.out]; exact hsz)
  cases hok : netOk n with
  | false =>
    rw [netTake_bad hok] at htk
    rw [netSpoil_bad hok]
    dsimp only at htk
    clear hok
    go_enter Try.func28, Try.ntmps28
    go_wp2_with fail
    generalize ((w.alloc (.cells #[.int .i64 n.next, .slice A m c] 29)).alloc (.cells #[.int .i64 0, .slice none 0 0] 29)) = W0 at *
    refine (htk _ (by exact hr0.keep (keepE' hW0 hB)) (by omega)).mono ?_
    rintro e w1 ⟨v1, rfl, o1, hE1⟩
    obtain ⟨u1, rfl, k1⟩ := o1
    obtain ⟨A1, m1, c1, hv1, -⟩ := id k1
    subst hv1
    have hX1 := hW0.trans hE1
    have hz1' := hE1.size
    replace x := x.ext hE1
    replace y := y.ext hE1
    clear hE1 hW0 htk
    have hW1 : Ext w1 ((w1.alloc (.cells #[.int .i64 zeroN.next, .slice A1 m1 c1] 29)).alloc (.cells #[.int .i64 zeroF.id, .int .i64 zeroF.to, .string zeroF.bytes] 43)) := by repeat' (first | with_reducible exact Ext.refl _ | with_reducible assumption | with_reducible refine Ext.set ?_ ?_ _ _ | with_reducible refine Ext.alloc ?_ _ | with_reducible refine Ext.drew ?_ | with_reducible refine Ext.drewN ?_ _ | with_reducible refine Ext.trans ?_ (by with_reducible assumption) | omega | (simp; done) | (simp; omega))
    have zW1 : w1.heap.size + 2 ≤ ((w1.alloc (.cells #[.int .i64 zeroN.next, .slice A1 m1 c1] 29)).alloc (.cells #[.int .i64 zeroF.id, .int .i64 zeroF.to, .string zeroF.bytes] 43)).heap.size := by simp
    have q : Blk ((w1.alloc (.cells #[.int .i64 zeroN.next, .slice A1 m1 c1] 29)).alloc (.cells #[.int .i64 zeroF.id, .int .i64 zeroF.to, .string zeroF.bytes] 43)) w1.heap.size 29 [.int .i64 zeroN.next, .slice A1 m1 c1] := ((Blk.new w1 #[.int .i64 zeroN.next, .slice A1 m1 c1] 29 (by first | rfl | simp)).alloc (.cells #[.int .i64 zeroF.id, .int .i64 zeroF.to, .string zeroF.bytes] 43))
    have f : Blk ((w1.alloc (.cells #[.int .i64 zeroN.next, .slice A1 m1 c1] 29)).alloc (.cells #[.int .i64 zeroF.id, .int .i64 zeroF.to, .string zeroF.bytes] 43)) (w1.heap.size + 1) 43 [.int .i64 zeroF.id, .int .i64 zeroF.to, .string zeroF.bytes] := (Blk.new (w1.alloc (.cells #[.int .i64 zeroN.next, .slice A1 m1 c1] 29)) #[.int .i64 zeroF.id, .int .i64 zeroF.to, .string zeroF.bytes] 43 (by first | rfl | simp))
    replace x := x.ext hW1
    replace y := y.ext hW1
    have hX2 := hX1.trans hW1
    have hlx := x.lt
    have hly := y.lt
    obtain ⟨x_p0, x_f0⟩ := x.at 0 _ rfl
    obtain ⟨x_p1, x_f1⟩ := x.at 1 _ rfl
    obtain ⟨y_p0, y_f0⟩ := y.at 0 _ rfl
    obtain ⟨y_p1, y_f1⟩ := y.at 1 _ rfl
    obtain ⟨q_p0, q_f0⟩ := q.at 0 _ rfl
    obtain ⟨q_p1, q_f1⟩ := q.at 1 _ rfl
    obtain ⟨f_p0, f_f0⟩ := f.at 0 _ rfl
    obtain ⟨f_p1, f_f1⟩ := f.at 1 _ rfl
    obtain ⟨f_p2, f_f2⟩ := f.at 2 _ rfl
    go_upto_region 2 with (fail)
    clear hW1
    generalize ((w1.alloc (.cells #[.int .i64 zeroN.next, .slice A1 m1 c1] 29)).alloc (.cells #[.int .i64 zeroF.id, .int .i64 zeroF.to, .string zeroF.bytes] 43)) = W1 at *
    go_wp2
    exact bodyPost_ret (v := .tuple #[.agg #[.int .i64 0, .slice none 0 0], .int .i64 1]) (by simp [results, Try.results28, go_sem, y_p0, y_p1]) rfl ⟨_, rfl, ⟨_, rfl, OwnS.nil _⟩, by repeat' (first | with_reducible exact Ext.refl _ | with_reducible assumption | with_reducible refine Ext.set ?_ ?_ _ _ | with_reducible refine Ext.alloc ?_ _ | with_reducible refine Ext.drew ?_ | with_reducible refine Ext.drewN ?_ _ | with_reducible refine Ext.trans ?_ (by with_reducible assumption) | omega | (simp; done) | (simp; omega))⟩
  | true =>
    obtain ⟨h1, h2, h3⟩ := netOk_parts hok
    rw [Hl.out] at h3
    cases hfa : flAt n.list i with
    | none =>
      rw [netTake_none hok hfa] at htk
      rw [netSpoil_none hok hfa]
      dsimp only at htk
      clear hok hfa
      go_enter Try.func28, Try.ntmps28
      go_wp2_with fail
      generalize ((w.alloc (.cells #[.int .i64 n.next, .slice A m c] 29)).alloc (.cells #[.int .i64 0, .slice none 0 0] 29)) = W0 at *
      refine (htk _ (by exact hr0.keep (keepE' hW0 hB)) (by omega)).mono ?_
      rintro e w1 ⟨v1, rfl, o1, hE1⟩
      obtain ⟨u1, rfl, k1⟩ := o1
      obtain ⟨A1, m1, c1, hv1, -⟩ := id k1
      subst hv1
      have hX1 := hW0.trans hE1
      have hz1' := hE1.size
      replace x := x.ext hE1
      replace y := y.ext hE1
      clear hE1 hW0 htk
      have hW1 : Ext w1 ((w1.alloc (.cells #[.int .i64 n.next, .slice A1 m1 c1] 29)).alloc (.cells #[.int .i64 zeroF.id, .int .i64 zeroF.to, .string zeroF.bytes] 43)) := by repeat' (first | with_reducible exact Ext.refl _ | with_reducible assumption | with_reducible refine Ext.set ?_ ?_ _ _ | with_reducible refine Ext.alloc ?_ _ | with_reducible refine Ext.drew ?_ | with_reducible refine Ext.drewN ?_ _ | with_reducible refine Ext.trans ?_ (by with_reducible assumption) | omega | (simp; done) | (simp; omega))
      have zW1 : w1.heap.size + 2 ≤ ((w1.alloc (.cells #[.int .i64 n.next, .slice A1 m1 c1] 29)).alloc (.cells #[.int .i64 zeroF.id, .int .i64 zeroF.to, .string zeroF.bytes] 43)).heap.size := by simp
      have q : Blk ((w1.alloc (.cells #[.int .i64 n.next, .slice A1 m1 c1] 29)).alloc (.cells #[.int .i64 zeroF.id, .int .i64 zeroF.to, .string zeroF.bytes] 43)) w1.heap.size 29 [.int .i64 n.next, .slice A1 m1 c1] := ((Blk.new w1 #[.int .i64 n.next, .slice A1 m1 c1] 29 (by first | rfl | simp)).alloc (.cells #[.int .i64 zeroF.id, .int .i64 zeroF.to, .string zeroF.bytes] 43))
      have f : Blk ((w1.alloc (.cells #[.int .i64 n.next, .slice A1 m1 c1] 29)).alloc (.cells #[.int .i64 zeroF.id, .int .i64 zeroF.to, .string zeroF.bytes] 43)) (w1.heap.size + 1) 43 [.int .i64 zeroF.id, .int .i64 zeroF.to, .string zeroF.bytes] := (Blk.new (w1.alloc (.cells #[.int .i64 n.next, .slice A1 m1 c1] 29)) #[.int .i64 zeroF.id, .int .i64 zeroF.to, .string zeroF.bytes] 43 (by first | rfl | simp))
      replace x := x.ext hW1
      replace y := y.ext hW1
      have hX2 := hX1.trans hW1
      have hlx := x.lt
      have hly := y.lt
      obtain ⟨x_p0, x_f0⟩ := x.at 0 _ rfl
      obtain ⟨x_p1, x_f1⟩ := x.at 1 _ rfl
      obtain ⟨y_p0, y_f0⟩ := y.at 0 _ rfl
      obtain ⟨y_p1, y_f1⟩ := y.at 1 _ rfl
      obtain ⟨q_p0, q_f0⟩ := q.at 0 _ rfl
      obtain ⟨q_p1, q_f1⟩ := q.at 1 _ rfl
      obtain ⟨f_p0, f_f0⟩ := f.at 0 _ rfl
      obtain ⟨f_p1, f_f1⟩ := f.at 1 _ rfl
      obtain ⟨f_p2, f_f2⟩ := f.at 2 _ rfl
      go_upto_region 2 with (fail)
      clear hW1
      generalize ((w1.alloc (.cells #[.int .i64 n.next, .slice A1 m1 c1] 29)).alloc (.cells #[.int .i64 zeroF.id, .int .i64 zeroF.to, .string zeroF.bytes] 43)) = W1 at *
      go_wp2_with fail
      refine (l5Copy_s _ n _ B (by exact hr0.keep (keepE' hX2 hB)) (by omega) (by rw [Hl.out]; omega)).mono ?_
      rintro e w2 ⟨v2, rfl, o2, hE2⟩
      obtain ⟨u2, rfl, k2⟩ := o2
      obtain ⟨A2, m2, c2, hv2, -⟩ := id k2
      subst hv2
      have hz2' := hE2.size
      have hX3 := hX2.trans hE2
      clear x_p0 x_f0 x_p1 x_f1 y_p0 y_f0 y_p1 y_f1 q_p0 q_f0 q_p1 q_f1 f_p0 f_f0 f_p1 f_f1 f_p2 f_f2
      replace x := x.ext hE2
      replace y := y.ext hE2
      clear hE2 q f
      have hW3 : Ext w2 (w2.alloc (.cells #[.int .i64 n.next, .slice A2 m2 c2] 29)) := by repeat' (first | with_reducible exact Ext.refl _ | with_reducible assumption | with_reducible refine Ext.set ?_ ?_ _ _ | with_reducible refine Ext.alloc ?_ _ | with_reducible refine Ext.drew ?_ | with_reducible refine Ext.drewN ?_ _ | with_reducible refine Ext.trans ?_ (by with_reducible assumption) | omega | (simp; done) | (simp; omega))
      have zW3 : w2.heap.size + 1 ≤ (w2.alloc (.cells #[.int .i64 n.next, .slice A2 m2 c2] 29)).heap.size := by simp
      have q : Blk (w2.alloc (.cells #[.int .i64 n.next, .slice A2 m2 c2] 29)) w2.heap.size 29 [.int .i64 n.next, .slice A2 m2 c2] := (Blk.new w2 #[.int .i64 n.next, .slice A2 m2 c2] 29 (by first | rfl | simp))
      replace x := x.ext hW3
      replace y := y.ext hW3
      replace k2 := k2.keep (keepE hW3 (Nat.le_refl _))
      have hX4 := hX3.trans hW3
      obtain ⟨x_p0, x_f0⟩ := x.at 0 _ rfl
      obtain ⟨x_p1, x_f1⟩ := x.at 1 _ rfl
      obtain ⟨y_p0, y_f0⟩ := y.at 0 _ rfl
      obtain ⟨y_p1, y_f1⟩ := y.at 1 _ rfl
      obtain ⟨q_p0, q_f0⟩ := q.at 0 _ rfl
      obtain ⟨q_p1, q_f1⟩ := q.at 1 _ rfl
      go_upto_region 5 with (fail)
      clear hW3
      generalize (w2.alloc (.cells #[.int .i64 n.next, .slice A2 m2 c2] 29)) = W3 at *
      go_wp2
      exact bodyPost_ret (v := .tuple #[.agg #[.int .i64 n.next, .slice A2 m2 c2], .int .i64 2]) (by simp [results, Try.results28, go_sem, y_p0, y_p1]) rfl ⟨_, rfl, ⟨_, rfl, (O_FlightS.keep k2 (show Kp _ _ _ _ by repeat' (first | with_reducible exact Kp.refl _ _ _ | with_reducible assumption | with_reducible refine Kp.set ?_ ?_ _ _ | with_reducible refine Kp.alloc ?_ ?_ _ | with_reducible refine Kp.drew ?_ | with_reducible refine Kp.drewN ?_ _ | with_reducible refine Kp.ext ?_ ?_ (by with_reducible assumption) | with_reducible refine Kp.fr ?_ ?_ ?_ (by with_reducible assumption) | omega | (simp; done) | (simp; omega)))).wide (by omega) (by first | (simp; done) | (simp; omega))⟩, by repeat' (first | with_reducible exact Ext.refl _ | with_reducible assumption | with_reducible refine Ext.set ?_ ?_ _ _ | with_reducible refine Ext.alloc ?_ _ | with_reducible refine Ext.drew ?_ | with_reducible refine Ext.drewN ?_ _ | with_reducible refine Ext.trans ?_ (by with_reducible assumption) | omega | (simp; done) | (simp; omega))⟩
    | some fl =>
      obtain ⟨k, hk0, hk, hfl⟩ := flAt_some hfa
      subst hk0
      have hsize := (flB_size (netOk_at hok hfl).1).1
      rw [netTake_in hok hfa] at htk
      dsimp only at htk
      obtain ⟨z, hz⟩ : ∃ z, fl.bytes.size = z := ⟨_, rfl⟩
      rw [hz] at hsize
      have Hz := Lib.hid hz
      have Hok := Lib.hid hok
      have Hfa := Lib.hid hfa
      have Hfl := Lib.hid hfl
      rw [Hl.out] at hk
      have hk1 : (k : Int) < (m : Int) := by omega
      clear hz hok hfa hfl
      go_enter Try.func28, Try.ntmps28
      go_wp2_with fail
      generalize ((w.alloc (.cells #[.int .i64 n.next, .slice A m c] 29)).alloc (.cells #[.int .i64 0, .slice none 0 0] 29)) = W0 at *
      refine (htk _ (by exact hr0.keep (keepE' hW0 hB)) (by omega)).mono ?_
      rintro e w1 ⟨v1, rfl, o1, hE1⟩
      obtain ⟨u1, rfl, k1⟩ := o1
      obtain ⟨A1, m1, c1, hv1, -⟩ := id k1
      subst hv1
      have hX1 := hW0.trans hE1
      have hz1' := hE1.size
      replace x := x.ext hE1
      replace y := y.ext hE1
      clear hE1 hW0 htk k1
      have hW1 : Ext w1 ((w1.alloc (.cells #[.int .i64 n.next, .slice A1 m1 c1] 29)).alloc (.cells #[.int .i64 fl.id, .int .i64 fl.to, .string fl.bytes] 43)) := by repeat' (first | with_reducible exact Ext.refl _ | with_reducible assumption | with_reducible refine Ext.set ?_ ?_ _ _ | with_reducible refine Ext.alloc ?_ _ | with_reducible refine Ext.drew ?_ | with_reducible refine Ext.drewN ?_ _ | with_reducible refine Ext.trans ?_ (by with_reducible assumption) | omega | (simp; done) | (simp; omega))
      have zW1 : w1.heap.size + 2 ≤ ((w1.alloc (.cells #[.int .i64 n.next, .slice A1 m1 c1] 29)).alloc (.cells #[.int .i64 fl.id, .int .i64 fl.to, .string fl.bytes] 43)).heap.size := by simp
      have q1 : Blk ((w1.alloc (.cells #[.int .i64 n.next, .slice A1 m1 c1] 29)).alloc (.cells #[.int .i64 fl.id, .int .i64 fl.to, .string fl.bytes] 43)) w1.heap.size 29 [.int .i64 n.next, .slice A1 m1 c1] := ((Blk.new w1 #[.int .i64 n.next, .slice A1 m1 c1] 29 (by first | rfl | simp)).alloc (.cells #[.int .i64 fl.id, .int .i64 fl.to, .string fl.bytes] 43))
      have f : Blk ((w1.alloc (.cells #[.int .i64 n.next, .slice A1 m1 c1] 29)).alloc (.cells #[.int .i64 fl.id, .int .i64 fl.to, .string fl.bytes] 43)) (w1.heap.size + 1) 43 [.int .i64 fl.id, .int .i64 fl.to, .string fl.bytes] := (Blk.new (w1.alloc (.cells #[.int .i64 n.next, .slice A1 m1 c1] 29)) #[.int .i64 fl.id, .int .i64 fl.to, .string fl.bytes] 43 (by first | rfl | simp))
      replace x := x.ext hW1
      replace y := y.ext hW1
      have hX2 := hX1.trans hW1
      have hlx := x.lt
      have hly := y.lt
      obtain ⟨x_p0, x_f0⟩ := x.at 0 _ rfl
      obtain ⟨x_p1, x_f1⟩ := x.at 1 _ rfl
      obtain ⟨y_p0, y_f0⟩ := y.at 0 _ rfl
      obtain ⟨y_p1, y_f1⟩ := y.at 1 _ rfl
      obtain ⟨q1_p0, q1_f0⟩ := q1.at 0 _ rfl
      obtain ⟨q1_p1, q1_f1⟩ := q1.at 1 _ rfl
      obtain ⟨f_p0, f_f0⟩ := f.at 0 _ rfl
      obtain ⟨f_p1, f_f1⟩ := f.at 1 _ rfl
      obtain ⟨f_p2, f_f2⟩ := f.at 2 _ rfl
      go_upto_region 2 with (fail)
      clear hW1
      generalize ((w1.alloc (.cells #[.int .i64 n.next, .slice A1 m1 c1] 29)).alloc (.cells #[.int .i64 fl.id, .int .i64 fl.to, .string fl.bytes] 43)) = W1 at *
      go_wp2_with fail
      refine (l5Copy_s _ n _ B (by exact hr0.keep (keepE' hX2 hB)) (by omega) (by rw [Hl.out]; omega)).mono ?_
      rintro e w2 ⟨v2, rfl, o2, hE2⟩
      obtain ⟨u2, rfl, k2⟩ := o2
      obtain ⟨A2, m2, c2, hv2, hl2, ow2⟩ := k2
      subst hv2
      have hmm : m = m2 := by rw [← Hl.out]; exact hl2
      subst hmm
      clear hl2
      have hz2' := hE2.size
      have hX3 := hX2.trans hE2
      clear x_p0 x_f0 x_p1 x_f1 y_p0 y_f0 y_p1 y_f1 q1_p0 q1_f0 q1_p1 q1_f1 f_p0 f_f0 f_p1 f_f1 f_p2 f_f2
      replace x := x.ext hE2
      replace y := y.ext hE2
      replace f := f.ext hE2
      clear hE2 q1
      have hW3 : Ext w2 (w2.alloc (.cells #[.int .i64 n.next, .slice A2 m c2] 29)) := by repeat' (first | with_reducible exact Ext.refl _ | with_reducible assumption | with_reducible refine Ext.set ?_ ?_ _ _ | with_reducible refine Ext.alloc ?_ _ | with_reducible refine Ext.drew ?_ | with_reducible refine Ext.drewN ?_ _ | with_reducible refine Ext.trans ?_ (by with_reducible assumption) | omega | (simp; done) | (simp; omega))
      have zW3 : w2.heap.size + 1 ≤ (w2.alloc (.cells #[.int .i64 n.next, .slice A2 m c2] 29)).heap.size := by simp
      have q : Blk (w2.alloc (.cells #[.int .i64 n.next, .slice A2 m c2] 29)) w2.heap.size 29 [.int .i64 n.next, .slice A2 m c2] := (Blk.new w2 #[.int .i64 n.next, .slice A2 m c2] 29 (by first | rfl | simp))
      replace x := x.ext hW3
      replace y := y.ext hW3
      replace f := f.ext hW3
      replace ow2 := hW3.own ow2 (Nat.le_refl _)
      replace hX3 := hX3.trans hW3
      obtain ⟨x_p0, x_f0⟩ := x.at 0 _ rfl
      obtain ⟨x_p1, x_f1⟩ := x.at 1 _ rfl
      obtain ⟨y_p0, y_f0⟩ := y.at 0 _ rfl
      obtain ⟨y_p1, y_f1⟩ := y.at 1 _ rfl
      obtain ⟨q_p0, q_f0⟩ := q.at 0 _ rfl
      obtain ⟨q_p1, q_f1⟩ := q.at 1 _ rfl
      obtain ⟨f_p0, f_f0⟩ := f.at 0 _ rfl
      obtain ⟨f_p1, f_f1⟩ := f.at 1 _ rfl
      obtain ⟨f_p2, f_f2⟩ := f.at 2 _ rfl
      go_upto_region 5 with (fail)
      clear hW3
      generalize (w2.alloc (.cells #[.int .i64 n.next, .slice A2 m c2] 29)) = W3 at *
      have hlx := x.lt
      have hly := y.lt
      have hlq := q.lt
      have hlf := f.lt
      by_cases hbit : 0 ≤ bit ∧ bit < 8 * (z : Int)
      · obtain ⟨t, ht0, ht⟩ : ∃ t : Nat, t = bit ∧ t < 8 * z := ⟨bit.toNat, by omega, by omega⟩
        clear hbit
        subst ht0
        have hf : Hid (netSpoil n (k : Int) (t : Int) = (⟨n.next, n.list.set k (spoil fl t)⟩, 0)) := by show _ = _; exact netSpoil_in Hok.out Hfa.out (by rw [Hz.out]; exact ht)
        have d1 : decide ((t : Int) < 0) = false := by simp
        have d2 : decide ((fl.bytes.size : Int) ≤ (t : Int) / 8) = false := by rw [Hz.out]; simp; omega
        have d3 : decide ((fl.bytes.size : Int) ≤ (t : Int).tdiv 8) = false := by rw [Hz.out, Int.tdiv_eq_ediv_of_nonneg (by omega)]; simp; omega
        go_upto_region 7 with (fail)
        clear d1 d2 d3
        have hkb0 : ∃ kb, t / 8 = kb := ⟨_, rfl⟩
        obtain ⟨kb, hkb⟩ := hkb0
        obtain ⟨mb, hmb⟩ : ∃ mb, t % 8 = mb := ⟨_, rfl⟩
        have hkz : kb < z := by omega
        have hmb7 : mb ≤ 7 := by omega
        have hkz2 : (kb : Int) < (z : Int) := by omega
        have a1 : (t : Int).tdiv 8 = (kb : Int) := by rw [Int.tdiv_eq_ediv_of_nonneg (by omega)]; omega
        have a2 : (t : Int) / 8 = (kb : Int) := by omega
        have a3 : (t : Int).tmod 8 = (mb : Int) := by rw [Int.tmod_eq_emod_of_nonneg (by omega)]; omega
        have a4 : (t : Int) % 8 = (mb : Int) := by omega
        obtain ⟨y0, hy0⟩ : ∃ y0, fl.bytes.data.toList.getD kb 0 = y0 := ⟨_, rfl⟩
        obtain ⟨y1, hy1⟩ : ∃ y1, y0 ^^^ UInt8.ofNat (2 ^ mb) = y1 := ⟨_, rfl⟩
        have hflip : Hid ((⟨(fl.bytes.data.toList.set kb y1).toArray⟩ : ByteArray) = flipB fl.bytes t) := by show _ = _; unfold flipB; rw [hkb, hmb, hy0, hy1]
        have hxor := xor_bit2 y0 mb hmb7
        rw [hy1] at hxor
        have hwk : IntKind.i64.wrap (kb : Int) = (kb : Int) := IntWalk.i64_in _ (by omega)
        have hwm : IntKind.i64.wrap (mb : Int) = (mb : Int) := IntWalk.i64_in _ (by omega)
        clear hmb hy1 hmb7 hkb
        obtain ⟨cp, hcp⟩ : ∃ cp, grownCap W3 fl.bytes.size 0 5 = cp := ⟨_, rfl⟩
        have hcv := run_bytes_of_string (P := Try.prog) W3 9 50 5 fl.bytes Try.underlying9 Try.underlying50 Try.underlying5
        rw [hcp] at hcv
        have hE5 : Ext W3 (W3.drew.alloc (.cells (bytesRow fl.bytes cp) 5 ((bytesRow fl.bytes cp).size, (bytesRow fl.bytes cp).size + 1))) := ((Ext.refl _).drew).alloc _
        have hcell : Hid (∀ j, j < z → (W3.drew.alloc (.cells (bytesRow fl.bytes cp) 5 ((bytesRow fl.bytes cp).size, (bytesRow fl.bytes cp).size + 1))).cell? ⟨W3.heap.size, j, none⟩ = some (.int .u8 ((fl.bytes.data.toList.getD j 0).toNat : Int))) := fun j hj => bytes_cell W3 _ _ cp _ j (by rw [Hz.out]; exact hj)
        have hyf := bytes_free W3 5 fl.bytes cp kb (by rw [Hz.out]; exact hkz)
        have hsz5 : (W3.drew.alloc (.cells (bytesRow fl.bytes cp) 5 ((bytesRow fl.bytes cp).size, (bytesRow fl.bytes cp).size + 1))).heap.size = W3.heap.size + 1 := by simp
        generalize (W3.drew.alloc (.cells (bytesRow fl.bytes cp) 5 ((bytesRow fl.bytes cp).size, (bytesRow fl.bytes cp).size + 1))) = W5 at *
        rw [Hz.out] at hcv
        clear hcp
        have hyc := hcell.out kb hkz
        rw [hy0] at hyc
        have hz5 : W3.heap.size < W5.heap.size := by omega
        clear hsz5 hy0
        have Hzz := Lib.hid hz5
        go_upto_region 8 with (fail)
        clear hcv
        clear x_p0 x_f0 x_p1 x_f1 y_p0 y_f0 y_p1 y_f1 q_p0 q_f0 q_p1 q_f1 f_p0 f_f0 f_p1 f_f1 f_p2 f_f2
        replace x := x.ext hE5
        replace y := y.ext hE5
        replace q := q.ext hE5
        replace f := f.ext hE5
        obtain ⟨x_p0, x_f0⟩ := x.at 0 _ rfl
        obtain ⟨x_p1, x_f1⟩ := x.at 1 _ rfl
        obtain ⟨y_p0, y_f0⟩ := y.at 0 _ rfl
        obtain ⟨y_p1, y_f1⟩ := y.at 1 _ rfl
        obtain ⟨q_p0, q_f0⟩ := q.at 0 _ rfl
        obtain ⟨q_p1, q_f1⟩ := q.at 1 _ rfl
        obtain ⟨f_p0, f_f0⟩ := f.at 0 _ rfl
        obtain ⟨f_p1, f_f1⟩ := f.at 1 _ rfl
        obtain ⟨f_p2, f_f2⟩ := f.at 2 _ rfl
        replace ow2 := hE5.own ow2 (by omega)
        have hX5 := hX3.trans hE5
        clear hE5
        go_still_tail 13, (by kernel_rfl)
        repeat still_step
        change wpList _ _ _ _ _ W5.drew
        have hcell2 : Hid (∀ j, j < z → W5.drew.cell? ⟨W3.heap.size, j, none⟩ = some (.int .u8 ((fl.bytes.data.toList.getD j 0).toNat : Int))) := hcell.out
        replace hyc : W5.drew.cell? ⟨W3.heap.size, kb, none⟩ = some (.int .u8 (y0.toNat : Int)) := hyc
        replace hyf : W5.drew.frozen? ⟨W3.heap.size, kb, none⟩ = false := hyf
        replace ow2 := (show Own W5.drew _ _ _ _ _ _ _ from ow2)
        replace hX5 := hX5.drew
        have hz7 : W5.heap.size ≤ W5.drew.heap.size := Nat.le_refl _
        clear x_p0 x_f0 x_p1 x_f1 y_p0 y_f0 y_p1 y_f1 q_p0 q_f0 q_p1 q_f1 f_p0 f_f0 f_p1 f_f1 f_p2 f_f2
        replace x := x.drew
        replace y := y.drew
        replace q := q.drew
        replace f := f.drew
        obtain ⟨x_p0, x_f0⟩ := x.at 0 _ rfl
        obtain ⟨x_p1, x_f1⟩ := x.at 1 _ rfl
        obtain ⟨y_p0, y_f0⟩ := y.at 0 _ rfl
        obtain ⟨y_p1, y_f1⟩ := y.at 1 _ rfl
        obtain ⟨q_p0, q_f0⟩ := q.at 0 _ rfl
        obtain ⟨q_p1, q_f1⟩ := q.at 1 _ rfl
        obtain ⟨f_p0, f_f0⟩ := f.at 0 _ rfl
        obtain ⟨f_p1, f_f1⟩ := f.at 1 _ rfl
        obtain ⟨f_p2, f_f2⟩ := f.at 2 _ rfl
        clear hcell
        generalize W5.drew = W7 at *
        go_upto_region 9 with (fail)
        rw [hxor]
        have hE8 : Ext w (W7.setCell ⟨W3.heap.size, kb, none⟩ (.int .u8 (y1.toNat : Int))) := hX5.set (by omega) _ _
        have hF8 : Kp 0 W3.heap.size W7 (W7.setCell ⟨W3.heap.size, kb, none⟩ (.int .u8 (y1.toNat : Int))) := (show Kp _ _ _ _ by repeat' (first | with_reducible exact Kp.refl _ _ _ | with_reducible assumption | with_reducible refine Kp.set ?_ ?_ _ _ | with_reducible refine Kp.alloc ?_ ?_ _ | with_reducible refine Kp.drew ?_ | with_reducible refine Kp.drewN ?_ _ | with_reducible refine Kp.ext ?_ ?_ (by with_reducible assumption) | with_reducible refine Kp.fr ?_ ?_ ?_ (by with_reducible assumption) | omega | (simp; done) | (simp; omega)))
        have hz8 : W7.heap.size ≤ (W7.setCell ⟨W3.heap.size, kb, none⟩ (.int .u8 (y1.toNat : Int))).heap.size := by simp
        have hall : Hid (∀ j (hj : j < (fl.bytes.data.toList.set kb y1).length), (W7.setCell ⟨W3.heap.size, kb, none⟩ (.int .u8 (y1.toNat : Int))).cell? ((⟨W3.heap.size, 0, none⟩ : Addr).add j) = some (.int .u8 (((fl.bytes.data.toList.set kb y1)[j]).toNat : Int))) := by
          intro j hj
          rw [addr_add, Nat.zero_add]
          have hj2 : j < z := by rw [← Hz.out]; simpa using hj
          by_cases hjk : j = kb
          · subst hjk
            rw [World.cell?_setCell_same _ _ _ hyc]
            simp
          · rw [World.cell?_setCell_other _ _ _ _ (by intro h; injection h with _ h; exact hjk h.symm), hcell2.out j hj2, List.getElem_set_ne (fun h => hjk h.symm), List.getD_eq_getElem?_getD, List.getElem?_eq_getElem (by simpa using hj)]
            rfl
        clear hcell2 hyc hyf hxor
        clear x_p0 x_f0 x_p1 x_f1 y_p0 y_f0 y_p1 y_f1 q_p0 q_f0 q_p1 q_f1 f_p0 f_f0 f_p1 f_f1 f_p2 f_f2
        replace x := x.kp hF8 (by omega) (by omega)
        replace y := y.kp hF8 (by omega) (by omega)
        replace q := q.kp hF8 (by omega) (by omega)
        replace f := f.kp hF8 (by omega) (by omega)
        replace ow2 := Own.keep ow2 (fun k h1 h2 => hF8 k (by omega) (by omega))
        generalize W7.setCell ⟨W3.heap.size, kb, none⟩ (.int .u8 (y1.toNat : Int)) = W8 at *
        clear hF8 hX5
        have hback := run_convert_bytes_back (P := Try.prog) W8 50 9 5 ⟨W3.heap.size, 0, none⟩ cp (fl.bytes.data.toList.set kb y1) Try.underlying50 Try.underlying5 Try.underlying9 hall.out
        rw [hflip.out, show (fl.bytes.data.toList.set kb y1).length = z from by rw [List.length_set]; exact Hz.out] at hback
        clear hall
        obtain ⟨g, cap, hv, hg1, hg2, hnc, -⟩ := ow2.row (by omega)
        injection hv with hA _ hcap
        subst hA hcap
        obtain ⟨⟨u0, hs0⟩, hf0⟩ := ow2.spot (j := k * 3 + 2) (by omega)
        have o4 := ow2.set (by omega) (k * 3 + 2) (.string (flipB fl.bytes t))
        have hls : Hid ((n.list.flatMap eFlight).set (k * 3 + 2) (.string (flipB fl.bytes t)) = (n.list.set k (spoil fl t)).flatMap eFlight) :=
          flat_set eFlight_len (by omega) Hfl.out (by omega) (by simp [eFlight, spoil])
        rw [hls.out] at o4
        have k9 : O_FlightS (W8.setCell ⟨g, k * 3 + 2, none⟩ (.string (flipB fl.bytes t))) _ _ _ (n.list.set k (spoil fl t)) := OwnS.of o4 (by rw [List.length_set]; exact Hl.out)
        have hX9 : Ext w (W8.setCell ⟨g, k * 3 + 2, none⟩ (.string (flipB fl.bytes t))) := hE8.set (by omega) _ _
        have n1 : ¬ g = w.heap.size := by omega
        have n2 : ¬ g = w.heap.size + 1 := by omega
        have n3 : ¬ g = w2.heap.size := by omega
        clear ow2 o4 hls
        generalize flipB fl.bytes t = s9 at *
        obtain ⟨x_p0, x_f0⟩ := x.at 0 _ rfl
        obtain ⟨x_p1, x_f1⟩ := x.at 1 _ rfl
        obtain ⟨y_p0, y_f0⟩ := y.at 0 _ rfl
        obtain ⟨y_p1, y_f1⟩ := y.at 1 _ rfl
        obtain ⟨q_p0, q_f0⟩ := q.at 0 _ rfl
        obtain ⟨q_p1, q_f1⟩ := q.at 1 _ rfl
        obtain ⟨f_p0, f_f0⟩ := f.at 0 _ rfl
        obtain ⟨f_p1, f_f1⟩ := f.at 1 _ rfl
        obtain ⟨f_p2, f_f2⟩ := f.at 2 _ rfl
        go_wp2
        rw [hf.out]
        dsimp only
        exact bodyPost_ret (v := .tuple #[.agg #[.int .i64 n.next, .slice (some ⟨g, 0, none⟩) m c2], .int .i64 0]) (by simp [results, Try.results28, go_sem, y_p0, y_p1]) rfl ⟨_, rfl, ⟨_, rfl, (O_FlightS.keep k9 (show Kp _ _ _ _ by repeat' (first | with_reducible exact Kp.refl _ _ _ | with_reducible assumption | with_reducible refine Kp.set ?_ ?_ _ _ | with_reducible refine Kp.alloc ?_ ?_ _ | with_reducible refine Kp.drew ?_ | with_reducible refine Kp.drewN ?_ _ | with_reducible refine Kp.ext ?_ ?_ (by with_reducible assumption) | with_reducible refine Kp.fr ?_ ?_ ?_ (by with_reducible assumption) | omega | (simp; done) | (simp; omega)))).wide (by first | omega | (simp; omega)) (by first | (simp; done) | (simp; omega))⟩, by repeat' (first | with_reducible exact Ext.refl _ | with_reducible assumption | with_reducible refine Ext.set ?_ ?_ _ _ | with_reducible refine Ext.alloc ?_ _ | with_reducible refine Ext.drew ?_ | with_reducible refine Ext.drewN ?_ _ | with_reducible refine Ext.trans ?_ (by with_reducible assumption) | omega | (simp; done) | (simp; omega))⟩
      · have hf : Hid (netSpoil n (k : Int) bit = (n, 2)) := by show _ = _; exact netSpoil_out Hok.out Hfa.out (by rw [Hz.out]; exact hbit)
        have hw : decide (bit < 0) = true ∨ decide (bit < 0) = false ∧ 0 ≤ bit ∧ decide ((fl.bytes.size : Int) ≤ bit / 8) = true ∧ decide ((fl.bytes.size : Int) ≤ bit.tdiv 8) = true ∧ decide ((fl.bytes.size : Int) ≤ wrap64 (bit.tdiv 8)) = true := by
          by_cases h : bit < 0
          · exact .inl (by simpa using h)
          · exact .inr ⟨by simpa using h, by omega, by rw [Hz.out]; simp; omega, by rw [Hz.out, Int.tdiv_eq_ediv_of_nonneg (by omega)]; simp; omega, by rw [Hz.out, Int.tdiv_eq_ediv_of_nonneg (by omega), IntWalk.wrap64_in _ (by omega)]; simp; omega⟩
        clear hbit hbf
        rcases hw with d1 | ⟨d1, d4, d2, d3, d5⟩
        all_goals
          go_wp2
          rw [hf.out]
          exact bodyPost_ret (v := .tuple #[.agg #[.int .i64 n.next, .slice A2 m c2], .int .i64 2]) (by simp [results, Try.results28, go_sem, y_p0, y_p1]) rfl ⟨_, rfl, ⟨_, rfl, (O_FlightS.keep (OwnS.of ow2 Hl.out) (show Kp _ _ _ _ by repeat' (first | with_reducible exact Kp.refl _ _ _ | with_reducible assumption | with_reducible refine Kp.set ?_ ?_ _ _ | with_reducible refine Kp.alloc ?_ ?_ _ | with_reducible refine Kp.drew ?_ | with_reducible refine Kp.drewN ?_ _ | with_reducible refine Kp.ext ?_ ?_ (by with_reducible assumption) | with_reducible refine Kp.fr ?_ ?_ ?_ (by with_reducible assumption) | omega | (simp; done) | (simp; omega)))).wide (by omega) (by first | (simp; done) | (simp; omega))⟩, by repeat' (first | with_reducible exact Ext.refl _ | with_reducible assumption | with_reducible refine Ext.set ?_ ?_ _ _ | with_reducible refine Ext.alloc ?_ _ | with_reducible refine Ext.drew ?_ | with_reducible refine Ext.drewN ?_ _ | with_reducible refine Ext.trans ?_ (by with_reducible assumption) | omega | (simp; done) | (simp; omega))⟩

end Go.Proofs.Ytllljddojncemaa
