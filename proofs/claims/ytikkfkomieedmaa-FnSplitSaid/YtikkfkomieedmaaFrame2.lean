/-
  Frame, the program's and the reference's, walked.
-/
import Derived.Test.YtikkfkomieedmaaFrame
import Derived.Test.YtikkfkomieedmaaMath2
namespace Go.Proofs.Ytikkfkomieedmaa
open Go.RowKit

def frameL (l : List UInt8) : List UInt8 := if l.length ≤ 4000 then frame l else []
theorem frameL_ok {l : List UInt8} (h : l.length ≤ 4000) : frameL l = frame l := if_pos h
theorem frameL_no {l : List UInt8} (h : ¬ l.length ≤ 4000) : frameL l = [] := if_neg h
theorem frameL_len (l : List UInt8) : (frameL l).length ≤ 5000 := by
  unfold frameL
  split
  · rename_i h
    have := frame_length_le h
    omega
  · simp
theorem le4_cells {n : Nat} (h : n < 4294967296) : (le4 n).flatMap eB = [.int .u8 ((n : Int) % 256), .int .u8 ((n : Int) / 256 % 256), .int .u8 ((n : Int) / 65536 % 256), .int .u8 ((n : Int) / 16777216)] := by
  simp [le4, eB, UInt8.toNat_ofNat']
  omega
theorem rd_four (w : World) (e : TypeId) (a b c d : Value) : Rd (w.alloc (.cells #[a, b, c, d] e)) (w.heap.size + 1) 1 (some ⟨w.heap.size, 0, none⟩) 4 [a, b, c, d] :=
  (own_made w #[a, b, c, d] 4 e 1 (by unfold maxLen; omega) rfl).rd.2.2.2
theorem rd_three (w : World) (o : Obj) (e : TypeId) (a b c : Value) : Rd ((w.alloc o).alloc (.cells #[a, b, c] e)) (w.heap.size + 2) 1 (some ⟨w.heap.size + 1, 0, none⟩) 3 [a, b, c] := by
  have h := (own_made (w.alloc o) #[a, b, c] 3 e 1 (by unfold maxLen; omega) rfl).rd.2.2.2
  simpa using h
theorem putNumI_nat (n : Nat) : putNumI (n : Int) = putNum n := by
  unfold putNumI
  rw [if_neg (by omega), Int.toNat_natCast]

set_option maxRecDepth 100000 in
set_option maxHeartbeats 1000000 in
theorem frame_s (v : Value) (l : List UInt8) (w : World) (B : Nat) (hr : R_ByteS w B v l) (hB : B ≤ w.heap.size) (hn : l.length ≤ 4611686018427387904) :
    Calls Try.prog 33 #[v] w fun e w' => ∃ v', e = .returned (.tuple #[v', .bool (decide (l.length ≤ 4000))]) ∧ O_ByteS w' w.heap.size w'.heap.size v' (frameL l) ∧ Ext w w' := by
  obtain ⟨A, n, c, rfl, hl, hnc, hcm, hr⟩ := hr
  obtain ⟨i0, hi0, hz0, hz1, hz2⟩ := info_parts info_Byte
  by_cases hm : n ≤ 4000
  · rw [hl, frameL_ok (by omega), show decide (n ≤ 4000) = true from by simp [hm]]
    have Hl := Lib.hid hl
    clear hl hn
    have h1 : decide (4000 < n) = false := by simp; omega
    have h2 : decide ((4000 : Int) < n) = false := by simp; omega
    go_enter Try.func33, Try.ntmps33
    go_wp2_with fail
    refine (crc_s _ _ _ l _ _ hr Hl.out (by omega)).mono ?_
    rintro e w1 ⟨rfl, hs1⟩
    have hE1 := hs1.ext
    have z1 := hE1.size
    go_wp2_with fail
    refine (putNum_s _ _ (by omega)).mono ?_
    rintro e w2 ⟨A2, n2, c2, rfl, hl2, o2, hE2⟩
    have z2 := hE2.size
    have hE2' := hE1.trans hE2
    have hn2 : n2 ≤ 9 := by have := putNumI_len9' (n : Int) (by omega); omega
    go_wp2_with (at_builtin; refine wpList_app _ rfl _ _ 22 rfl 5 i0 _ 1 1 Try.underlying22 hi0 hz0 hz1 hz2 rfl (by omega) w1.heap.size w2.heap.size (.slice A2 n2 c2) n2 ((putNumI (n : Int)).flatMap eB) rfl o2 (by omega) (by omega) B A n c (l.flatMap eB) rfl (hE2'.rd hr hB) (oneCell_B _) (by unfold maxLen; omega) (by omega) ?_)
    intro A3 c3 w3 o3 hb3
    have h32 : crc l < 4294967296 := crc_lt l
    have hE3 : Ext w w3 := hE2'.grown hb3 (fun g h => by have := (o2.lt g h).1; omega)
    have z3 := hE3.size
    have z4 := hb3.size
    clear o2 hb3
    go_wp2_with (at_builtin; refine wpList_app _ rfl _ _ 22 rfl 5 i0 _ 1 1 Try.underlying22 hi0 hz0 hz1 hz2 rfl (by omega) w1.heap.size w3.heap.size (.slice A3 (n2 + n) c3) (n2 + n) ((putNumI (n : Int)).flatMap eB ++ l.flatMap eB) rfl (((Ext.refl w3).alloc _).own (hi := w3.heap.size) o3 (by omega)) (by simp; omega) (by simp) (w3.heap.size + 1) (some ⟨w3.heap.size, 0, none⟩) 4 4 _ rfl (rd_four _ _ _ _ _ _) (by rw [← le4_cells h32]; exact oneCell_B _) (by unfold maxLen; omega) (by omega) ?_)
    intro A4 c4 w4 o4 hb4
    have hE4 : Ext w w4 := (hE3.alloc _).grown hb4 (fun g h => by have := (o3.lt g h).1; omega)
    go_wp2
    go_ret2
    have hfr : frame l = putNumI (n : Int) ++ l ++ le4 (crc l) := by rw [putNumI_nat, frame, Hl.out]
    rw [hfr]
    refine ⟨_, rfl, OwnS.of (A := A4) (n := n2 + n + 4) (c := c4) ?_ ?_, hE4⟩
    · rw [List.flatMap_append, List.flatMap_append, le4_cells h32, List.append_assoc]
      exact o4.wide (by omega) (Nat.le_refl _)
    · rw [List.length_append, List.length_append, hl2, Hl.out, le4_length]
  · rw [hl, frameL_no (by omega), show decide (n ≤ 4000) = false from by simp [hm]]
    clear hl hn
    have h1 : decide (4000 < n) = true := by simp; omega
    have h2 : decide ((4000 : Int) < n) = true := by simp; omega
    go_enter Try.func33, Try.ntmps33
    go_wp2
    go_ret2
    exact ⟨_, rfl, OwnS.nil _, by repeat' (first | with_reducible exact Ext.refl _ | with_reducible assumption | with_reducible refine Ext.set ?_ ?_ _ _ | with_reducible refine Ext.alloc ?_ _ | with_reducible refine Ext.drew ?_ | with_reducible refine Ext.drewN ?_ _ | with_reducible refine Ext.trans ?_ (by with_reducible assumption) | omega | (simp; done) | (simp; omega))⟩

set_option maxRecDepth 100000 in
set_option maxHeartbeats 1000000 in
theorem frame_i (v : Value) (l : List UInt8) (w : World) (B : Nat) (hr : R_ByteS w B v l) (hB : B ≤ w.heap.size) (hn : l.length ≤ 4611686018427387904) :
    Calls Try.prog 14 #[v] w fun e w' => ∃ v', e = .returned (.tuple #[v', .bool (decide (l.length ≤ 4000))]) ∧ O_ByteS w' w.heap.size w'.heap.size v' (frameL l) ∧ Ext w w' := by
  obtain ⟨A, n, c, rfl, hl, hnc, hcm, hr⟩ := hr
  obtain ⟨i0, hi0, hz0, hz1, hz2⟩ := info_parts info_Byte
  by_cases hm : n ≤ 4000
  · rw [hl, frameL_ok (by omega), show decide (n ≤ 4000) = true from by simp [hm]]
    have Hl := Lib.hid hl
    clear hl hn
    have h1 : decide (4000 < n) = false := by simp; omega
    have h2 : decide ((4000 : Int) < n) = false := by simp; omega
    go_enter Try.func14, Try.ntmps14
    go_wp2_with fail
    refine (crc_i _ _ _ l _ _ hr Hl.out (by omega)).mono ?_
    rintro e w1 ⟨rfl, hs1⟩
    have hE1 := hs1.ext
    have z1 := hE1.size
    go_wp2_with fail
    refine (putNum_i _ _ (by omega)).mono ?_
    rintro e w2 ⟨A2, n2, c2, rfl, hl2, o2, hE2⟩
    have z2 := hE2.size
    have hE2' := hE1.trans hE2
    have hn2 : n2 ≤ 9 := by have := putNumI_len9' (n : Int) (by omega); omega
    have h32 : crc l < 4294967296 := crc_lt l
    have hnl : Hid ((putNumI (n : Int)).length = n2) := hl2
    have R2 : Rd w2 w2.heap.size 1 A2 n2 ((putNumI (n : Int)).flatMap eB) := o2.rd.2.2.2
    have h2a : n2 ≤ c2 := o2.rd.2.1
    have h2b : c2 ≤ maxLen := o2.rd.2.2.1
    have hrw := hE2'.rd hr hB
    clear o2 hl2
    go_wp2_with fail
    refine (concat_any _ _ _ [⟨A2, n2, c2, putNumI (n : Int)⟩, ⟨A, n, c, l⟩, ⟨some ⟨w2.heap.size, 0, none⟩, 4, 4, le4 (crc l)⟩] _ _ (rd_three _ _ _ _ _ _) rfl (by simp) ?_ (by omega) ?_).mono ?_
    · intro s hs
      have hb1 : ∀ k, k < w2.heap.size → ((w2.alloc (Obj.cells #[Value.int IntKind.u8 (↑(crc l) % 256), Value.int IntKind.u8 (↑(crc l) / 256 % 256), Value.int IntKind.u8 (↑(crc l) / 65536 % 256), Value.int IntKind.u8 (↑(crc l) / 16777216)] 5)).alloc
          (Obj.cells #[Value.slice A2 n2 c2, Value.slice A n c, Value.slice (some { block := w2.heap.size, off := 0 }) 4 4] 22)).heap[k]? = w2.heap[k]? := keepE' (((Ext.refl w2).alloc _).alloc _) (Nat.le_refl _)
      simp only [List.mem_cons, List.not_mem_nil, or_false] at hs
      rcases hs with rfl | rfl | rfl
      · exact (SlD.Good.keep ⟨hnl.out, h2a, h2b, R2⟩ hb1).more (by simp; omega)
      · exact (SlD.Good.keep ⟨Hl.out, hnc, hcm, hrw.more (by omega)⟩ hb1).more (by simp; omega)
      · refine ⟨rfl, Nat.le_refl _, by show 4 ≤ maxLen; unfold maxLen; omega, ?_⟩
        show Rd _ _ 1 _ 4 ((le4 (crc l)).flatMap eB)
        rw [le4_cells h32]
        exact ((((Ext.refl _).alloc _).rd (rd_four w2 5 _ _ _ _) (by simp))).more (by simp)
    · have := hnl.out
      have := Hl.out
      simp only [joined, List.flatMap_cons, List.flatMap_nil, List.length_append, List.length_nil, le4_length]
      omega
    rintro e w3 ⟨v3, rfl, o3, hE3⟩
    have hE4 : Ext w w3 := ((hE2'.alloc _).alloc _).trans hE3
    have z3 := hE3.size
    go_wp2
    go_ret2
    have hfr : frame l = joined [⟨A2, n2, c2, putNumI (n : Int)⟩, ⟨A, n, c, l⟩, ⟨some ⟨w2.heap.size, 0, none⟩, 4, 4, le4 (crc l)⟩] := by
      simp [joined, frame, putNumI_nat, Hl.out]
    rw [hfr]
    exact ⟨_, rfl, OwnS.wide o3 (by simp; omega) (Nat.le_refl _), hE4⟩
  · rw [hl, frameL_no (by omega), show decide (n ≤ 4000) = false from by simp [hm]]
    clear hl hn
    have h1 : decide (4000 < n) = true := by simp; omega
    have h2 : decide ((4000 : Int) < n) = true := by simp; omega
    go_enter Try.func14, Try.ntmps14
    go_wp2
    go_ret2
    exact ⟨_, rfl, OwnS.nil _, by repeat' (first | with_reducible exact Ext.refl _ | with_reducible assumption | with_reducible refine Ext.set ?_ ?_ _ _ | with_reducible refine Ext.alloc ?_ _ | with_reducible refine Ext.drew ?_ | with_reducible refine Ext.drewN ?_ _ | with_reducible refine Ext.trans ?_ (by with_reducible assumption) | omega | (simp; done) | (simp; omega))⟩

end Go.Proofs.Ytikkfkomieedmaa
