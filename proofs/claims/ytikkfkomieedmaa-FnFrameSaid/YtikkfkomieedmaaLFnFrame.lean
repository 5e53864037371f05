/-
  FnFrame returns true for every input: a framed list of drawn bytes is read as itself, also behind others, and with one bit of its bytes or its check turned it is refused.
  Conditions: none: for every argument, in whatever memory.
-/
import Derived.Test.YtikkfkomieedmaaOpen
import Derived.Test.YtikkfkomieedmaaDrawF
import Derived.Test.YtikkfkomieedmaaFrame2
import Derived.Test.YtikkfkomieedmaaUnframe2
import Derived.Test.YtikkfkomieedmaaMath2
import Derived.Laws.BytesArg
import Derived.Deep.RegionWith
import Derived.Deep.DeepCutAuto
import Derived.StillTailTactics
namespace Go.Proofs.Ytikkfkomieedmaa.fnFrame
open Go.ChangeShapes Go.WideShapes Go.ChangeAt Go.RowKit
set_option linter.unusedVariables false
set_option maxRecDepth 1000000

theorem big_any (A : Option Addr) (n c : Nat) (w : World) : Calls Try.prog 6 #[.slice A n c] w fun e w' => e = .returned (.bool (decide (1048576 < n))) ∧ w = w' := by
  by_cases h : 1048576 < n
  · have d1 : decide ((1048576 : Int) < (n : Int)) = true := by simp; omega
    have d2 : decide (1048576 < n) = true := by simp; omega
    rw [d2]
    go_enter Try.func6, Try.ntmps6
    go_wp2
    go_ret
    exact ⟨rfl, rfl⟩
  · have d1 : decide ((1048576 : Int) < (n : Int)) = false := by simp; omega
    have d2 : decide (1048576 < n) = false := by simp; omega
    rw [d2]
    go_enter Try.func6, Try.ntmps6
    go_wp2
    go_ret
    exact ⟨rfl, rfl⟩
theorem at_any (A : Option Addr) (n c : Nat) (l : List UInt8) (i : Nat) (w : World) (B : Nat) (hr : Rd w B 1 A n (l.flatMap eB)) (hl : l.length = n) (hn : n ≤ 1048576) (hi : i ≤ 100) :
    Calls Try.prog 11 #[.slice A n c, .int .i64 i] w fun e w' => ∃ x : Nat, x ≤ 255 ∧ e = .returned (.int .i64 x) ∧ w = w' := by
  by_cases h : i < n
  · obtain ⟨b, off, x, rfl, _, hx, hcx⟩ := hr.byte hl h
    have h1 : (i : Int) < (n : Int) := by omega
    have hxb := x.toNat_lt
    go_enter Try.func11, Try.ntmps11
    go_wp2
    go_ret
    exact ⟨x.toNat, by omega, rfl, rfl⟩
  · have h1 : ¬ (i : Int) < (n : Int) := by omega
    go_enter Try.func11, Try.ntmps11
    go_wp2
    go_ret
    exact ⟨(i * 7 + n) % 256, by omega, congrArg (fun z => Ending.returned (Value.int IntKind.i64 z)) (by push_cast; rfl), rfl⟩
theorem at_val (A : Option Addr) (n c : Nat) (l : List UInt8) (i : Nat) (B : Nat) (hl : l.length = n) (hn : n ≤ 1048576) (hi : i ≤ 100) :
    ∃ x : Nat, x ≤ 255 ∧ ∀ w, Rd w B 1 A n (l.flatMap eB) → Calls Try.prog 11 #[.slice A n c, .int .i64 i] w fun e w' => e = .returned (.int .i64 x) ∧ w' = w := by
  by_cases h : i < n
  · obtain ⟨x, hx⟩ := some_of_lt (l := l) (k := i) (by omega)
    have hxb := x.toNat_lt
    refine ⟨x.toNat, by omega, ?_⟩
    intro w hr
    obtain ⟨b, off, x', rfl, _, hx', hcx⟩ := hr.byte hl h
    obtain rfl : x = x' := by rw [hx] at hx'; exact Option.some.inj hx'
    have h1 : (i : Int) < (n : Int) := by omega
    go_enter Try.func11, Try.ntmps11
    go_wp2
    go_ret
    exact ⟨rfl, rfl⟩
  · have h1 : ¬ (i : Int) < (n : Int) := by omega
    refine ⟨(i * 7 + n) % 256, by omega, ?_⟩
    intro w hr
    go_enter Try.func11, Try.ntmps11
    go_wp2
    go_ret
    exact ⟨congrArg (fun z => Ending.returned (Value.int IntKind.i64 z)) (by push_cast; rfl), rfl⟩
theorem bit_turned : ∀ (y : Fin 256) (m : Fin 8), 0 ≤ bits .xor .u8 ((y.val : Nat) : Int) ((2 : Int) ^ m.val % 256) ∧ bits .xor .u8 ((y.val : Nat) : Int) ((2 : Int) ^ m.val % 256) < 256 ∧ bits .xor .u8 ((y.val : Nat) : Int) ((2 : Int) ^ m.val % 256) ≠ ((y.val : Nat) : Int) := by decide +kernel
theorem byte_turned (y : UInt8) (m : Nat) (hm : m ≤ 7) : ∃ z : UInt8, bits .xor .u8 (y.toNat : Int) ((2 : Int) ^ m % 256) = (z.toNat : Int) ∧ z ≠ y := by
  have hy := y.toNat_lt
  obtain ⟨h1, h2, h3⟩ := bit_turned ⟨y.toNat, by omega⟩ ⟨m, by omega⟩
  obtain ⟨k, hk⟩ := Int.eq_ofNat_of_zero_le h1
  have hk' : bits .xor .u8 (y.toNat : Int) ((2 : Int) ^ m % 256) = (k : Int) := hk
  rw [hk] at h2 h3
  have hk2 : k < 256 := by omega
  have hu : (UInt8.ofNat k).toNat = k := by rw [UInt8.toNat_ofNat']; exact Nat.mod_eq_of_lt hk2
  refine ⟨UInt8.ofNat k, by rw [hk', hu], ?_⟩
  intro e
  have h4 : (k : Int) ≠ (y.toNat : Int) := h3
  exact h4 (by rw [← e, hu])
theorem flat_set (y : UInt8) : ∀ (l : List UInt8) (i : Nat), (l.flatMap eB).set i (.int .u8 (y.toNat : Int)) = (l.set i y).flatMap eB
  | [], i => by simp
  | x :: l, 0 => by simp [eB]
  | x :: l, i + 1 => by have := flat_set y l i; simp [eB] at this ⊢; exact this
/-- A row of bytes as a string. -/
theorem conv_any {w : World} {B n c : Nat} {A : Option Addr} {l : List UInt8} (hr : Rd w B 1 A n (l.flatMap eB)) (hl : l.length = n) :
    (convert 22 9 (.slice A n c)).run Try.prog w = .ok (.string (strOfNums (l.map fun b => (b.toNat : Int)))) w := by
  rcases Nat.eq_zero_or_pos n with h0 | h0
  · subst h0
    have hl0 : l = [] := List.eq_nil_of_length_eq_zero hl
    subst hl0
    cases A with
    | none => exact run_convert_bytes_nil w 22 5 Try.underlying22 Try.underlying5 0 c 9 Try.underlying9
    | some a =>
      have h : (loadCells a 0).run Try.prog w = .ok ((([] : List Int).map (Value.int .u8)).toArray) w := by
        have := run_loadCells_list (P := Try.prog) w a [] (fun j v hj => by simp at hj)
        simpa using this
      rw [run_convert_bytes_string w 22 9 5 (some a) 0 c Try.underlying22 Try.underlying5 Try.underlying9, run_bytesToString w a 0 c [] h]
      rfl
  · obtain ⟨b, off, rfl, _, hc⟩ := hr.2 h0
    refine run_convert_bytes_arg w 22 5 Try.underlying22 Try.underlying5 b off n c _ (by simp [hl]) ?_ 9 Try.underlying9
    intro i hi
    obtain ⟨x, hx⟩ := some_of_lt (l := l) (k := i) (by omega)
    have h := hc i (by rw [flat_length eB_len]; omega)
    have hg := flat_get (enc := eB) eB_len hx (j := 0) (by omega)
    rw [Nat.mul_one, Nat.add_zero] at hg
    rw [h, hg]
    simp [eB, List.getD_eq_getElem?_getD, List.getElem?_map, hx]

set_option maxRecDepth 100000 in
set_option maxHeartbeats 8000000 in
theorem walk (vv0 : Value) (l0 : List UInt8) (w : World) (r0 : R_ByteS w w.heap.size vv0 l0) :
    Calls Try.prog 4 #[vv0] w fun e w' => e = .returned (.bool true) ∧ Ext w w' := by
  obtain ⟨A0, n0, c0, rfl, hl0, hnc0, hcm0, hr0⟩ := r0
  by_cases hbig : 1048576 < n0
  · go_enter Try.func4, Try.ntmps4
    go_wp2_with fail
    refine (big_any A0 n0 c0 _).mono ?_
    rw [decide_eq_true hbig]
    rintro e w1 ⟨rfl, rfl⟩
    go_wp2
    go_ret
    exact ⟨rfl, Ext.refl _⟩
  · obtain ⟨i0, hi0, hz0, hz1, hz2⟩ := info_parts info_Byte
    go_enter Try.func4, Try.ntmps4
    go_wp2_with fail
    refine (big_any A0 n0 c0 _).mono ?_
    rw [decide_eq_false hbig]
    rintro e w1 ⟨rfl, rfl⟩
    go_wp2_with fail
    refine (drawFrame_s A0 n0 c0 l0 _ hr0 hl0 (by omega)).mono ?_
    rintro e w2 ⟨v2, L, rfl, o2, hlen, hE2⟩
    have hz2' := hE2.size
    go_wp2_with fail
    refine (frame_i _ L _ _ o2.rd (Nat.le_refl _) (by omega)).mono ?_
    rintro e w3 ⟨v3, rfl, o3, hE3⟩
    have hz3 := hE3.size
    have hX3 : Ext w w3 := hE2.trans hE3
    replace o2 := o2.keep (keepE hE3 (Nat.le_refl _))
    obtain ⟨A2, n2, c2, hv2, hl2, ow2⟩ := id o2
    subst hv2
    obtain ⟨A3, n3, c3, hv3, hl3, ow3⟩ := id o3
    subst hv3
    have Hl2 := Lib.hid hl2
    have hlen2 : n2 ≤ 4001 := by rw [← hl2]; exact hlen
    by_cases hsz : n2 ≤ 4000
    · have hLs : L.length ≤ 4000 := by rw [hl2]; exact hsz
      have d1 : decide ((4000 : Int) < (n2 : Int)) = false := by simp; omega
      have d2 : decide (4000 < n2) = false := by simp; omega
      have d3 : decide (L.length ≤ 4000) = true := by simpa using hLs
      rw [d3]
      rw [frameL_ok hLs] at hl3 ow3 o3
      have Hl3 := Lib.hid hl3
      have hfl : Hid ((frame L).length = (putNum L.length).length + L.length + 4) := by show _ = _; simp [frame, le4]; omega
      have hpn : (putNum L.length).length ≤ 9 := putNumI_len9 (L.length : Int) (by omega)
      have hn3 : n3 = (putNum L.length).length + n2 + 4 := by rw [← hl3, hfl.out, hl2]
      have hn3b : n3 ≤ 5000 := by omega
      have hn3c : (putNum L.length).length + n2 + 4 ≤ n3 := by omega
      have Hn3 := Lib.hid hn3
      clear hl2 hl3 hlen d3 hn3
      have hA3 : Ext w3 (w3.alloc (.cells #[.int .u8 1, .int .u8 2, .int .u8 3] 5)) := (Ext.refl _).alloc _
      have hpre := own_made w3 #[.int .u8 1, .int .u8 2, .int .u8 3] 3 5 1 (by unfold maxLen; omega) rfl
      go_wp2_with (at_builtin; go_loud (refine wpList_app _ rfl _ _ 22 rfl 5 i0 _ 1 1 Try.underlying22 hi0 hz0 hz1 hz2 rfl (by omega) w3.heap.size (w3.heap.size + 1) (.slice (some ⟨w3.heap.size, 0, none⟩) 3 3) 3 _ rfl hpre (by simp) (by simp) w3.heap.size A3 n3 c3 ((frame L).flatMap eB) rfl (hA3.rd ow3.rd.2.2.2 (Nat.le_refl _)) (oneCell_B _) (by unfold maxLen; omega) (by omega) ?_))
      intro A4 c4 w4 o4 hg4
      have hX4 : Ext w w4 := (hX3.alloc _).grown hg4 (fun g h => by have := (hpre.lt g h).1; omega)
      have hK4 : Ext w3 w4 := hA3.grown hg4 (fun g h => (hpre.lt g h).1)
      have hz4 := hK4.size
      replace o4 : Own w4 w3.heap.size w4.heap.size 5 1 (.slice A4 (3 + n3) c4) (3 + n3) (([1, 2, 3] ++ frame L).flatMap eB) := by rw [List.flatMap_append]; exact o4
      have k4 : O_ByteS w4 _ _ (.slice A4 (3 + n3) c4) ([1, 2, 3] ++ frame L) := OwnS.of o4 (by rw [List.length_append, Hl3.out]; rfl)
      have hun : unframe ([1, 2, 3] ++ frame L) 3 = (L, 3 + (frame L).length, 0) := by
        have h := unframe_frame [1, 2, 3] L [] hLs
        rw [List.append_nil] at h
        exact h
      have Hun := Lib.hid hun
      clear hun hA3 hpre hg4
      go_wp2_with fail
      refine (unframe_i _ _ 3 _ _ k4.rd (Nat.le_refl _) (by rw [List.length_append, Hl3.out]; simp; omega)).mono ?_
      rw [Hun.out, Hl3.out]
      rintro e w5 ⟨v5, rfl, o5, hE5⟩
      have hz5 := hE5.size
      have hX5 : Ext w w5 := hX4.trans hE5
      have hK5 : Ext w3 w5 := hK4.trans hE5
      obtain ⟨A5, n5, c5, hv5, hl5, ow5⟩ := id o5
      subst hv5
      have hc5 := conv_any (c := c5) ow5.rd.2.2.2 hl5
      have hc2 := conv_any (c := c2) (hK5.rd ow2.rd.2.2.2 (by omega)) Hl2.out
      go_wp2_with fail
      refine (putNum_i (n2 : Int) _ (by omega)).mono ?_
      rintro e w6 ⟨A6, n6, c6, rfl, hl6, ow6, hE6⟩
      have hn6 : (putNum L.length).length = n6 := by
        rw [← hl6]
        unfold putNumI
        rw [if_neg (by omega), Int.toNat_natCast, ← Hl2.out]
      have Hn6 := Lib.hid hn6
      rw [hn6] at hn3c hpn
      have hz6 := hE6.size
      have hX6 : Ext w w6 := hX5.trans hE6
      have ow36 := (hK5.trans hE6).own ow3 (Nat.le_refl _)
      have hr06 := hX6.rd hr0 (Nat.le_refl _)
      clear hl6 ow6 hn6 hc5 hc2 o5 ow5 hl5 hE6 o4 k4 ow2 o2 ow3 o3
      have d4 : decide ((n3 : Int) ≤ (n6 : Int)) = false := by simp; omega
      have d5 : decide (n3 ≤ n6) = false := by simp; omega
      go_wp2_with fail
      refine (at_any A0 n0 c0 l0 1 _ _ hr06 hl0 (by omega) (by omega)).mono ?_
      rintro e w6_ ⟨x, hx, rfl, rfl⟩
      obtain ⟨k, hk⟩ : ∃ k : Nat, (x * 17) % (n3 - n6) = k := ⟨_, rfl⟩
      have hkl : k < n3 - n6 := by rw [← hk]; exact Nat.mod_lt _ (by omega)
      have hrem : ((x : Int) * 17) % ((n3 : Int) - (n6 : Int)) = (k : Int) := by rw [← hk]; push_cast; rw [Int.ofNat_sub (by omega)]
      clear hk
      obtain ⟨g, cap, hv, hg1, hg2, hnc, hcmx, hcell, hfroz⟩ := ow36.row (by omega)
      injection hv with hA _ hcap
      subst hA hcap
      obtain ⟨y, hy⟩ := some_of_lt (l := frame L) (k := n6 + k) (by rw [Hl3.out]; omega)
      have hcy : w6.cell? ⟨g, n6 + k, none⟩ = some (.int .u8 (y.toNat : Int)) := by
        rw [hcell (n6 + k) (by omega)]
        have := flat_get (enc := eB) eB_len hy (j := 0) (by omega)
        rw [Nat.mul_one, Nat.add_zero] at this
        rw [this]
        rfl
      have hfy := hfroz (n6 + k)
      have hyb := y.toNat_lt
      go_wp2_with fail
      rw [show (n6 : Int) + (k : Int) = ((n6 + k : Nat) : Int) from by push_cast; rfl]
      have hi6 : n6 ≤ n6 + k := by omega
      have hi3 : n6 + k < n3 := by omega
      generalize n6 + k = i at *
      have b2 : (i : Int) < (n3 : Int) := by omega
      clear hrem
      obtain ⟨z, hz, hat⟩ := at_val A0 n0 c0 l0 2 w.heap.size hl0 (by omega) (by omega)
      obtain ⟨m, hm⟩ : ∃ m : Nat, z % 8 = m := ⟨_, rfl⟩
      have hm7 : m ≤ 7 := by rw [← hm]; omega
      have htm : (z : Int).tmod 8 = (m : Int) := by rw [← hm, Int.tmod_eq_emod_of_nonneg (by omega)]; push_cast; rfl
      obtain ⟨b, hb⟩ : ∃ b : Nat, 2 ^ m = b := ⟨_, rfl⟩
      have hsh : ∀ W, (Op.shift BinOp.shl .u8 1 .i64 (m : Int)).run Try.prog W = .ok (.int .u8 (b : Int)) W := by
        intro W
        rw [← hb]
        have : m = 0 ∨ m = 1 ∨ m = 2 ∨ m = 3 ∨ m = 4 ∨ m = 5 ∨ m = 6 ∨ m = 7 := by omega
        rcases this with rfl | rfl | rfl | rfl | rfl | rfl | rfl | rfl <;> rfl
      clear hm
      clear hcell hfroz hkl
      go_still_tail 12, (by kernel_rfl)
      still_call (hat _ (by exact hr06))
      repeat still_step
      refine wpStill_nil ?_
      change wpList _ _ _ _ _ w6.drew
      replace hcy : w6.drew.cell? ⟨g, i, none⟩ = some (.int .u8 (y.toNat : Int)) := hcy
      replace hfy : w6.drew.frozen? ⟨g, i, none⟩ = false := hfy
      replace ow36 := (show Own w6.drew _ _ _ _ _ _ _ from ow36)
      replace hX6 := hX6.drew
      have hz7 : w6.heap.size ≤ w6.drew.heap.size := Nat.le_refl _
      generalize w6.drew = w7 at hcy hfy ow36 hX6 hz7 ⊢
      go_wp2_with fail
      obtain ⟨y', hy', hny⟩ := byte_turned y m hm7
      rw [hy']
      have ow8 := ow36.set (by omega) i (.int .u8 (y'.toNat : Int))
      rw [flat_set] at ow8
      have hX8 := hX6.set (g := g) (by omega) i (.int .u8 (y'.toNat : Int))
      have hz9 : w7.heap.size ≤ (w7.setCell ⟨g, i, none⟩ (.int .u8 (y'.toNat : Int))).heap.size := by simp [World.setCell]
      generalize w7.setCell ⟨g, i, none⟩ (.int .u8 (y'.toNat : Int)) = w8 at ow8 hX8 hz9 ⊢
      have hz8 := hX8.size
      have o8 : O_ByteS w8 _ _ (.slice (some ⟨g, 0, none⟩) n3 c3) ((frame L).set i y') := OwnS.of ow8 (by rw [List.length_set, Hl3.out])
      refine (unframe_i _ _ 0 _ _ o8.rd (by omega) (by rw [List.length_set, Hl3.out]; omega)).mono ?_
      rw [unframe_set L hLs i y' (by rw [Hn6.out]; exact hi6) (by rw [Hl3.out]; exact hi3) (by rw [hy]; intro e; exact hny (Option.some.inj e).symm)]
      rintro e w9 ⟨v9, rfl, o9, hE9⟩
      go_wp2
      go_ret
      exact ⟨rfl, hX8.trans hE9⟩
    · have hLs : ¬ L.length ≤ 4000 := by rw [hl2]; exact hsz
      have d1 : decide ((4000 : Int) < (n2 : Int)) = true := by simp; omega
      have d2 : decide (4000 < n2) = true := by simp; omega
      have d3 : decide (L.length ≤ 4000) = false := by simpa using hLs
      rw [d3]
      rw [frameL_no hLs] at hl3
      have hn3 : n3 = 0 := hl3.symm
      subst hn3
      go_wp2
      go_ret
      exact ⟨rfl, hX3⟩

set_option maxRecDepth 100000 in
theorem lifted (os : Os) (started : os.Started) (H : Type) (enc : TypeId × Value → H) :
    ReturnsInHanded {} Try.checked os 4 .any (Rows.fnFrameSpec.pre6 enc Try.prog Try.f4 Rows.fnFrameRow.domain false) (Rows.fnFrameSpec.post enc Try.prog Try.f4 false true false false) := by
  refine returnsInHanded_of_change (C := Try.checked) own started (by kernel_rfl) Try.func4
    (ChangeSpec.witness6 (enc := enc) (C := Try.checked) false ⟨#[], #[.slice none 0 0], []⟩ 8 (by kernel_rfl) (by kernel_rfl) (by kernel_rfl) (by kernel_rfl)) ?_
  intro W base args ds gs before hval0 hW hcnd _
  have hval : ∀ (j : Nat) t v, Try.f4.params[j]? = some t → args[j]? = some v → Value.okWide Try.prog W .any base t v := hval0
  have hW' := hW
  obtain ⟨p, q, hA0, hV, rfl, hfz, hnd⟩ := hW
  have hA : DataW.TrodAll enc Try.prog W 0 (fun _ => true) true Try.f4.params.toList args.toList ds p := hA0
  rw [Try.params4] at hA hval
  obtain ⟨vv0, vs0, dd0, ds0, pp0, qq0, hargs, rfl, rfl, ht0, rr0⟩ := trodAll_cons hA
  obtain ⟨rfl, rfl, rfl⟩ := trodAll_nil rr0
  obtain rfl : args = #[vv0] := by cases args; simp_all
  obtain ⟨rfl, rfl⟩ := trodVars_none hV
  have trd0 := ht0
  have lts0 : ∀ x ∈ pp0, x.block < W.heap.size := by obtain ⟨m, hm⟩ := trd0; exact DataW.trod_lt m _ _ _ hm
  obtain ⟨l0, r0⟩ := open_ByteS_arg (hval 0 22 vv0 rfl rfl) ht0
  clear hA0 hval0
  refine (walk vv0  l0  W r0).mono fun e W' ⟨he, bel⟩ => ?_
  subst he
  exact ⟨_, rfl, _, _, _, [], _, [], hW', trodAll_mk1 (shut_bool Try.underlying4 _), (trodAll_cons_mk (Below.trod laidOut (by kernel_rfl) (of_decide_eq_true (by kernel_rfl)) trd0 bel lts0) trodAll_mk0), rfl, Below.frame bel _, fun h => by cases h⟩

theorem over : Rows.fnFrameRow.holds Try.pinned (OpenSpec.ofChange Rows.fnFrameSpec) :=
  OpenClaim.holds_of_wide 4 Try.f4 rfl rfl rfl rfl rfl rfl rfl ⟨rfl, rfl, rfl, rfl, rfl⟩ rfl rfl rfl rfl rfl (by as_aux_lemma => kernel_rfl) Try.func4 (by as_aux_lemma => kernel_rfl)
    (of_decide_eq_true (by as_aux_lemma => kernel_rfl)) (by as_aux_lemma => unfold Func.isWrapper; first | (rw [if_pos (by decide +kernel)]; kernel_rfl) | (rw [if_neg (by decide +kernel)]; exact ⟨rfl, rfl⟩))
    (fun os started H enc _ => lifted os started H enc)

theorem proved : Rows.FnFrameSaid := over
#print axioms proved
end Go.Proofs.Ytikkfkomieedmaa.fnFrame
