/-
  FnNums1 returns true for every input: what the program's PutNums writes of drawn numbers its GetNums reads again, whatever stands behind.
  Conditions: none: for every argument, in whatever memory.
-/
import Derived.Test.YtikkfkomieedmaaOpen
import Derived.Test.YtikkfkomieedmaaDrawN
import Derived.Test.YtikkfkomieedmaaNums1
namespace Go.Proofs.Ytikkfkomieedmaa.fnNums1
open Go.ChangeShapes Go.WideShapes Go.ChangeAt Go.RowKit
set_option linter.unusedVariables false
set_option maxRecDepth 1000000

theorem big_any (A : Option Addr) (n c : Nat) (w : World) : Calls Try.prog 6 #[.slice A n c] w fun e w' => e = .returned (.bool (decide (1048576 < n))) ∧ w = w' := by
  by_cases h : 1048576 < n
  · have d1 : decide ((1048576 : Int) < (n : Int)) = true := by simp; omega
    have d2 : decide (1048576 < n) = true := by simp; omega
    rw [d2]
    go_enter Try.func6, Try.ntmps6
    go_wp2
    go_ret
    exact ⟨rfl, rfl⟩
  · have d1 : decide ((1048576 : Int) < (n : Int)) = false := by simp; omega
    have d2 : decide (1048576 < n) = false := by simp; omega
    rw [d2]
    go_enter Try.func6, Try.ntmps6
    go_wp2
    go_ret
    exact ⟨rfl, rfl⟩
theorem at_any (A : Option Addr) (n c : Nat) (l : List UInt8) (i : Nat) (w : World) (B : Nat) (hr : Rd w B 1 A n (l.flatMap eB)) (hl : l.length = n) (hn : n ≤ 1048576) (hi : i ≤ 100) :
    Calls Try.prog 11 #[.slice A n c, .int .i64 i] w fun e w' => ∃ x : Nat, x ≤ 255 ∧ e = .returned (.int .i64 x) ∧ w = w' := by
  by_cases h : i < n
  · obtain ⟨b, off, x, rfl, _, hx, hcx⟩ := hr.byte hl h
    have h1 : (i : Int) < (n : Int) := by omega
    have hxb := x.toNat_lt
    go_enter Try.func11, Try.ntmps11
    go_wp2
    go_ret
    exact ⟨x.toNat, by omega, rfl, rfl⟩
  · have h1 : ¬ (i : Int) < (n : Int) := by omega
    go_enter Try.func11, Try.ntmps11
    go_wp2
    go_ret
    exact ⟨(i * 7 + n) % 256, by omega, congrArg (fun z => Ending.returned (Value.int IntKind.i64 z)) (by push_cast; rfl), rfl⟩
set_option maxRecDepth 100000 in
set_option maxHeartbeats 1000000 in
theorem sameInts_any (A B : Option Addr) (n c m d : Nat) (xs ys : List Int) (w : World) (X Y : Nat) (hx : Rd w X 1 A n (xs.flatMap eI)) (hxl : xs.length = n) (hy : Rd w Y 1 B m (ys.flatMap eI)) (hyl : ys.length = m) (hn : n ≤ 4000) (he : xs = ys) :
    Calls Try.prog 12 #[.slice A n c, .slice B m d] w fun e w' => e = .returned (.bool true) ∧ Still w w' := by
  subst he
  have hnm : n = m := by omega
  subst hnm
  have Hx := Lib.hid hxl
  clear hxl hyl
  go_enter Try.func12, Try.ntmps12
  go_wp2
  go_loopw [5] (fun i wr => ∃ k : Nat, k ≤ n ∧ i = .int .i64 k ∧ Still w wr) (fun i _ => n - (intOf i).toNat)
  case atStart => exact ⟨0, by omega, rfl, Still.refl _⟩
  case round =>
    obtain ⟨k, hk, rfl, hst⟩ := hrel
    by_cases hlt : k < n
    · obtain ⟨b, off, x, rfl, _, hx1, hc0⟩ := (hst.rd hx).int Hx.out hlt
      obtain ⟨b', off', y, rfl, _, hy1, hd0⟩ := (hst.rd hy).int Hx.out hlt
      have hxy : x = y := by rw [hx1] at hy1; injection hy1
      subst hxy
      have hlt' : (k : Int) < (n : Int) := by omega
      clear hx1 hy1 hx hy
      go_wp2
      go_quiet (fail)
      go_wp2
      go_roundw
      case rel => exact ⟨k + 1, by omega, by go_num, by repeat' (first | with_reducible exact Still.refl _ | with_reducible assumption | with_reducible refine Still.drewN ?_ _ | with_reducible refine Still.drew ?_ | with_reducible refine Still.trans ?_ (by with_reducible assumption))⟩
      case measure => simp [intOf]; omega
    · obtain rfl : n = k := by omega
      go_wp2
      go_ret
      exact ⟨rfl, hst⟩

set_option maxRecDepth 100000 in
set_option maxHeartbeats 4000000 in
theorem walk (vv0 : Value) (l0 : List UInt8) (w : World) (r0 : R_ByteS w w.heap.size vv0 l0) :
    Calls Try.prog 3 #[vv0] w fun e w' => e = .returned (.bool true) ∧ Ext w w' := by
  obtain ⟨A0, n0, c0, rfl, hl0, hnc0, hcm0, hr0⟩ := r0
  by_cases hbig : 1048576 < n0
  · go_enter Try.func3, Try.ntmps3
    go_wp2_with fail
    refine (big_any A0 n0 c0 _).mono ?_
    rw [decide_eq_true hbig]
    rintro e w1 ⟨rfl, rfl⟩
    go_wp2
    go_ret
    exact ⟨rfl, Ext.refl _⟩
  · obtain ⟨i0, hi0, hz0, hz1, hz2⟩ := info_parts info_Byte
    go_enter Try.func3, Try.ntmps3
    go_wp2_with fail
    refine (big_any A0 n0 c0 _).mono ?_
    rw [decide_eq_false hbig]
    rintro e w1 ⟨rfl, rfl⟩
    go_wp2_with fail
    refine (drawPutNums_s A0 n0 c0 l0 _ hr0 hl0 (by omega)).mono ?_
    rintro e w2 ⟨v2, L, rfl, o2, hlen, hfit, hE2⟩
    have hz2' := hE2.size
    have hfit' : ∀ x ∈ L, x ≤ 9223372036854775807 := fun x hx => (hfit x hx).2
    have Hfit := Lib.hid hfit
    go_wp2_with fail
    refine (putNums_i _ L _ _ o2.rd (Nat.le_refl _) hfit' (by omega)).mono ?_
    rintro e w3 ⟨v3, rfl, o3, hE3⟩
    have hz3 := hE3.size
    have hX3 : Ext w w3 := hE2.trans hE3
    have o2' := o2.keep (keepE hE3 (Nat.le_refl _))
    obtain ⟨A2, n2, c2, hv2, hl2, ow2⟩ := id o2'
    subst hv2
    obtain ⟨A3, n3, c3, hv3, hl3, ow3⟩ := id o3
    subst hv3
    obtain ⟨_, hnc2, hcm2, rd2⟩ := ow2.rd
    have Hl2 := Lib.hid hl2
    have Hl3 := Lib.hid hl3
    have Hr2 := Lib.hid rd2
    rw [hl2] at hlen
    clear hfit hfit' hl2 hl3 o2
    go_wp2
    go_loop [5] (fun iv => ∃ i : Nat, i ≤ n2 ∧ iv = .int .i64 i ∧ Hid (∀ j x, j < i → L[j]? = some x → 0 ≤ x)) (fun iv => n2 - (intOf iv).toNat)
    case atStart => exact ⟨0, by omega, rfl, fun j x hj => absurd hj (by omega)⟩
    case round =>
      obtain ⟨i, hi, rfl, hpos⟩ := hrel
      by_cases hlt : i < n2
      · obtain ⟨b, off, x, rfl, _, hx, hcx⟩ := Hr2.out.int Hl2.out hlt
        have hlt' : (i : Int) < (n2 : Int) := by omega
        by_cases hneg : x < 0
        · have hnil := putNums_neg (List.mem_of_getElem? hx) hneg
          have hn3 : n3 = 0 := by have := Hl3.out; rw [hnil] at this; simpa using this.symm
          subst hn3
          clear hx
          go_wp2
          go_ret
          exact ⟨rfl, hX3⟩
        · have Hx := Lib.hid hx
          clear hx
          go_wp2
          go_round
          case rel => exact ⟨i + 1, by omega, by go_num, fun j y hj hy => by
            rcases Nat.lt_or_ge j i with h | h
            · exact hpos.out j y h hy
            · obtain rfl : j = i := by omega
              rw [Hx.out] at hy
              injection hy with hy
              omega⟩
          case measure => simp [intOf]; omega
      · obtain rfl : n2 = i := by omega
        have hall : ∀ x ∈ L, 0 ≤ x ∧ x ≤ 9223372036854775807 := by
          intro x hx
          obtain ⟨j, hj⟩ := List.mem_iff_getElem?.1 hx
          exact ⟨hpos.out j x (by rw [← Hl2.out]; exact (List.getElem?_eq_some_iff.1 hj).1) hj, (Hfit.out x hx).2⟩
        have Hall := Lib.hid hall
        have hput := Lib.hid (putNums_pos (fun x hx => (hall x hx).1))
        clear hall hpos
        by_cases hz : n2 = 0
        · have d1 : ((n2 : Int) == 0) = true := by simp [hz]
          have d2 : (n2 == 0) = true := by simp [hz]
          clear hz
          have hg300 : getNum [172, 2] 0 = some (300, 2) := by decide
          go_wp2_with fail
          refine (getNum_i _ 2 2 [172, 2] 0 _ (w3.heap.size + 1) (own_made w3 #[.int .u8 172, .int .u8 2] 2 5 1 (by unfold maxLen; omega) rfl).rd.2.2.2 rfl (by omega)).mono ?_
          rw [hg300, show gnV (some (300, 2)) = .tuple #[.int .i64 300, .int .i64 2, .bool true] from rfl]
          rintro e w4 ⟨rfl, hS⟩
          have hE4 := hS.ext
          clear hS
          go_wp2
          go_ret
          exact ⟨rfl, by repeat' (first | with_reducible exact Ext.refl _ | with_reducible assumption | with_reducible refine Ext.set ?_ ?_ _ _ | with_reducible refine Ext.alloc ?_ _ | with_reducible refine Ext.drew ?_ | with_reducible refine Ext.drewN ?_ _ | with_reducible refine Ext.trans ?_ (by with_reducible assumption) | omega | (simp; done) | (simp; omega))⟩
        · have d1 : ((n2 : Int) == 0) = false := by simp; omega
          have d2 : (n2 == 0) = false := by simp; omega
          go_wp2_with fail
          refine (at_any A0 n0 c0 l0 1 _ _ (hX3.rd hr0 (Nat.le_refl _)) hl0 (by omega) (by omega)).mono ?_
          rintro e w4 ⟨x, hx, rfl, rfl⟩
          have hxe : ((UInt8.ofNat x).toNat : Int) = (x : Int) := by rw [UInt8.toNat_ofNat']; omega
          rw [← hxe]
          clear hxe
          have hget : getNums (putNums L ++ [UInt8.ofNat x]) 0 (n2 : Int) = some (L, ((putAll L).length : Int)) := by
            rw [hput.out, ← Hl2.out]
            exact getNums_put L _ Hall.out (by rw [Hl2.out]; omega) (by rw [Hl2.out]; omega)
          have Hget := Lib.hid hget
          clear hget
          have hn3 : n3 ≤ 200 := by have h := putNums_len L (fun y hy => (Hfit.out y hy).2); rw [Hl3.out, Hl2.out] at h; omega
          have o3w := ow3
          go_wp2_with (at_builtin; refine wpList_app _ rfl _ _ 22 rfl 5 i0 _ 1 1 Try.underlying22 hi0 hz0 hz1 hz2 rfl (by omega) w2.heap.size w3.heap.size (.slice A3 n3 c3) n3 ((putNums L).flatMap eB) rfl (((Ext.refl w3).alloc _).own ow3 (Nat.le_refl _)) (by simp; omega) (by simp) (w3.heap.size + 1) (some ⟨w3.heap.size, 0, none⟩) 1 1 (eB (UInt8.ofNat x)) rfl (own_made w3 #[.int .u8 ((UInt8.ofNat x).toNat : Int)] 1 5 1 (by unfold maxLen; omega) rfl).rd.2.2.2 (by simp [eB, Value.oneCell']) (by unfold maxLen; omega) (by omega) ?_)
          intro A5 c5 w5 o5 hg5
          have hA3 : Ext w3 (w3.alloc (.cells #[.int .u8 ((UInt8.ofNat x).toNat : Int)] 5)) := (Ext.refl _).alloc _
          have hF5 : Fr _ _ _ w5 := Fr.of_grown hg5 (fun g h => ow3.lt g h)
          have hX5 : Ext w w5 := (hX3.alloc _).grown hg5 (fun g h => by have := (ow3.lt g h).1; omega)
          have hz5 := hg5.size
          simp only [World.size_alloc] at hz5
          have ow2' := (hA3.own ow2 (by omega)).fr hF5 (.inl (Nat.le_refl _))
          replace o5 : Own w5 w2.heap.size w5.heap.size 5 1 (.slice A5 (n3 + 1) c5) (n3 + 1) ((putNums L ++ [UInt8.ofNat x]).flatMap eB) := by rw [List.flatMap_append, List.flatMap_cons, List.flatMap_nil, List.append_nil]; exact o5
          have k5 : OwnS w5 _ _ _ _ _ (.slice A5 (n3 + 1) c5) (putNums L ++ [UInt8.ofNat x]) := OwnS.of o5 (by rw [List.length_append, Hl3.out]; rfl)
          clear o3 ow3 o3w hg5 hF5 hA3 o5 ow2
          go_wp2_with fail
          refine (getNums_i _ _ 0 (n2 : Int) _ _ k5.rd (Nat.le_refl _) (by rw [List.length_append, Hl3.out]; simp; omega)).mono ?_
          rw [Hget.out]
          simp only [gmE, gmL, Option.map_some, Option.getD_some, Option.isSome_some]
          rintro e w6 ⟨v6, rfl, o6, hE6⟩
          have hz6 := hE6.size
          have hX6 : Ext w w6 := hX5.trans hE6
          obtain ⟨A6, n6, c6, hv6, hl6, ow6⟩ := id o6
          subst hv6
          obtain ⟨_, hnc6, hcm6, rd6⟩ := ow6.rd
          have ow2'' := hE6.own ow2' (by omega)
          obtain ⟨_, _, _, rd2''⟩ := ow2''.rd
          clear o6 k5
          go_wp2_with fail
          refine (sameInts_any _ _ _ _ _ _ L L _ _ _ rd6 hl6 rd2'' Hl2.out (by have := Hl2.out; omega) rfl).mono ?_
          rintro e w7 ⟨rfl, hS7⟩
          have hE7 := hS7.ext
          have hz7 := hE7.size
          have hX7 : Ext w w7 := hX6.trans hE7
          have o27 : OwnS w7 _ _ _ _ _ (.slice A2 n2 c2) L := OwnS.of (hE7.own ow2'' (by omega)) Hl2.out
          go_wp2_with fail
          refine (putNums_i _ L _ _ o27.rd (by omega) (fun y hy => (Hfit.out y hy).2) (by rw [Hl2.out]; omega)).mono ?_
          rintro e w8 ⟨v8, rfl, o8, hE8⟩
          obtain ⟨A8, n8, c8, hv8, hl8, -⟩ := id o8
          subst hv8
          have hX8 : Ext w w8 := hX7.trans hE8
          have hln : (putAll L).length = n8 := by rw [← hput.out]; exact hl8
          rw [hln]
          clear hln hl8 o8
          go_wp2
          go_ret
          exact ⟨by simp, hX8⟩

set_option maxRecDepth 100000 in
theorem lifted (os : Os) (started : os.Started) (H : Type) (enc : TypeId × Value → H) :
    ReturnsInHanded {} Try.checked os 3 .any (Rows.fnNums1Spec.pre6 enc Try.prog Try.f3 Rows.fnNums1Row.domain false) (Rows.fnNums1Spec.post enc Try.prog Try.f3 false true false false) := by
  refine returnsInHanded_of_change (C := Try.checked) own started (by kernel_rfl) Try.func3
    (ChangeSpec.witness6 (enc := enc) (C := Try.checked) false ⟨#[], #[.slice none 0 0], []⟩ 8 (by kernel_rfl) (by kernel_rfl) (by kernel_rfl) (by kernel_rfl)) ?_
  intro W base args ds gs before hval0 hW hcnd _
  have hval : ∀ (j : Nat) t v, Try.f3.params[j]? = some t → args[j]? = some v → Value.okWide Try.prog W .any base t v := hval0
  have hW' := hW
  obtain ⟨p, q, hA0, hV, rfl, hfz, hnd⟩ := hW
  have hA : DataW.TrodAll enc Try.prog W 0 (fun _ => true) true Try.f3.params.toList args.toList ds p := hA0
  rw [Try.params3] at hA hval
  obtain ⟨vv0, vs0, dd0, ds0, pp0, qq0, hargs, rfl, rfl, ht0, rr0⟩ := trodAll_cons hA
  obtain ⟨rfl, rfl, rfl⟩ := trodAll_nil rr0
  obtain rfl : args = #[vv0] := by cases args; simp_all
  obtain ⟨rfl, rfl⟩ := trodVars_none hV
  have trd0 := ht0
  have lts0 : ∀ x ∈ pp0, x.block < W.heap.size := by obtain ⟨m, hm⟩ := trd0; exact DataW.trod_lt m _ _ _ hm
  obtain ⟨l0, r0⟩ := open_ByteS_arg (hval 0 22 vv0 rfl rfl) ht0
  clear hA0 hval0
  refine (walk vv0  l0  W r0).mono fun e W' ⟨he, bel⟩ => ?_
  subst he
  exact ⟨_, rfl, _, _, _, [], _, [], hW', trodAll_mk1 (shut_bool Try.underlying4 _), (trodAll_cons_mk (Below.trod laidOut (by kernel_rfl) (of_decide_eq_true (by kernel_rfl)) trd0 bel lts0) trodAll_mk0), rfl, Below.frame bel _, fun h => by cases h⟩

theorem over : Rows.fnNums1Row.holds Try.pinned (OpenSpec.ofChange Rows.fnNums1Spec) :=
  OpenClaim.holds_of_wide 3 Try.f3 rfl rfl rfl rfl rfl rfl rfl ⟨rfl, rfl, rfl, rfl, rfl⟩ rfl rfl rfl rfl rfl (by as_aux_lemma => kernel_rfl) Try.func3 (by as_aux_lemma => kernel_rfl)
    (of_decide_eq_true (by as_aux_lemma => kernel_rfl)) (by as_aux_lemma => unfold Func.isWrapper; first | (rw [if_pos (by decide +kernel)]; kernel_rfl) | (rw [if_neg (by decide +kernel)]; exact ⟨rfl, rfl⟩))
    (fun os started H enc _ => lifted os started H enc)

theorem proved : Rows.FnNums1Said := over
#print axioms proved
end Go.Proofs.Ytikkfkomieedmaa.fnNums1
