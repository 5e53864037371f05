/-
  FnExactGetNums returns true for every input: the program's GetNums returns what the reference's does, leaves its arguments alone, and returns memory of its own.
  Conditions: none: for every argument, in whatever memory.
-/
import Derived.Test.YtpemnpoclahfnaaOpen
import Derived.Test.YtpemnpoclahfnaaGets
namespace Go.Proofs.Ytpemnpoclahfnaa.fnExactGetNums
open Go.ChangeShapes Go.WideShapes Go.ChangeAt Go.RowKit
set_option linter.unusedVariables false

set_option maxRecDepth 100000 in
set_option maxHeartbeats 2000000 in
theorem walk (vv0 : Value) (l0 : List UInt8) (a1 : Int) (a2 : Int) (w : World) (r0 : R_ByteS w w.heap.size vv0 l0) (f1 : Fits a1) (f2 : Fits a2) :
    Calls Try.prog 6 #[vv0, .int .i64 a1, .int .i64 a2] w fun e w' => e = .returned (.bool true) ∧ Ext w w' := by
  have hlen := r0.len
  obtain ⟨A0, n0, c0, rfl, hl0, hnc0, hcm0, hr0⟩ := r0
  by_cases hbig : n0 ≤ 1048576
  · have r0 : R_ByteS w w.heap.size (.slice A0 n0 c0) l0 := RdS.of hr0 hl0 hnc0 hcm0
    have hsz0 : l0.length ≤ 1048576 := by omega
    clear hl0 hr0 hcm0 hlen
    have nk0 : NK_ByteS l0 ≤ 1048576 := hsz0
    have nk1 : NK_IntS (gmL (getNums l0 a1 a2)) ≤ 4000 := gm_len l0 a1 a2
    go_enter Try.func6, Try.ntmps6
    go_wp2_with fail
    refine (toByteS_v _ _ _ _ r0 (by omega) (by omega)).mono ?_
    rintro e1 w1 ⟨vx0, rfl, ox0, hb1⟩
    have z1 := hb1.size
    replace r0 := r0.keep (keepE' hb1 (by omega))
    have hE1 := (Ext.refl w).trans hb1
    go_wp2_with fail
    refine (getNums_s _ _ _ _ _ _ ox0.rd (by omega) (by omega)).mono ?_
    rintro e2 w2 ⟨vx1, rfl, ox1, hb2⟩
    have z2 := hb2.size
    replace r0 := r0.keep (keepE' hb2 (by omega))
    replace ox0 := ox0.keep (keepE hb2 (by omega))
    have hE2 := hE1.trans hb2
    clear hb2
    clear ox0
    go_wp2_with fail
    refine (toByteS_v _ _ _ _ r0 (by omega) (by omega)).mono ?_
    rintro e3 w3 ⟨vx2, rfl, ox2, hb3⟩
    have z3 := hb3.size
    replace r0 := r0.keep (keepE' hb3 (by omega))
    replace ox1 := ox1.keep (keepE hb3 (by omega))
    have hE3 := hE2.trans hb3
    clear hb3
    go_wp2_with fail
    refine (getNums_i _ _ _ _ _ _ ox2.rd (by omega) (by omega)).mono ?_
    rintro e4 w4 ⟨vx3, rfl, ox3, hb4⟩
    have z4 := hb4.size
    replace r0 := r0.keep (keepE' hb4 (by omega))
    replace ox1 := ox1.keep (keepE hb4 (by omega))
    replace ox2 := ox2.keep (keepE hb4 (by omega))
    have hE4 := hE3.trans hb4
    clear hb4
    go_wp2_with fail
    refine (eqIntS_v _ _ _ _ _ _ _ ox3.rd ox1.rd).mono ?_
    rintro e5 w5 ⟨rfl, hb5⟩
    have z5 := hb5.size
    replace r0 := r0.keep (keepE' hb5 (by omega))
    replace ox1 := ox1.keep (keepE hb5 (by omega))
    replace ox2 := ox2.keep (keepE hb5 (by omega))
    replace ox3 := ox3.keep (keepE hb5 (by omega))
    have hE5 := hE4.trans hb5
    clear hb5
    go_wp2_with fail
    refine (toByteS_v _ _ _ _ r0 (by omega) (by omega)).mono ?_
    rintro e6 w6 ⟨vx4, rfl, ox4, hb6⟩
    have z6 := hb6.size
    replace r0 := r0.keep (keepE' hb6 (by omega))
    replace ox1 := ox1.keep (keepE hb6 (by omega))
    replace ox2 := ox2.keep (keepE hb6 (by omega))
    replace ox3 := ox3.keep (keepE hb6 (by omega))
    have hE6 := hE5.trans hb6
    clear hb6
    go_wp2_with fail
    refine (eqByteS_v _ _ _ _ _ _ _ ox2.rd ox4.rd).mono ?_
    rintro e7 w7 ⟨rfl, hb7⟩
    have z7 := hb7.size
    replace r0 := r0.keep (keepE' hb7 (by omega))
    replace ox1 := ox1.keep (keepE hb7 (by omega))
    replace ox2 := ox2.keep (keepE hb7 (by omega))
    replace ox3 := ox3.keep (keepE hb7 (by omega))
    replace ox4 := ox4.keep (keepE hb7 (by omega))
    have hE7 := hE6.trans hb7
    clear hb7
    clear ox4
    go_wp2_with fail
    refine (markByteS_v _ _ _ _ _ _ ox2 (by omega) (by omega)).mono ?_
    rintro e8 w8 ⟨rfl, om8, hb8⟩
    have z8 := hb8.size
    replace r0 := r0.keep (keepF' hb8 (by omega) (by omega))
    replace ox1 := ox1.keep (keepF hb8 (by omega) (by omega))
    replace ox3 := ox3.keep (keepF hb8 (by omega) (by omega))
    have hE8 := hE7.fr hb8 (by omega)
    clear hb8
    clear ox2
    clear om8
    go_wp2_with fail
    refine (eqIntS_v _ _ _ _ _ _ _ ox3.rd ox1.rd).mono ?_
    rintro e9 w9 ⟨rfl, hb9⟩
    have z9 := hb9.size
    replace r0 := r0.keep (keepE' hb9 (by omega))
    replace ox1 := ox1.keep (keepE hb9 (by omega))
    replace ox3 := ox3.keep (keepE hb9 (by omega))
    have hE9 := hE8.trans hb9
    clear hb9
    go_wp2_with fail
    refine (markIntS_v _ _ _ _ _ _ ox3 (by omega) (by omega)).mono ?_
    rintro e10 w10 ⟨rfl, om10, hb10⟩
    have z10 := hb10.size
    replace r0 := r0.keep (keepF' hb10 (by omega) (by omega))
    replace ox1 := ox1.keep (keepF hb10 (by omega) (by omega))
    have hE10 := hE9.fr hb10 (by omega)
    clear hb10
    clear ox3
    go_wp2_with fail
    refine (heldIntS_v _ _ _ _ _ om10.rd (by omega) (by omega)).mono ?_
    rintro e11 w11 ⟨rfl, hb11⟩
    have z11 := hb11.size
    replace r0 := r0.keep (keepE' hb11 (by omega))
    replace ox1 := ox1.keep (keepE hb11 (by omega))
    replace om10 := om10.keep (keepE hb11 (by omega))
    have hE11 := hE10.trans hb11
    clear hb11
    go_wp2_with fail
    refine (toByteS_v _ _ _ _ r0 (by omega) (by omega)).mono ?_
    rintro e12 w12 ⟨vx5, rfl, ox5, hb12⟩
    have z12 := hb12.size
    replace r0 := r0.keep (keepE' hb12 (by omega))
    replace ox1 := ox1.keep (keepE hb12 (by omega))
    replace om10 := om10.keep (keepE hb12 (by omega))
    have hE12 := hE11.trans hb12
    clear hb12
    go_wp2_with fail
    refine (getNums_i _ _ _ _ _ _ ox5.rd (by omega) (by omega)).mono ?_
    rintro e13 w13 ⟨vx6, rfl, ox6, hb13⟩
    have z13 := hb13.size
    replace r0 := r0.keep (keepE' hb13 (by omega))
    replace ox1 := ox1.keep (keepE hb13 (by omega))
    replace om10 := om10.keep (keepE hb13 (by omega))
    replace ox5 := ox5.keep (keepE hb13 (by omega))
    have hE13 := hE12.trans hb13
    clear hb13
    clear ox5
    go_wp2_with fail
    refine (eqIntS_v _ _ _ _ _ _ _ ox6.rd ox1.rd).mono ?_
    rintro e14 w14 ⟨rfl, hb14⟩
    have z14 := hb14.size
    replace r0 := r0.keep (keepE' hb14 (by omega))
    replace ox1 := ox1.keep (keepE hb14 (by omega))
    replace om10 := om10.keep (keepE hb14 (by omega))
    replace ox6 := ox6.keep (keepE hb14 (by omega))
    have hE14 := hE13.trans hb14
    clear hb14
    clear ox6
    clear ox1
    go_wp2_with fail
    refine (heldIntS_v _ _ _ _ _ om10.rd (by omega) (by omega)).mono ?_
    rintro e15 w15 ⟨rfl, hb15⟩
    have z15 := hb15.size
    replace r0 := r0.keep (keepE' hb15 (by omega))
    replace om10 := om10.keep (keepE hb15 (by omega))
    have hE15 := hE14.trans hb15
    clear hb15
    go_wp2
    go_ret
    exact ⟨rfl, hE15⟩
  · go_enter Try.func6, Try.ntmps6
    go_wp2
    go_ret
    exact ⟨rfl, Ext.refl _⟩

set_option maxRecDepth 100000 in
theorem lifted (os : Os) (started : os.Started) (H : Type) (enc : TypeId × Value → H) :
    ReturnsInHanded {} Try.checked os 6 .any (Rows.fnExactGetNumsSpec.pre6 enc Try.prog Try.f6 Rows.fnExactGetNumsRow.domain false) (Rows.fnExactGetNumsSpec.post enc Try.prog Try.f6 false true false false) := by
  refine returnsInHanded_of_change (C := Try.checked) own started (by kernel_rfl) Try.func6
    (ChangeSpec.witness6 (enc := enc) (C := Try.checked) false ⟨#[], #[.slice none 0 0, .int .i64 0, .int .i64 0], []⟩ 8 (by kernel_rfl) (by kernel_rfl) (by kernel_rfl) (by kernel_rfl)) ?_
  intro W base args ds gs before hval0 hW hcnd _
  have hval : ∀ (j : Nat) t v, Try.f6.params[j]? = some t → args[j]? = some v → Value.okWide Try.prog W .any base t v := hval0
  have hW' := hW
  obtain ⟨p, q, hA0, hV, rfl, hfz, hnd⟩ := hW
  have hA : DataW.TrodAll enc Try.prog W 0 (fun _ => true) true Try.f6.params.toList args.toList ds p := hA0
  rw [Try.params6] at hA hval
  obtain ⟨vv0, vs0, dd0, ds0, pp0, qq0, hargs, rfl, rfl, ht0, rr0⟩ := trodAll_cons hA
  obtain ⟨vv1, vs1, dd1, ds1, pp1, qq1, rfl, rfl, rfl, ht1, rr1⟩ := trodAll_cons rr0
  obtain ⟨vv2, vs2, dd2, ds2, pp2, qq2, rfl, rfl, rfl, ht2, rr2⟩ := trodAll_cons rr1
  obtain ⟨rfl, rfl, rfl⟩ := trodAll_nil rr2
  obtain rfl : args = #[vv0, vv1, vv2] := by cases args; simp_all
  obtain ⟨rfl, rfl⟩ := trodVars_none hV
  have trd0 := ht0
  have lts0 : ∀ x ∈ pp0, x.block < W.heap.size := by obtain ⟨m, hm⟩ := trd0; exact DataW.trod_lt m _ _ _ hm
  obtain ⟨l0, r0⟩ := open_ByteS_arg (hval 0 22 vv0 rfl rfl) ht0
  have trd1 := ht1
  have lts1 : ∀ x ∈ pp1, x.block < W.heap.size := by obtain ⟨m, hm⟩ := trd1; exact DataW.trod_lt m _ _ _ hm
  obtain ⟨a1, rfl, f1⟩ := open_int_arg (hval 1 3 vv1 rfl rfl) ht1
  have trd2 := ht2
  have lts2 : ∀ x ∈ pp2, x.block < W.heap.size := by obtain ⟨m, hm⟩ := trd2; exact DataW.trod_lt m _ _ _ hm
  obtain ⟨a2, rfl, f2⟩ := open_int_arg (hval 2 3 vv2 rfl rfl) ht2
  clear hA0 hval0
  refine (walk vv0  l0  a1  a2  W r0 f1 f2).mono fun e W' ⟨he, bel⟩ => ?_
  subst he
  exact ⟨_, rfl, _, _, _, [], _, [], hW', trodAll_mk1 (shut_bool Try.underlying4 _), (trodAll_cons_mk (Below.trod laidOut (by kernel_rfl) (of_decide_eq_true (by kernel_rfl)) trd0 bel lts0) (trodAll_cons_mk (Below.trod laidOut (by kernel_rfl) (of_decide_eq_true (by kernel_rfl)) trd1 bel lts1) (trodAll_cons_mk (Below.trod laidOut (by kernel_rfl) (of_decide_eq_true (by kernel_rfl)) trd2 bel lts2) trodAll_mk0))), rfl, Below.frame bel _, fun h => by cases h⟩

theorem over : Rows.fnExactGetNumsRow.holds Try.pinned (OpenSpec.ofChange Rows.fnExactGetNumsSpec) :=
  OpenClaim.holds_of_wide 6 Try.f6 rfl rfl rfl rfl rfl rfl rfl ⟨rfl, rfl, rfl, rfl, rfl⟩ rfl rfl rfl rfl rfl (by kernel_rfl) Try.func6 (by kernel_rfl)
    (of_decide_eq_true (by kernel_rfl)) (by unfold Func.isWrapper; first | (rw [if_pos (by decide +kernel)]; kernel_rfl) | (rw [if_neg (by decide +kernel)]; exact ⟨rfl, rfl⟩))
    (fun os started H enc _ => lifted os started H enc)

theorem proved : Rows.FnExactGetNumsSaid := over
#print axioms proved
end Go.Proofs.Ytpemnpoclahfnaa.fnExactGetNums
