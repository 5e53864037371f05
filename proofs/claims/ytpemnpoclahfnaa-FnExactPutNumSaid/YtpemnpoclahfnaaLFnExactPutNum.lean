/-
  FnExactPutNum returns true for every input: the program's PutNum returns what the reference's does, in memory of its own.
  Conditions: none: for every argument, in whatever memory.
-/
import Derived.Test.YtpemnpoclahfnaaOpen
import Derived.Test.YtpemnpoclahfnaaBytes
import Derived.Test.YtpemnpoclahfnaaNum
namespace Go.Proofs.Ytpemnpoclahfnaa.fnExactPutNum
open Go.ChangeShapes Go.WideShapes Go.ChangeAt Go.RowKit
set_option linter.unusedVariables false

set_option maxRecDepth 100000 in
set_option maxHeartbeats 1000000 in
theorem walk (a0 : Int) (w : World) (f0 : Fits a0) :
    Calls Try.prog 3 #[.int .i64 a0] w fun e w' => e = .returned (.bool true) ∧ Ext w w' := by
  obtain ⟨hx1, hx2⟩ := f0
  go_enter Try.func3, Try.ntmps3
  go_wp2_with fail
  refine (putNum_s _ _ hx2).mono ?_
  rintro e w1 ⟨A1, n, c1, rfl, hl, o1, hE1⟩
  have z1 := hE1.size
  go_wp2_with fail
  refine (putNum_i _ _ hx2).mono ?_
  rintro e w2 ⟨A2, n2, c2, rfl, hl2, o2, hE2⟩
  obtain rfl : n = n2 := hl.symm.trans hl2
  have hn : n ≤ 9 := by
    have := putNumI_len9' a0 hx2
    omega
  have Hl := Lib.hid hl
  clear hl hl2
  have z2 := hE2.size
  replace o1 := hE2.own o1 (Nat.le_refl _)
  go_wp2_with fail
  refine (eqByteS_any _ _ _ _ _ _ _ _ _ _ _ o2.rd.2.2.2 Hl.out o1.rd.2.2.2 Hl.out (by omega) (by omega)).mono ?_
  rintro e w3 ⟨rfl, hs3⟩
  replace o1 := hs3.own o1
  replace o2 := hs3.own o2
  have z3 := hs3.ext.size
  go_wp2_with fail
  refine (markByteS_any _ _ _ _ _ _ _ _ o2 (by omega) (by omega)).mono ?_
  rintro e w4 ⟨rfl, o4, hf4⟩
  replace o1 := o1.fr hf4 (by omega)
  have z4 := hf4.size
  go_wp2_with fail
  refine (heldByteS_any _ _ _ _ _ _ o4.rd.2.2.2 (by omega) (by omega)).mono ?_
  rintro e w5 ⟨rfl, hs5⟩
  replace o1 := hs5.own o1
  replace o4 := hs5.own o4
  have z5 := hs5.ext.size
  go_wp2_with fail
  refine (putNum_i _ _ hx2).mono ?_
  rintro e w6 ⟨A6, n6, c6, rfl, hl6, o6, hE6⟩
  obtain rfl : n = n6 := Hl.out.symm.trans hl6
  clear hl6
  replace o1 := hE6.own o1 (by omega)
  replace o4 := hE6.own o4 (by omega)
  have z6 := hE6.size
  go_wp2_with fail
  refine (eqByteS_any _ _ _ _ _ _ _ _ _ _ _ o6.rd.2.2.2 Hl.out o1.rd.2.2.2 Hl.out (by omega) (by omega)).mono ?_
  rintro e w7 ⟨rfl, hs7⟩
  replace o4 := hs7.own o4
  have z7 := hs7.ext.size
  go_wp2_with fail
  refine (heldByteS_any _ _ _ _ _ _ o4.rd.2.2.2 (by omega) (by omega)).mono ?_
  rintro e w8 ⟨rfl, hs8⟩
  go_wp2
  go_ret
  exact ⟨rfl, ((((((hE1.trans hE2).trans hs3.ext).fr hf4 (by omega)).trans hs5.ext).trans hE6).trans hs7.ext).trans hs8.ext⟩

set_option maxRecDepth 100000 in
theorem lifted (os : Os) (started : os.Started) (H : Type) (enc : TypeId × Value → H) :
    ReturnsInHanded {} Try.checked os 3 .any (Rows.fnExactPutNumSpec.pre6 enc Try.prog Try.f3 Rows.fnExactPutNumRow.domain false) (Rows.fnExactPutNumSpec.post enc Try.prog Try.f3 false true false false) := by
  refine returnsInHanded_of_change (C := Try.checked) own started (by kernel_rfl) Try.func3
    (ChangeSpec.witness6 (enc := enc) (C := Try.checked) false ⟨#[], #[.int .i64 0], []⟩ 8 (by kernel_rfl) (by kernel_rfl) (by kernel_rfl) (by kernel_rfl)) ?_
  intro W base args ds gs before hval0 hW hcnd _
  have hval : ∀ (j : Nat) t v, Try.f3.params[j]? = some t → args[j]? = some v → Value.okWide Try.prog W .any base t v := hval0
  have hW' := hW
  obtain ⟨p, q, hA0, hV, rfl, hfz, hnd⟩ := hW
  have hA : DataW.TrodAll enc Try.prog W 0 (fun _ => true) true Try.f3.params.toList args.toList ds p := hA0
  rw [Try.params3] at hA hval
  obtain ⟨vv0, vs0, dd0, ds0, pp0, qq0, hargs, rfl, rfl, ht0, rr0⟩ := trodAll_cons hA
  obtain ⟨rfl, rfl, rfl⟩ := trodAll_nil rr0
  obtain rfl : args = #[vv0] := by cases args; simp_all
  obtain ⟨rfl, rfl⟩ := trodVars_none hV
  have trd0 := ht0
  have lts0 : ∀ x ∈ pp0, x.block < W.heap.size := by obtain ⟨m, hm⟩ := trd0; exact DataW.trod_lt m _ _ _ hm
  obtain ⟨a0, rfl, f0⟩ := open_int_arg (hval 0 3 vv0 rfl rfl) ht0
  clear hA0 hval0
  refine (walk  a0      W f0).mono fun e W' ⟨he, bel⟩ => ?_
  subst he
  exact ⟨_, rfl, _, _, _, [], _, [], hW', trodAll_mk1 (shut_bool Try.underlying4 _), (trodAll_cons_mk (Below.trod laidOut (by kernel_rfl) (of_decide_eq_true (by kernel_rfl)) trd0 bel lts0) trodAll_mk0), rfl, Below.frame bel _, fun h => by cases h⟩

theorem over : Rows.fnExactPutNumRow.holds Try.pinned (OpenSpec.ofChange Rows.fnExactPutNumSpec) :=
  OpenClaim.holds_of_wide 3 Try.f3 rfl rfl rfl rfl rfl rfl rfl ⟨rfl, rfl, rfl, rfl, rfl⟩ rfl rfl rfl rfl rfl (by kernel_rfl) Try.func3 (by kernel_rfl)
    (of_decide_eq_true (by kernel_rfl)) (by unfold Func.isWrapper; first | (rw [if_pos (by decide +kernel)]; kernel_rfl) | (rw [if_neg (by decide +kernel)]; exact ⟨rfl, rfl⟩))
    (fun os started H enc _ => lifted os started H enc)

theorem proved : Rows.FnExactPutNumSaid := over
#print axioms proved
end Go.Proofs.Ytpemnpoclahfnaa.fnExactPutNum
