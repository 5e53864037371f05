/-
  FnExactSplitFrames returns true for every input: the program's SplitFrames returns what the reference's does, leaves its arguments alone, and returns memory of its own.
  Conditions: none: for every argument, in whatever memory.
-/
import Derived.Test.YtpemnpoclahfnaaOpen
import Derived.Test.YtpemnpoclahfnaaJoin
namespace Go.Proofs.Ytpemnpoclahfnaa.fnExactSplitFrames
open Go.ChangeShapes Go.WideShapes Go.ChangeAt Go.RowKit
set_option linter.unusedVariables false
set_option maxRecDepth 1000000

set_option maxRecDepth 100000 in
set_option maxHeartbeats 2000000 in
theorem walk (vv0 : Value) (l0 : List UInt8) (w : World) (r0 : R_ByteS w w.heap.size vv0 l0) :
    Calls Try.prog 12 #[vv0] w fun e w' => e = .returned (.bool true) ∧ Ext w w' := by
  have hlen := r0.len
  obtain ⟨A0, n0, c0, rfl, hl0, hnc0, hcm0, hr0⟩ := r0
  by_cases hbig : n0 ≤ 1048576
  · have r0 : R_ByteS w w.heap.size (.slice A0 n0 c0) l0 := RdS.of hr0 hl0 hnc0 hcm0
    have hsz0 : l0.length ≤ 1048576 := by omega
    clear hl0 hr0 hcm0 hlen
    have nk0 : NK_ByteS l0 ≤ 1048576 := hsz0
    have nk1 : NK_ByteSS (splitL l0).1 ≤ 1048576 := Nat.le_trans (Nat.le_trans (Nat.le_add_right _ _) (splitL_tot l0)) hsz0
    go_enter Try.func12, Try.ntmps12
    go_wp2_with fail
    refine (toByteS_v _ _ _ _ (by exact r0.keep (keepE' (by repeat' (first | with_reducible exact Ext.refl _ | with_reducible assumption | with_reducible refine Ext.set ?_ ?_ _ _ | with_reducible refine Ext.alloc ?_ _ | with_reducible refine Ext.drew ?_ | with_reducible refine Ext.drewN ?_ _ | with_reducible refine Ext.trans ?_ (by with_reducible assumption) | omega | (simp; done) | (simp; omega))) (Nat.le_refl _))) (by first | omega | (simp; done) | (simp; omega)) (by omega)).mono ?_
    rintro e1 w1 ⟨vx0, rfl, ox0, hb1⟩
    have z1 := hb1.size
    have hB1 := hb1
    have hE1 : Ext w w1 := by repeat' (first | with_reducible exact Ext.refl _ | with_reducible assumption | with_reducible refine Ext.set ?_ ?_ _ _ | with_reducible refine Ext.alloc ?_ _ | with_reducible refine Ext.drew ?_ | with_reducible refine Ext.drewN ?_ _ | with_reducible refine Ext.trans ?_ (by with_reducible assumption) | omega | (simp; done) | (simp; omega))
    clear hb1
    go_wp2_with fail
    refine (splitFrames_s _ _ _ _ ox0.rd (by omega) (by omega)).mono ?_
    rintro e2 w2 ⟨vx1, rfl, ox1, hb2⟩
    have z2 := hb2.size
    replace ox0 := ox0.keep (keepE hb2 (by omega))
    have hB2 := hB1.trans hb2
    have hE2 : Ext w w2 := by repeat' (first | with_reducible exact Ext.refl _ | with_reducible assumption | with_reducible refine Ext.set ?_ ?_ _ _ | with_reducible refine Ext.alloc ?_ _ | with_reducible refine Ext.drew ?_ | with_reducible refine Ext.drewN ?_ _ | with_reducible refine Ext.trans ?_ (by with_reducible assumption) | omega | (simp; done) | (simp; omega))
    clear hb2
    clear ox0
    go_wp2_with fail
    refine (toByteS_v _ _ _ _ (by exact r0.keep (keepE' (by repeat' (first | with_reducible exact Ext.refl _ | with_reducible assumption | with_reducible refine Ext.set ?_ ?_ _ _ | with_reducible refine Ext.alloc ?_ _ | with_reducible refine Ext.drew ?_ | with_reducible refine Ext.drewN ?_ _ | with_reducible refine Ext.trans ?_ (by with_reducible assumption) | omega | (simp; done) | (simp; omega))) (Nat.le_refl _))) (by first | omega | (simp; done) | (simp; omega)) (by omega)).mono ?_
    rintro e3 w3 ⟨vx2, rfl, ox2, hb3⟩
    have z3 := hb3.size
    replace ox1 := ox1.keep (keepE hb3 (by omega))
    have hB3 := hB2.trans hb3
    have hE3 : Ext w w3 := by repeat' (first | with_reducible exact Ext.refl _ | with_reducible assumption | with_reducible refine Ext.set ?_ ?_ _ _ | with_reducible refine Ext.alloc ?_ _ | with_reducible refine Ext.drew ?_ | with_reducible refine Ext.drewN ?_ _ | with_reducible refine Ext.trans ?_ (by with_reducible assumption) | omega | (simp; done) | (simp; omega))
    clear hb3
    go_wp2_with fail
    refine (splitFrames_i _ _ _ _ ox2.rd (by omega) (by omega)).mono ?_
    rintro e4 w4 ⟨vx3, rfl, ox3, hb4⟩
    have z4 := hb4.size
    replace ox1 := ox1.keep (keepE hb4 (by omega))
    replace ox2 := ox2.keep (keepE hb4 (by omega))
    have hB4 := hB3.trans hb4
    have hE4 : Ext w w4 := by repeat' (first | with_reducible exact Ext.refl _ | with_reducible assumption | with_reducible refine Ext.set ?_ ?_ _ _ | with_reducible refine Ext.alloc ?_ _ | with_reducible refine Ext.drew ?_ | with_reducible refine Ext.drewN ?_ _ | with_reducible refine Ext.trans ?_ (by with_reducible assumption) | omega | (simp; done) | (simp; omega))
    clear hb4
    go_wp2_with fail
    refine (eqByteSS_v _ _ _ _ _ _ _ ox3.rd (by omega) ox1.rd (by omega)).mono ?_
    rintro e5 w5 ⟨rfl, hb5⟩
    have z5 := hb5.size
    replace ox1 := ox1.keep (keepE hb5 (by omega))
    replace ox2 := ox2.keep (keepE hb5 (by omega))
    replace ox3 := ox3.keep (keepE hb5 (by omega))
    have hB5 := hB4.trans hb5
    have hE5 : Ext w w5 := by repeat' (first | with_reducible exact Ext.refl _ | with_reducible assumption | with_reducible refine Ext.set ?_ ?_ _ _ | with_reducible refine Ext.alloc ?_ _ | with_reducible refine Ext.drew ?_ | with_reducible refine Ext.drewN ?_ _ | with_reducible refine Ext.trans ?_ (by with_reducible assumption) | omega | (simp; done) | (simp; omega))
    clear hb5
    go_wp2_with fail
    refine (toByteS_v _ _ _ _ (by exact r0.keep (keepE' (by repeat' (first | with_reducible exact Ext.refl _ | with_reducible assumption | with_reducible refine Ext.set ?_ ?_ _ _ | with_reducible refine Ext.alloc ?_ _ | with_reducible refine Ext.drew ?_ | with_reducible refine Ext.drewN ?_ _ | with_reducible refine Ext.trans ?_ (by with_reducible assumption) | omega | (simp; done) | (simp; omega))) (Nat.le_refl _))) (by first | omega | (simp; done) | (simp; omega)) (by omega)).mono ?_
    rintro e6 w6 ⟨vx4, rfl, ox4, hb6⟩
    have z6 := hb6.size
    replace ox1 := ox1.keep (keepE hb6 (by omega))
    replace ox2 := ox2.keep (keepE hb6 (by omega))
    replace ox3 := ox3.keep (keepE hb6 (by omega))
    have hB6 := hB5.trans hb6
    have hE6 : Ext w w6 := by repeat' (first | with_reducible exact Ext.refl _ | with_reducible assumption | with_reducible refine Ext.set ?_ ?_ _ _ | with_reducible refine Ext.alloc ?_ _ | with_reducible refine Ext.drew ?_ | with_reducible refine Ext.drewN ?_ _ | with_reducible refine Ext.trans ?_ (by with_reducible assumption) | omega | (simp; done) | (simp; omega))
    clear hb6
    go_wp2_with fail
    refine (eqByteS_v _ _ _ _ _ _ _ ox2.rd (by omega) ox4.rd (by omega)).mono ?_
    rintro e7 w7 ⟨rfl, hb7⟩
    have z7 := hb7.size
    replace ox1 := ox1.keep (keepE hb7 (by omega))
    replace ox2 := ox2.keep (keepE hb7 (by omega))
    replace ox3 := ox3.keep (keepE hb7 (by omega))
    replace ox4 := ox4.keep (keepE hb7 (by omega))
    have hB7 := hB6.trans hb7
    have hE7 : Ext w w7 := by repeat' (first | with_reducible exact Ext.refl _ | with_reducible assumption | with_reducible refine Ext.set ?_ ?_ _ _ | with_reducible refine Ext.alloc ?_ _ | with_reducible refine Ext.drew ?_ | with_reducible refine Ext.drewN ?_ _ | with_reducible refine Ext.trans ?_ (by with_reducible assumption) | omega | (simp; done) | (simp; omega))
    clear hb7
    clear ox4
    go_wp2_with fail
    refine (markByteS_v _ _ _ _ _ _ ox2 (by omega) (by omega) (by omega)).mono ?_
    rintro e8 w8 ⟨rfl, om8, hb8⟩
    have z8 := hb8.size
    replace ox1 := ox1.keep (keepF hb8 (by omega) (by omega))
    replace ox3 := ox3.keep (keepF hb8 (by omega) (by omega))
    have hB8 := hB7.fr hb8 (by omega)
    have hE8 : Ext w w8 := by repeat' (first | with_reducible exact Ext.refl _ | with_reducible assumption | with_reducible refine Ext.set ?_ ?_ _ _ | with_reducible refine Ext.alloc ?_ _ | with_reducible refine Ext.drew ?_ | with_reducible refine Ext.drewN ?_ _ | with_reducible refine Ext.trans ?_ (by with_reducible assumption) | omega | (simp; done) | (simp; omega))
    clear hb8
    clear ox2
    clear om8
    go_wp2_with fail
    refine (eqByteSS_v _ _ _ _ _ _ _ ox3.rd (by omega) ox1.rd (by omega)).mono ?_
    rintro e9 w9 ⟨rfl, hb9⟩
    have z9 := hb9.size
    replace ox1 := ox1.keep (keepE hb9 (by omega))
    replace ox3 := ox3.keep (keepE hb9 (by omega))
    have hB9 := hB8.trans hb9
    have hE9 : Ext w w9 := by repeat' (first | with_reducible exact Ext.refl _ | with_reducible assumption | with_reducible refine Ext.set ?_ ?_ _ _ | with_reducible refine Ext.alloc ?_ _ | with_reducible refine Ext.drew ?_ | with_reducible refine Ext.drewN ?_ _ | with_reducible refine Ext.trans ?_ (by with_reducible assumption) | omega | (simp; done) | (simp; omega))
    clear hb9
    go_wp2_with fail
    refine (markByteSS_v _ _ _ _ _ _ ox3 (by omega) (by omega) (by omega)).mono ?_
    rintro e10 w10 ⟨rfl, om10, hb10⟩
    have z10 := hb10.size
    replace ox1 := ox1.keep (keepF hb10 (by omega) (by omega))
    have hB10 := hB9.fr hb10 (by omega)
    have hE10 : Ext w w10 := by repeat' (first | with_reducible exact Ext.refl _ | with_reducible assumption | with_reducible refine Ext.set ?_ ?_ _ _ | with_reducible refine Ext.alloc ?_ _ | with_reducible refine Ext.drew ?_ | with_reducible refine Ext.drewN ?_ _ | with_reducible refine Ext.trans ?_ (by with_reducible assumption) | omega | (simp; done) | (simp; omega))
    clear hb10
    clear ox3
    go_wp2_with fail
    refine (heldByteSS_v _ _ _ _ _ om10.rd (by omega) (by omega) (by omega)).mono ?_
    rintro e11 w11 ⟨rfl, hb11⟩
    have z11 := hb11.size
    replace ox1 := ox1.keep (keepE hb11 (by omega))
    replace om10 := om10.keep (keepE hb11 (by omega))
    have hB11 := hB10.trans hb11
    have hE11 : Ext w w11 := by repeat' (first | with_reducible exact Ext.refl _ | with_reducible assumption | with_reducible refine Ext.set ?_ ?_ _ _ | with_reducible refine Ext.alloc ?_ _ | with_reducible refine Ext.drew ?_ | with_reducible refine Ext.drewN ?_ _ | with_reducible refine Ext.trans ?_ (by with_reducible assumption) | omega | (simp; done) | (simp; omega))
    clear hb11
    go_wp2_with fail
    refine (toByteS_v _ _ _ _ (by exact r0.keep (keepE' (by repeat' (first | with_reducible exact Ext.refl _ | with_reducible assumption | with_reducible refine Ext.set ?_ ?_ _ _ | with_reducible refine Ext.alloc ?_ _ | with_reducible refine Ext.drew ?_ | with_reducible refine Ext.drewN ?_ _ | with_reducible refine Ext.trans ?_ (by with_reducible assumption) | omega | (simp; done) | (simp; omega))) (Nat.le_refl _))) (by first | omega | (simp; done) | (simp; omega)) (by omega)).mono ?_
    rintro e12 w12 ⟨vx5, rfl, ox5, hb12⟩
    have z12 := hb12.size
    replace ox1 := ox1.keep (keepE hb12 (by omega))
    replace om10 := om10.keep (keepE hb12 (by omega))
    have hB12 := hB11.trans hb12
    have hE12 : Ext w w12 := by repeat' (first | with_reducible exact Ext.refl _ | with_reducible assumption | with_reducible refine Ext.set ?_ ?_ _ _ | with_reducible refine Ext.alloc ?_ _ | with_reducible refine Ext.drew ?_ | with_reducible refine Ext.drewN ?_ _ | with_reducible refine Ext.trans ?_ (by with_reducible assumption) | omega | (simp; done) | (simp; omega))
    clear hb12
    go_wp2_with fail
    refine (splitFrames_i _ _ _ _ ox5.rd (by omega) (by omega)).mono ?_
    rintro e13 w13 ⟨vx6, rfl, ox6, hb13⟩
    have z13 := hb13.size
    replace ox1 := ox1.keep (keepE hb13 (by omega))
    replace om10 := om10.keep (keepE hb13 (by omega))
    replace ox5 := ox5.keep (keepE hb13 (by omega))
    have hB13 := hB12.trans hb13
    have hE13 : Ext w w13 := by repeat' (first | with_reducible exact Ext.refl _ | with_reducible assumption | with_reducible refine Ext.set ?_ ?_ _ _ | with_reducible refine Ext.alloc ?_ _ | with_reducible refine Ext.drew ?_ | with_reducible refine Ext.drewN ?_ _ | with_reducible refine Ext.trans ?_ (by with_reducible assumption) | omega | (simp; done) | (simp; omega))
    clear hb13
    clear ox5
    go_wp2_with fail
    refine (eqByteSS_v _ _ _ _ _ _ _ ox6.rd (by omega) ox1.rd (by omega)).mono ?_
    rintro e14 w14 ⟨rfl, hb14⟩
    have z14 := hb14.size
    replace ox1 := ox1.keep (keepE hb14 (by omega))
    replace om10 := om10.keep (keepE hb14 (by omega))
    replace ox6 := ox6.keep (keepE hb14 (by omega))
    have hB14 := hB13.trans hb14
    have hE14 : Ext w w14 := by repeat' (first | with_reducible exact Ext.refl _ | with_reducible assumption | with_reducible refine Ext.set ?_ ?_ _ _ | with_reducible refine Ext.alloc ?_ _ | with_reducible refine Ext.drew ?_ | with_reducible refine Ext.drewN ?_ _ | with_reducible refine Ext.trans ?_ (by with_reducible assumption) | omega | (simp; done) | (simp; omega))
    clear hb14
    clear ox6
    clear ox1
    go_wp2_with fail
    refine (heldByteSS_v _ _ _ _ _ om10.rd (by omega) (by omega) (by omega)).mono ?_
    rintro e15 w15 ⟨rfl, hb15⟩
    have z15 := hb15.size
    replace om10 := om10.keep (keepE hb15 (by omega))
    have hB15 := hB14.trans hb15
    have hE15 : Ext w w15 := by repeat' (first | with_reducible exact Ext.refl _ | with_reducible assumption | with_reducible refine Ext.set ?_ ?_ _ _ | with_reducible refine Ext.alloc ?_ _ | with_reducible refine Ext.drew ?_ | with_reducible refine Ext.drewN ?_ _ | with_reducible refine Ext.trans ?_ (by with_reducible assumption) | omega | (simp; done) | (simp; omega))
    clear hb15
    go_wp2
    go_ret
    exact ⟨rfl, hE15⟩
  · go_enter Try.func12, Try.ntmps12
    go_wp2
    go_ret
    exact ⟨rfl, Ext.refl _⟩

set_option maxRecDepth 100000 in
theorem lifted (os : Os) (started : os.Started) (H : Type) (enc : TypeId × Value → H) :
    ReturnsInHanded {} Try.checked os 12 .any (Rows.fnExactSplitFramesSpec.pre6 enc Try.prog Try.f12 Rows.fnExactSplitFramesRow.domain false) (Rows.fnExactSplitFramesSpec.post enc Try.prog Try.f12 false true false false) := by
  refine returnsInHanded_of_change (C := Try.checked) own started (by kernel_rfl) Try.func12
    (ChangeSpec.witness6 (enc := enc) (C := Try.checked) false ⟨#[], #[.slice none 0 0], []⟩ 8 (by kernel_rfl) (by kernel_rfl) (by kernel_rfl) (by kernel_rfl)) ?_
  intro W base args ds gs before hval0 hW hcnd _
  have hval : ∀ (j : Nat) t v, Try.f12.params[j]? = some t → args[j]? = some v → Value.okWide Try.prog W .any base t v := hval0
  have hW' := hW
  obtain ⟨p, q, hA0, hV, rfl, hfz, hnd⟩ := hW
  have hA : DataW.TrodAll enc Try.prog W 0 (fun _ => true) true Try.f12.params.toList args.toList ds p := hA0
  rw [Try.params12] at hA hval
  obtain ⟨vv0, vs0, dd0, ds0, pp0, qq0, hargs, rfl, rfl, ht0, rr0⟩ := trodAll_cons hA
  obtain ⟨rfl, rfl, rfl⟩ := trodAll_nil rr0
  obtain rfl : args = #[vv0] := by cases args; simp_all
  obtain ⟨rfl, rfl⟩ := trodVars_none hV
  have trd0 := ht0
  have lts0 : ∀ x ∈ pp0, x.block < W.heap.size := by obtain ⟨m, hm⟩ := trd0; exact DataW.trod_lt m _ _ _ hm
  obtain ⟨l0, r0⟩ := open_ByteS_arg (hval 0 22 vv0 rfl rfl) ht0
  clear hA0 hval0
  refine (walk vv0  l0  W r0).mono fun e W' ⟨he, bel⟩ => ?_
  subst he
  exact ⟨_, rfl, _, _, _, [], _, [], hW', trodAll_mk1 (shut_bool Try.underlying4 _), (trodAll_cons_mk (Below.trod laidOut (by kernel_rfl) (of_decide_eq_true (by kernel_rfl)) trd0 bel lts0) trodAll_mk0), rfl, Below.frame bel _, fun h => by cases h⟩

theorem over : Rows.fnExactSplitFramesRow.holds Try.pinned (OpenSpec.ofChange Rows.fnExactSplitFramesSpec) :=
  OpenClaim.holds_of_wide 12 Try.f12 rfl rfl rfl rfl rfl rfl rfl ⟨rfl, rfl, rfl, rfl, rfl⟩ rfl rfl rfl rfl rfl (by as_aux_lemma => kernel_rfl) Try.func12 (by as_aux_lemma => kernel_rfl)
    (of_decide_eq_true (by as_aux_lemma => kernel_rfl)) (by as_aux_lemma => unfold Func.isWrapper; first | (rw [if_pos (by decide +kernel)]; kernel_rfl) | (rw [if_neg (by decide +kernel)]; exact ⟨rfl, rfl⟩))
    (fun os started H enc _ => lifted os started H enc)

theorem proved : Rows.FnExactSplitFramesSaid := over
#print axioms proved
end Go.Proofs.Ytpemnpoclahfnaa.fnExactSplitFrames
