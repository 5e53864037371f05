/-
  FnExactGetNum returns true for every input: the program's GetNum returns what the reference's does, and its argument is left alone.
  Conditions: none: for every argument, in whatever memory.
-/
import Derived.Test.YtpemnpoclahfnaaOpen
import Derived.Test.YtpemnpoclahfnaaBytes
import Derived.Test.YtpemnpoclahfnaaGet
namespace Go.Proofs.Ytpemnpoclahfnaa.fnExactGetNum
open Go.ChangeShapes Go.WideShapes Go.ChangeAt Go.RowKit
set_option linter.unusedVariables false

set_option maxRecDepth 100000 in
set_option maxHeartbeats 1000000 in
theorem walk (A0 : Option Addr) (n0 c0 : Nat) (l0 : List UInt8) (a1 : Int) (w : World) (hm0 : n0 ≤ 9223372036854775807) (hl0 : l0.length = n0) (hr0 : Rd w w.heap.size 1 A0 n0 (l0.flatMap eB)) (f1 : Fits a1) :
    Calls Try.prog 4 #[.slice A0 n0 c0, .int .i64 a1] w fun e w' => e = .returned (.bool true) ∧ Ext w w' := by
  by_cases hbig : n0 ≤ 1048576
  · obtain ⟨res, hres⟩ : ∃ r, getNum l0 a1 = r := ⟨_, rfl⟩
    have Hres := Lib.hid hres
    clear hres
    rcases res with _ | ⟨x, y⟩
    all_goals
      go_enter Try.func4, Try.ntmps4
      go_wp2_with fail
      refine (toByteS_any _ _ _ _ _ _ hr0 (Nat.le_refl _) hl0 (by omega)).mono ?_
      rintro e w1 ⟨A1, c1, rfl, ho1, hE1⟩
      obtain ⟨_, _, _, hr1⟩ := ho1.rd
      go_wp2_with fail
      refine (getNum_s _ _ _ _ _ _ _ hr1 hl0 (by omega)).mono ?_
      rintro e w2 ⟨rfl, hs2⟩
      have hE2 := hE1.trans hs2.ext
      rw [Hres.out]
      dsimp only [gnV]
      go_wp2_with fail
      refine (toByteS_any _ _ _ _ _ _ (hE2.rd hr0 (Nat.le_refl _)) hE2.size hl0 (by omega)).mono ?_
      rintro e w3 ⟨A3, c3, rfl, ho3, hE3⟩
      have hE13 := hE2.trans hE3
      obtain ⟨_, _, _, hr3⟩ := ho3.rd
      go_wp2_with fail
      refine (getNum_i _ _ _ _ _ _ _ hr3 hl0 (by omega)).mono ?_
      rintro e w4 ⟨rfl, hs4⟩
      have hE4 := hE13.trans hs4.ext
      rw [Hres.out]
      dsimp only [gnV]
      go_wp2_with fail
      refine (toByteS_any _ _ _ _ _ _ (hE4.rd hr0 (Nat.le_refl _)) hE4.size hl0 (by omega)).mono ?_
      rintro e w5 ⟨A5, c5, rfl, ho5, hE5⟩
      have hE15 := hE4.trans hE5
      obtain ⟨_, _, _, hr5⟩ := ho5.rd
      go_wp2_with fail
      refine (eqByteS_any _ _ _ _ _ _ l0 l0 _ _ _ (hE5.rd (hs4.rd hr3) (by have := hs4.ext.size; omega)) hl0 hr5 hl0 hm0 hm0).mono ?_
      rintro e w6 ⟨rfl, hs6⟩
      go_wp2
      go_ret
      exact ⟨rfl, hE15.trans hs6.ext⟩
  · go_enter Try.func4, Try.ntmps4
    go_wp2
    go_ret
    exact ⟨rfl, Ext.refl _⟩

set_option maxRecDepth 100000 in
theorem lifted (os : Os) (started : os.Started) (H : Type) (enc : TypeId × Value → H) :
    ReturnsInHanded {} Try.checked os 4 .any (Rows.fnExactGetNumSpec.pre6 enc Try.prog Try.f4 Rows.fnExactGetNumRow.domain false) (Rows.fnExactGetNumSpec.post enc Try.prog Try.f4 false true false false) := by
  refine returnsInHanded_of_change (C := Try.checked) own started (by kernel_rfl) Try.func4
    (ChangeSpec.witness6 (enc := enc) (C := Try.checked) false ⟨#[], #[.slice none 0 0, .int .i64 0], []⟩ 8 (by kernel_rfl) (by kernel_rfl) (by kernel_rfl) (by kernel_rfl)) ?_
  intro W base args ds gs before hval0 hW hcnd _
  have hval : ∀ (j : Nat) t v, Try.f4.params[j]? = some t → args[j]? = some v → Value.okWide Try.prog W .any base t v := hval0
  have hW' := hW
  obtain ⟨p, q, hA0, hV, rfl, hfz, hnd⟩ := hW
  have hA : DataW.TrodAll enc Try.prog W 0 (fun _ => true) true Try.f4.params.toList args.toList ds p := hA0
  rw [Try.params4] at hA hval
  obtain ⟨vv0, vs0, dd0, ds0, pp0, qq0, hargs, rfl, rfl, ht0, rr0⟩ := trodAll_cons hA
  obtain ⟨vv1, vs1, dd1, ds1, pp1, qq1, rfl, rfl, rfl, ht1, rr1⟩ := trodAll_cons rr0
  obtain ⟨rfl, rfl, rfl⟩ := trodAll_nil rr1
  obtain rfl : args = #[vv0, vv1] := by cases args; simp_all
  obtain ⟨rfl, rfl⟩ := trodVars_none hV
  have trd0 := ht0
  have lts0 : ∀ x ∈ pp0, x.block < W.heap.size := by obtain ⟨m, hm⟩ := trd0; exact DataW.trod_lt m _ _ _ hm
  obtain ⟨A0, n0, c0, l0, rfl, hm0, hl0, hr0⟩ := open_bytes_arg (hval 0 22 vv0 rfl rfl) ht0
  have trd1 := ht1
  have lts1 : ∀ x ∈ pp1, x.block < W.heap.size := by obtain ⟨m, hm⟩ := trd1; exact DataW.trod_lt m _ _ _ hm
  obtain ⟨a1, rfl, f1⟩ := open_int_arg (hval 1 3 vv1 rfl rfl) ht1
  clear hA0 hval0
  refine (walk  A0       n0 c0       l0         a1      W hm0 hl0 hr0 f1).mono fun e W' ⟨he, bel⟩ => ?_
  subst he
  exact ⟨_, rfl, _, _, _, [], _, [], hW', trodAll_mk1 (shut_bool Try.underlying4 _), (trodAll_cons_mk (Below.trod laidOut (by kernel_rfl) (of_decide_eq_true (by kernel_rfl)) trd0 bel lts0) (trodAll_cons_mk (Below.trod laidOut (by kernel_rfl) (of_decide_eq_true (by kernel_rfl)) trd1 bel lts1) trodAll_mk0)), rfl, Below.frame bel _, fun h => by cases h⟩

theorem over : Rows.fnExactGetNumRow.holds Try.pinned (OpenSpec.ofChange Rows.fnExactGetNumSpec) :=
  OpenClaim.holds_of_wide 4 Try.f4 rfl rfl rfl rfl rfl rfl rfl ⟨rfl, rfl, rfl, rfl, rfl⟩ rfl rfl rfl rfl rfl (by kernel_rfl) Try.func4 (by kernel_rfl)
    (of_decide_eq_true (by kernel_rfl)) (by unfold Func.isWrapper; first | (rw [if_pos (by decide +kernel)]; kernel_rfl) | (rw [if_neg (by decide +kernel)]; exact ⟨rfl, rfl⟩))
    (fun os started H enc _ => lifted os started H enc)

theorem proved : Rows.FnExactGetNumSaid := over
#print axioms proved
end Go.Proofs.Ytpemnpoclahfnaa.fnExactGetNum
