/-
  FnLogWire returns true for every input: a drawn log is read from its bytes as it was, whatever stands behind them.
  Conditions: none: for every argument, in whatever memory.
-/
import Derived.Test.YtbfbdhjeoknjkaaOpen
import Derived.Test.YtbfbdhjeoknjkaaBytes
import Derived.Test.YtbfbdhjeoknjkaaDrawP
import Derived.Test.YtbfbdhjeoknjkaaMg5
import Derived.Test.YtbfbdhjeoknjkaaPack
import Derived.Test.YtbfbdhjeoknjkaaUnpackI
import Derived.Deep.DeepCutAuto
import Derived.IntWalk
namespace Go.Proofs.Ytbfbdhjeoknjkaa.fnLogWire
open Go.ChangeShapes Go.WideShapes Go.ChangeAt Go.RowKit
set_option linter.unusedVariables false
set_option maxRecDepth 1000000

theorem atB_any (A : Option Addr) (n c : Nat) (l : List UInt8) (i : Nat) (w : World) (B : Nat) (hr : Rd w B 1 A n (l.flatMap eB)) (hl : l.length = n) (hn : n ≤ 1048576) (hi : i ≤ 100) :
    Calls Try.prog 27 #[.slice A n c, .int .i64 i] w fun e w' => ∃ x : Nat, x ≤ 255 ∧ e = .returned (.int .i64 x) ∧ w = w' := by
  by_cases h : i < n
  · obtain ⟨b, off, x, rfl, _, hx, hcx⟩ := hr.byte hl h
    have h1 : (i : Int) < (n : Int) := by omega
    have hxb := x.toNat_lt
    go_enter Try.func27, Try.ntmps27
    go_wp2
    go_ret
    exact ⟨x.toNat, by omega, rfl, rfl⟩
  · have h1 : ¬ (i : Int) < (n : Int) := by omega
    go_enter Try.func27, Try.ntmps27
    go_wp2
    go_ret
    exact ⟨(i * 7 + n) % 256, by omega, congrArg (fun z => Ending.returned (Value.int IntKind.i64 z)) (by push_cast; rfl), rfl⟩

set_option maxRecDepth 100000 in
set_option maxHeartbeats 16000000 in
theorem walk (vv0 : Value) (l0 : List UInt8) (w : World) (r0 : R_ByteS w w.heap.size vv0 l0) :
    Calls Try.prog 5 #[vv0] w fun e w' => e = .returned (.bool true) ∧ Ext w w' := by
  obtain ⟨A0, n0, c0, rfl, hl0, hnc0, hcm0, hr0⟩ := r0
  by_cases hbig : 1048576 < n0
  · go_enter Try.func5, Try.ntmps5
    go_wp2_with fail
    refine (bigU_any A0 n0 c0 _).mono ?_
    rw [decide_eq_true hbig]
    rintro e w1 ⟨rfl, rfl⟩
    go_wp2
    go_ret
    exact ⟨rfl, Ext.refl _⟩
  · go_enter Try.func5, Try.ntmps5
    go_wp2_with fail
    refine (bigU_any A0 n0 c0 _).mono ?_
    rw [decide_eq_false hbig]
    rintro e w0 ⟨rfl, rfl⟩
    obtain ⟨i0, hi0, hz0, hz1, hz2⟩ := info_parts info_Byte
    go_wp2_with fail
    refine (drawPackLog_s A0 n0 c0 l0 _ hr0 hl0 (by omega)).mono ?_
    rintro e w1 ⟨v1, l, rfl, o1, hsm, hX⟩
    obtain ⟨A1, n1, c1, B1, k1, d1, C1, m1, e1, rfl, hn1, hk1, hm1⟩ := o1.form
    have r1 : R_Log w1 w1.heap.size (.agg #[.int .i64 (l).base, .slice A1 n1 c1, .slice B1 k1 d1, .slice C1 m1 e1]) l := o1.rd
    clear o1
    clear hn1 hk1 hm1 hsm
    have zzw1 := Nat.le_refl w1.heap.size
    have hzw1 := hX.size
    have hW1 : Ext w1 (w1.alloc (.cells #[.int .i64 (l).base, .slice A1 n1 c1, .slice B1 k1 d1, .slice C1 m1 e1] 42)) := by repeat' (first | with_reducible exact Ext.refl _ | with_reducible assumption | with_reducible refine Ext.set ?_ ?_ _ _ | with_reducible refine Ext.alloc ?_ _ | with_reducible refine Ext.drew ?_ | with_reducible refine Ext.drewN ?_ _ | with_reducible refine Ext.trans ?_ (by with_reducible assumption) | omega | (simp; done) | (simp; omega))
    have zW1 : w1.heap.size + 1 ≤ (w1.alloc (.cells #[.int .i64 (l).base, .slice A1 n1 c1, .slice B1 k1 d1, .slice C1 m1 e1] 42)).heap.size := by simp
    have a : Blk (w1.alloc (.cells #[.int .i64 (l).base, .slice A1 n1 c1, .slice B1 k1 d1, .slice C1 m1 e1] 42)) w1.heap.size 42 [.int .i64 (l).base, .slice A1 n1 c1, .slice B1 k1 d1, .slice C1 m1 e1] := (Blk.new w1 #[.int .i64 (l).base, .slice A1 n1 c1, .slice B1 k1 d1, .slice C1 m1 e1] 42 (by first | rfl | simp))
    go_upto_region 4 with (fail)
    replace r1 := r1.keep (keepE' hW1 (by omega))
    have zzW1 := hW1.size
    replace hX := hX.trans hW1
    clear hW1
    generalize (w1.alloc (.cells #[.int .i64 (l).base, .slice A1 n1 c1, .slice B1 k1 d1, .slice C1 m1 e1] 42)) = W1 at *
    obtain ⟨a_p0, a_f0⟩ := a.at 0 _ rfl
    obtain ⟨a_p1, a_f1⟩ := a.at 1 _ rfl
    obtain ⟨a_p2, a_f2⟩ := a.at 2 _ rfl
    obtain ⟨a_p3, a_f3⟩ := a.at 3 _ rfl
    obtain ⟨tt, htt⟩ : ∃ tt, packL l = tt := ⟨_, rfl⟩
    obtain ⟨bs, ok⟩ := tt
    have Htt := Lib.hid htt
    have hnk := packL_nk l
    rw [htt] at hnk
    go_wp2_with fail
    refine (packLog_i _ l _ w1.heap.size (by exact r1) (by omega)).mono ?_
    rw [htt]
    rintro e w2 ⟨v2, rfl, o2, hE2⟩
    obtain ⟨A2, n2, c2, rfl, hl2, -⟩ := id o2
    have rb : RdS w2 w2.heap.size 1 eB (.slice A2 n2 c2) bs := o2.rd
    have Hl2 := Lib.hid hl2
    have hn2 : n2 ≤ 65536 := by unfold NK_ByteS at hnk; dsimp only at hnk hl2; omega
    clear o2 hl2 htt hnk
    clear a_p0 a_f0 a_p1 a_f1 a_p2 a_f2 a_p3 a_f3
    replace a := a.ext hE2
    replace r1 := r1.keep (keepE' hE2 (by omega))
    have zzw2 := hE2.size
    replace hX := hX.trans hE2
    clear hE2
    obtain ⟨a_p0, a_f0⟩ := a.at 0 _ rfl
    obtain ⟨a_p1, a_f1⟩ := a.at 1 _ rfl
    obtain ⟨a_p2, a_f2⟩ := a.at 2 _ rfl
    obtain ⟨a_p3, a_f3⟩ := a.at 3 _ rfl
    obtain ⟨lo, hlo⟩ : ∃ lo, logOk l = lo := ⟨_, rfl⟩
    go_wp2_with fail
    refine (logOk_s _ l _ w1.heap.size (by exact r1) (by omega)).mono ?_
    rw [hlo]
    rintro e w3 ⟨rfl, hE3⟩
    clear a_p0 a_f0 a_p1 a_f1 a_p2 a_f2 a_p3 a_f3
    replace a := a.ext hE3
    replace r1 := r1.keep (keepE' hE3 (by omega))
    replace rb := rb.keep (keepE' hE3 (by omega))
    have zzw3 := hE3.size
    replace hX := hX.trans hE3
    clear hE3
    obtain ⟨a_p0, a_f0⟩ := a.at 0 _ rfl
    obtain ⟨a_p1, a_f1⟩ := a.at 1 _ rfl
    obtain ⟨a_p2, a_f2⟩ := a.at 2 _ rfl
    obtain ⟨a_p3, a_f3⟩ := a.at 3 _ rfl
    cases lo with
    | false =>
      have h2 := Htt.out
      rw [packL_no hlo] at h2
      injection h2 with h2 h3
      subst h2 h3
      obtain rfl : 0 = n2 := Hl2.out
      clear hlo
      go_wp2
      go_ret
      exact ⟨rfl, hX⟩
    | true =>
      have hun := fun rest => unpack_pack hlo rest
      have h2 := Htt.out
      rw [packL_ok hlo] at h2
      injection h2 with h2 h3
      subst h3
      rw [h2] at hun
      clear h2 hlo
      obtain ⟨_, _, _, ev, -, -, -, hrb⟩ := id rb
      injection ev with ev1 ev2 ev3
      subst ev1 ev2 ev3
      go_wp2_with (at_builtin; refine wpList_app _ rfl _ _ 48 rfl 5 i0 _ 1 1 Try.underlying48 hi0 hz0 hz1 hz2 rfl (by omega) (w3.heap.size + 1) (w3.heap.size + 1) (.slice (some ⟨w3.heap.size, 0, none⟩) 0 0) 0 [] rfl (Own.nil _ _ _ _ _ _) (by simp) (by simp) w2.heap.size A2 n2 c2 (bs.flatMap eB) rfl (((Ext.refl w3).alloc _).rd hrb (by omega)) (oneCell_B _) (by unfold maxLen; omega) (by omega) ?_)
      intro A4 c4 w4 o4 hg4
      have hE4 : Ext w3 w4 := ((Ext.refl w3).alloc _).grown hg4 (fun g h => by simp [blk] at h)
      try simp only [Nat.zero_add, List.nil_append] at o4
      have zw4 : w3.heap.size + 1 ≤ w4.heap.size := by have := hg4.size; simpa using this
      clear hg4 hrb
      clear a_p0 a_f0 a_p1 a_f1 a_p2 a_f2 a_p3 a_f3
      replace a := a.ext hE4
      replace r1 := r1.keep (keepE' hE4 (by omega))
      replace rb := rb.keep (keepE' hE4 (by omega))
      have zzw4 := hE4.size
      replace hX := hX.trans hE4
      clear hE4
      obtain ⟨a_p0, a_f0⟩ := a.at 0 _ rfl
      obtain ⟨a_p1, a_f1⟩ := a.at 1 _ rfl
      obtain ⟨a_p2, a_f2⟩ := a.at 2 _ rfl
      obtain ⟨a_p3, a_f3⟩ := a.at 3 _ rfl
      go_wp2_with fail
      refine (atB_any A0 n0 c0 l0 1 _ w.heap.size (by exact hX.rd hr0 (Nat.le_refl _)) hl0 (by omega) (by omega)).mono ?_
      rintro e w4_ ⟨x, hx, rfl, rfl⟩
      have hw8 : IntKind.u8.wrap (x : Int) = (x : Int) := by rw [IntKind.wrap_u8]; omega
      have hxt : (UInt8.ofNat x).toNat = x := by rw [UInt8.toNat_ofNat']; omega
      have heq : [UInt8.ofNat x, 7].flatMap eB = [.int .u8 (x : Int), .int .u8 7] := by simp [eB, hxt]
      have hrd2 : Rd (w4.alloc (.cells #[.int .u8 (x : Int), .int .u8 7] 5)) (w4.heap.size + 1) 1 (some ⟨w4.heap.size, 0, none⟩) 2 ([UInt8.ofNat x, 7].flatMap eB) := by rw [heq]; exact (own_made w4 #[.int .u8 (x : Int), .int .u8 7] 2 5 1 (by unfold maxLen; omega) rfl).rd.2.2.2
      go_wp2_with (at_builtin; refine wpList_app _ rfl _ _ 48 rfl 5 i0 _ 1 1 Try.underlying48 hi0 hz0 hz1 hz2 rfl (by omega) (w3.heap.size + 1) w4.heap.size (.slice A4 n2 c4) n2 (bs.flatMap eB) rfl (((Ext.refl w4).alloc _).own o4 (Nat.le_refl _)) (by simp; omega) (by simp) (w4.heap.size + 1) (some ⟨w4.heap.size, 0, none⟩) 2 2 ([UInt8.ofNat x, 7].flatMap eB) rfl hrd2 (oneCell_B _) (by unfold maxLen; omega) (by omega) ?_)
      intro A5 c5 w5 o5 hg5
      have hF5 : Fr _ _ _ w5 := Fr.of_grown hg5 (fun g h => (((Ext.refl w4).alloc (.cells #[.int .u8 (x : Int), .int .u8 7] 5)).own o4 (Nat.le_refl _)).lt g h)
      have zw5 : w4.heap.size + 1 ≤ w5.heap.size := by have := hF5.size; simpa using this
      have hEA4 : Ext w4 (w4.alloc (.cells #[.int .u8 (x : Int), .int .u8 7] 5)) := (Ext.refl _).alloc _
      clear a_p0 a_f0 a_p1 a_f1 a_p2 a_f2 a_p3 a_f3
      replace a := (a.ext hEA4).fr hF5 (.inl (by omega))
      replace r1 := (r1.keep (keepE' hEA4 (by omega))).keep (keepF' hF5 (by simp; omega) (by omega))
      replace hX := (hX.trans hEA4).fr hF5 (by omega)
      have rc : RdS w5 w5.heap.size 1 eB (.slice A5 (n2 + 2) c5) (bs ++ [UInt8.ofNat x, 7]) := OwnS.rd (OwnS.of (by rw [List.flatMap_append, heq]; exact o5) (by rw [List.length_append, Hl2.out]; rfl))
      clear hEA4 hF5 hg5 o5 o4 hrd2 heq hxt rb
      have hu := hun [UInt8.ofNat x, 7]
      have hbl : (((bs.length : Nat) : Int)) = (n2 : Int) := by rw [Hl2.out]
      rw [hbl] at hu
      clear hun hbl
      obtain ⟨a_p0, a_f0⟩ := a.at 0 _ rfl
      obtain ⟨a_p1, a_f1⟩ := a.at 1 _ rfl
      obtain ⟨a_p2, a_f2⟩ := a.at 2 _ rfl
      obtain ⟨a_p3, a_f3⟩ := a.at 3 _ rfl
      go_wp2_with fail
      refine (unpackLog_i _ (bs ++ [UInt8.ofNat x, 7]) 0 _ w5.heap.size (by exact rc) (Nat.le_refl _) (by rw [List.length_append, Hl2.out]; simp; omega)).mono ?_
      rw [hu]
      rintro e w6 ⟨v6, rfl, o6, hE6⟩
      obtain ⟨A6, n6, c6, B6, k6, d6, C6, m6, e6, rfl, hn6, hk6, hm6⟩ := o6.form
      have r6 : R_Log w6 w6.heap.size (.agg #[.int .i64 (l).base, .slice A6 n6 c6, .slice B6 k6 d6, .slice C6 m6 e6]) l := o6.rd
      clear o6
      clear hn6 hk6 hm6 hu
      clear a_p0 a_f0 a_p1 a_f1 a_p2 a_f2 a_p3 a_f3
      replace a := a.ext hE6
      replace r1 := r1.keep (keepE' hE6 (by omega))
      replace rc := rc.keep (keepE' hE6 (by omega))
      have zzw6 := hE6.size
      replace hX := hX.trans hE6
      clear hE6
      have hW6 : Ext w6 (w6.alloc (.cells #[.int .i64 (l).base, .slice A6 n6 c6, .slice B6 k6 d6, .slice C6 m6 e6] 42)) := by repeat' (first | with_reducible exact Ext.refl _ | with_reducible assumption | with_reducible refine Ext.set ?_ ?_ _ _ | with_reducible refine Ext.alloc ?_ _ | with_reducible refine Ext.drew ?_ | with_reducible refine Ext.drewN ?_ _ | with_reducible refine Ext.trans ?_ (by with_reducible assumption) | omega | (simp; done) | (simp; omega))
      have zW6 : w6.heap.size + 1 ≤ (w6.alloc (.cells #[.int .i64 (l).base, .slice A6 n6 c6, .slice B6 k6 d6, .slice C6 m6 e6] 42)).heap.size := by simp
      have g : Blk (w6.alloc (.cells #[.int .i64 (l).base, .slice A6 n6 c6, .slice B6 k6 d6, .slice C6 m6 e6] 42)) w6.heap.size 42 [.int .i64 (l).base, .slice A6 n6 c6, .slice B6 k6 d6, .slice C6 m6 e6] := (Blk.new w6 #[.int .i64 (l).base, .slice A6 n6 c6, .slice B6 k6 d6, .slice C6 m6 e6] 42 (by first | rfl | simp))
      obtain ⟨a_p0, a_f0⟩ := a.at 0 _ rfl
      obtain ⟨a_p1, a_f1⟩ := a.at 1 _ rfl
      obtain ⟨a_p2, a_f2⟩ := a.at 2 _ rfl
      obtain ⟨a_p3, a_f3⟩ := a.at 3 _ rfl
      go_upto_region 10 with (fail)
      clear a_p0 a_f0 a_p1 a_f1 a_p2 a_f2 a_p3 a_f3
      replace a := a.ext hW6
      replace r1 := r1.keep (keepE' hW6 (by omega))
      replace r6 := r6.keep (keepE' hW6 (by omega))
      have zzW6 := hW6.size
      replace hX := hX.trans hW6
      clear hW6
      generalize (w6.alloc (.cells #[.int .i64 (l).base, .slice A6 n6 c6, .slice B6 k6 d6, .slice C6 m6 e6] 42)) = W6 at *
      obtain ⟨a_p0, a_f0⟩ := a.at 0 _ rfl
      obtain ⟨a_p1, a_f1⟩ := a.at 1 _ rfl
      obtain ⟨a_p2, a_f2⟩ := a.at 2 _ rfl
      obtain ⟨a_p3, a_f3⟩ := a.at 3 _ rfl
      obtain ⟨g_p0, g_f0⟩ := g.at 0 _ rfl
      obtain ⟨g_p1, g_f1⟩ := g.at 1 _ rfl
      obtain ⟨g_p2, g_f2⟩ := g.at 2 _ rfl
      obtain ⟨g_p3, g_f3⟩ := g.at 3 _ rfl
      go_wp2_with fail
      refine (sameLog_i _ _ l l _ w6.heap.size w1.heap.size (by exact r6) (by omega) (by exact r1) (by omega)).mono ?_
      rw [decide_eq_true rfl]
      rintro e w7 ⟨rfl, hE7⟩
      clear a_p0 a_f0 a_p1 a_f1 a_p2 a_f2 a_p3 a_f3 g_p0 g_f0 g_p1 g_f1 g_p2 g_f2 g_p3 g_f3
      replace a := a.ext hE7
      replace g := g.ext hE7
      replace r1 := r1.keep (keepE' hE7 (by omega))
      replace r6 := r6.keep (keepE' hE7 (by omega))
      have zzw7 := hE7.size
      replace hX := hX.trans hE7
      clear hE7
      go_wp2
      go_ret
      exact ⟨rfl, hX⟩

set_option maxRecDepth 100000 in
theorem lifted (os : Os) (started : os.Started) (H : Type) (enc : TypeId × Value → H) :
    ReturnsInHanded {} Try.checked os 5 .any (Rows.fnLogWireSpec.pre6 enc Try.prog Try.f5 Rows.fnLogWireRow.domain false) (Rows.fnLogWireSpec.post enc Try.prog Try.f5 false true false false) := by
  refine returnsInHanded_of_change (C := Try.checked) own started (by kernel_rfl) Try.func5
    (ChangeSpec.witness6 (enc := enc) (C := Try.checked) false ⟨#[], #[.slice none 0 0], []⟩ 8 (by kernel_rfl) (by kernel_rfl) (by kernel_rfl) (by kernel_rfl)) ?_
  intro W base args ds gs before hval0 hW hcnd _
  have hval : ∀ (j : Nat) t v, Try.f5.params[j]? = some t → args[j]? = some v → Value.okWide Try.prog W .any base t v := hval0
  have hW' := hW
  obtain ⟨p, q, hA0, hV, rfl, hfz, hnd⟩ := hW
  have hA : DataW.TrodAll enc Try.prog W 0 (fun _ => true) true Try.f5.params.toList args.toList ds p := hA0
  rw [Try.params5] at hA hval
  obtain ⟨vv0, vs0, dd0, ds0, pp0, qq0, hargs, rfl, rfl, ht0, rr0⟩ := trodAll_cons hA
  obtain ⟨rfl, rfl, rfl⟩ := trodAll_nil rr0
  obtain rfl : args = #[vv0] := by cases args; simp_all
  obtain ⟨rfl, rfl⟩ := trodVars_none hV
  have trd0 := ht0
  have lts0 : ∀ x ∈ pp0, x.block < W.heap.size := by obtain ⟨m, hm⟩ := trd0; exact DataW.trod_lt m _ _ _ hm
  obtain ⟨l0, r0⟩ := open_ByteS_arg (hval 0 48 vv0 rfl rfl) ht0
  clear hA0 hval0
  refine (walk vv0  l0  W r0).mono fun e W' ⟨he, bel⟩ => ?_
  subst he
  exact ⟨_, rfl, _, _, _, [], _, [], hW', trodAll_mk1 (shut_bool Try.underlying4 _), (trodAll_cons_mk (Below.trod laidOut (by kernel_rfl) (of_decide_eq_true (by kernel_rfl)) trd0 bel lts0) trodAll_mk0), rfl, Below.frame bel _, fun h => by cases h⟩

theorem over : Rows.fnLogWireRow.holds Try.pinned (OpenSpec.ofChange Rows.fnLogWireSpec) :=
  OpenClaim.holds_of_wide 5 Try.f5 rfl rfl rfl rfl rfl rfl rfl ⟨rfl, rfl, rfl, rfl, rfl⟩ rfl rfl rfl rfl rfl (by as_aux_lemma => kernel_rfl) Try.func5 (by as_aux_lemma => kernel_rfl)
    (of_decide_eq_true (by as_aux_lemma => kernel_rfl)) (by as_aux_lemma => unfold Func.isWrapper; first | (rw [if_pos (by decide +kernel)]; kernel_rfl) | (rw [if_neg (by decide +kernel)]; exact ⟨rfl, rfl⟩))
    (fun os started H enc _ => lifted os started H enc)

theorem proved : Rows.FnLogWireSaid := over
#print axioms proved
end Go.Proofs.Ytbfbdhjeoknjkaa.fnLogWire
