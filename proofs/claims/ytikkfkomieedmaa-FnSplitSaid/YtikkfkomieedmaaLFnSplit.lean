/-
  FnSplit returns true for every input: joined frames are split into themselves, and of bytes cut off anywhere the lists ahead of the cut are told, and from there on the others.
  Conditions: none: for every argument, in whatever memory.
-/
import Derived.Test.YtikkfkomieedmaaOpen
import Derived.Test.YtikkfkomieedmaaDrawL
import Derived.Test.YtikkfkomieedmaaJoin
import Derived.Test.YtikkfkomieedmaaSplit2
import Derived.Laws.BytesArg
import Derived.Deep.QuietTactic
import Derived.Deep.DeepCutAuto
namespace Go.Proofs.Ytikkfkomieedmaa.fnSplit
open Go.ChangeShapes Go.WideShapes Go.ChangeAt Go.RowKit
set_option linter.unusedVariables false
set_option maxRecDepth 1000000

theorem big_any (A : Option Addr) (n c : Nat) (w : World) : Calls Try.prog 6 #[.slice A n c] w fun e w' => e = .returned (.bool (decide (1048576 < n))) ∧ w = w' := by
  by_cases h : 1048576 < n
  · have d1 : decide ((1048576 : Int) < (n : Int)) = true := by simp; omega
    have d2 : decide (1048576 < n) = true := by simp; omega
    rw [d2]
    go_enter Try.func6, Try.ntmps6
    go_wp2
    go_ret
    exact ⟨rfl, rfl⟩
  · have d1 : decide ((1048576 : Int) < (n : Int)) = false := by simp; omega
    have d2 : decide (1048576 < n) = false := by simp; omega
    rw [d2]
    go_enter Try.func6, Try.ntmps6
    go_wp2
    go_ret
    exact ⟨rfl, rfl⟩
theorem at_any (A : Option Addr) (n c : Nat) (l : List UInt8) (i : Nat) (w : World) (B : Nat) (hr : Rd w B 1 A n (l.flatMap eB)) (hl : l.length = n) (hn : n ≤ 1048576) (hi : i ≤ 100) :
    Calls Try.prog 11 #[.slice A n c, .int .i64 i] w fun e w' => ∃ x : Nat, x ≤ 255 ∧ e = .returned (.int .i64 x) ∧ w = w' := by
  by_cases h : i < n
  · obtain ⟨b, off, x, rfl, _, hx, hcx⟩ := hr.byte hl h
    have h1 : (i : Int) < (n : Int) := by omega
    have hxb := x.toNat_lt
    go_enter Try.func11, Try.ntmps11
    go_wp2
    go_ret
    exact ⟨x.toNat, by omega, rfl, rfl⟩
  · have h1 : ¬ (i : Int) < (n : Int) := by omega
    go_enter Try.func11, Try.ntmps11
    go_wp2
    go_ret
    exact ⟨(i * 7 + n) % 256, by omega, congrArg (fun z => Ending.returned (Value.int IntKind.i64 z)) (by push_cast; rfl), rfl⟩
theorem at_val (A : Option Addr) (n c : Nat) (l : List UInt8) (i : Nat) (B : Nat) (hl : l.length = n) (hn : n ≤ 1048576) (hi : i ≤ 100) :
    ∃ x : Nat, x ≤ 255 ∧ ∀ w, Rd w B 1 A n (l.flatMap eB) → Calls Try.prog 11 #[.slice A n c, .int .i64 i] w fun e w' => e = .returned (.int .i64 x) ∧ w' = w := by
  by_cases h : i < n
  · obtain ⟨x, hx⟩ := some_of_lt (l := l) (k := i) (by omega)
    have hxb := x.toNat_lt
    refine ⟨x.toNat, by omega, ?_⟩
    intro w hr
    obtain ⟨b, off, x', rfl, _, hx', hcx⟩ := hr.byte hl h
    obtain rfl : x = x' := by rw [hx] at hx'; exact Option.some.inj hx'
    have h1 : (i : Int) < (n : Int) := by omega
    go_enter Try.func11, Try.ntmps11
    go_wp2
    go_ret
    exact ⟨rfl, rfl⟩
  · have h1 : ¬ (i : Int) < (n : Int) := by omega
    refine ⟨(i * 7 + n) % 256, by omega, ?_⟩
    intro w hr
    go_enter Try.func11, Try.ntmps11
    go_wp2
    go_ret
    exact ⟨congrArg (fun z => Ending.returned (Value.int IntKind.i64 z)) (by push_cast; rfl), rfl⟩
/-- A row of bytes as a string. -/
theorem conv_any {w : World} {B n c : Nat} {A : Option Addr} {l : List UInt8} (hr : Rd w B 1 A n (l.flatMap eB)) (hl : l.length = n) :
    (convert 22 9 (.slice A n c)).run Try.prog w = .ok (.string (strOfNums (l.map fun b => (b.toNat : Int)))) w := by
  rcases Nat.eq_zero_or_pos n with h0 | h0
  · subst h0
    have hl0 : l = [] := List.eq_nil_of_length_eq_zero hl
    subst hl0
    cases A with
    | none => exact run_convert_bytes_nil w 22 5 Try.underlying22 Try.underlying5 0 c 9 Try.underlying9
    | some a =>
      have h : (loadCells a 0).run Try.prog w = .ok ((([] : List Int).map (Value.int .u8)).toArray) w := by
        have := run_loadCells_list (P := Try.prog) w a [] (fun j v hj => by simp at hj)
        simpa using this
      rw [run_convert_bytes_string w 22 9 5 (some a) 0 c Try.underlying22 Try.underlying5 Try.underlying9, run_bytesToString w a 0 c [] h]
      rfl
  · obtain ⟨b, off, rfl, _, hc⟩ := hr.2 h0
    refine run_convert_bytes_arg w 22 5 Try.underlying22 Try.underlying5 b off n c _ (by simp [hl]) ?_ 9 Try.underlying9
    intro i hi
    obtain ⟨x, hx⟩ := some_of_lt (l := l) (k := i) (by omega)
    have h := hc i (by rw [flat_length eB_len]; omega)
    have hg := flat_get (enc := eB) eB_len hx (j := 0) (by omega)
    rw [Nat.mul_one, Nat.add_zero] at hg
    rw [h, hg]
    simp [eB, List.getD_eq_getElem?_getD, List.getElem?_map, hx]

set_option maxRecDepth 100000 in
set_option maxHeartbeats 8000000 in
theorem walk (vv0 : Value) (l0 : List UInt8) (w : World) (r0 : R_ByteS w w.heap.size vv0 l0) :
    Calls Try.prog 5 #[vv0] w fun e w' => e = .returned (.bool true) ∧ Ext w w' := by
  obtain ⟨A0, n0, c0, rfl, hl0, hnc0, hcm0, hr0⟩ := r0
  by_cases hbig : 1048576 < n0
  · go_enter Try.func5, Try.ntmps5
    go_wp2_with fail
    refine (big_any A0 n0 c0 _).mono ?_
    rw [decide_eq_true hbig]
    rintro e w1 ⟨rfl, rfl⟩
    go_wp2
    go_ret
    exact ⟨rfl, Ext.refl _⟩
  · go_enter Try.func5, Try.ntmps5
    go_wp2_with fail
    refine (big_any A0 n0 c0 _).mono ?_
    rw [decide_eq_false hbig]
    rintro e w1 ⟨rfl, rfl⟩
    go_wp2_with fail
    refine (drawJoinFrames_s A0 n0 c0 l0 _ hr0 hl0 (by omega)).mono ?_
    rintro e w2 ⟨v2, L, rfl, o2, hlen, hall, hE2⟩
    have hz2 := hE2.size
    have Hall := Lib.hid hall
    have Hlen := Lib.hid hlen
    have htot : Hid (tot L ≤ 1073741824) := tot_small hlen hall
    clear hlen hall
    go_wp2_with fail
    refine (joinFrames_i _ L _ _ o2.rd (Nat.le_refl _) htot.out).mono ?_
    rintro e w3 ⟨v3, rfl, o3, hE3⟩
    have hz3 := hE3.size
    have hX3 : Ext w w3 := hE2.trans hE3
    replace o2 := o2.keep (keepE hE3 (Nat.le_refl _))
    go_wp2_with fail
    refine (joinFrames_s _ L _ _ o2.rd hz3 htot.out).mono ?_
    rintro e w4 ⟨v4, rfl, o4, hE4⟩
    have hz4 := hE4.size
    have hX4 : Ext w w4 := hX3.trans hE4
    replace o2 := o2.keep (keepE hE4 hz3)
    replace o3 := o3.keep (keepE hE4 (Nat.le_refl _))
    clear o4
    by_cases hyes : L.length ≤ 100 ∧ ∀ l ∈ L, l.length ≤ 4000
    · rw [joinL_yes hyes] at o3 ⊢
      obtain ⟨A3, n3, c3, hv3, hl3, ow3⟩ := id o3
      subst hv3
      have Hl3 := Lib.hid hl3
      have hsp := Lib.hid (splitL_join hyes.1 hyes.2)
      have Hyes := Lib.hid hyes
      have hn3 : n3 ≤ 400600 := by have := frames_len L hyes.2; have := hyes.1; dsimp only at hl3; omega
      dsimp only at hl3 o3 ow3 Hl3
      clear hl3 hyes
      go_wp2_with fail
      refine (splitFrames_i _ _ _ _ o3.rd (by omega) (by rw [Hl3.out]; omega)).mono ?_
      rw [hsp.out]
      rintro e w5 ⟨v5, rfl, o5, hE5⟩
      dsimp only at o5 ⊢
      have hz5 := hE5.size
      have hX5 : Ext w w5 := hX4.trans hE5
      replace o2 := o2.keep (keepE hE5 (by omega))
      replace o3 := o3.keep (keepE hE5 (by omega))
      have hr05 := hX5.rd hr0 (Nat.le_refl _)
      obtain ⟨sa, hsa, ⟨Aa, na, ca, rfl, hla, _, _, hra⟩, hga⟩ := id o2.rd
      obtain ⟨sb, hsb, ⟨Ab, nb, cb, rfl, hlb, _, _, hrb⟩, hgb⟩ := id o5.rd
      have hLa : L.length = na := by rw [hsa, List.length_map, hla]
      have hLb : L.length = nb := by rw [hsb, List.length_map, hlb]
      obtain rfl : nb = na := by omega
      rw [Hl3.out]
      have Hla := Lib.hid hla
      have Hlb := Lib.hid hlb
      have HLa := Lib.hid hLa
      have Hsa := Lib.hid hsa
      have Hsb := Lib.hid hsb
      have hna : nb ≤ 102 := by rw [← hLa]; exact Hlen.out
      clear hla hlb hLa hLb hsa hsb
      clear o2 o5 ow3
      go_wp2
      go_loopw [11] (fun iv wr => ∃ k : Nat, k ≤ nb ∧ iv = .int .i64 k ∧ Still w5 wr) (fun iv _ => nb - (intOf iv).toNat)
      case atStart => exact ⟨0, by omega, rfl, Still.refl _⟩
      case round =>
        obtain ⟨k, hk, rfl, hst⟩ := hrel
        by_cases hlt : k < nb
        · have hlt' : (k : Int) < (nb : Int) := by omega
          obtain ⟨b, off, x, rfl, hb, hx1, hx0⟩ := (hst.rd hra).elem eS_len Hla.out hlt
          obtain ⟨b', off', y, rfl, hb', hy1, hy0⟩ := (hst.rd hrb).elem eS_len Hlb.out hlt
          have hxy : x.l = y.l := by
            have h1 : L[k]? = some x.l := by rw [Hsa.out, List.getElem?_map, hx1]; rfl
            have h2 : L[k]? = some y.l := by rw [Hsb.out, List.getElem?_map, hy1]; rfl
            rw [h1] at h2
            exact Option.some.inj h2
          have hx2 := hx0 0 (by omega)
          have hy2 := hy0 0 (by omega)
          simp only [Nat.add_zero, Nat.mul_one, eS, List.getElem?_cons_zero] at hx2 hy2
          have gx := (hga x (List.mem_of_getElem? hx1))
          have gy := (hgb y (List.mem_of_getElem? hy1))
          have hcx : ∀ q, (convert 22 9 (.slice x.A x.n x.c)).run Try.prog (wr.drewN q) = .ok (.string (strOfNums (x.l.map fun b => (b.toNat : Int)))) (wr.drewN q) := fun q => conv_any ((hst.drewN q).rd gx.2.2.2) gx.1
          have hcy : ∀ q, (convert 22 9 (.slice y.A y.n y.c)).run Try.prog (wr.drewN q) = .ok (.string (strOfNums (x.l.map fun b => (b.toNat : Int)))) (wr.drewN q) := fun q => by rw [hxy]; exact conv_any ((hst.drewN q).rd gy.2.2.2) gy.1
          clear hx0 hy0 hx1 hy1 gx gy hxy hga hgb
          go_wp2
          go_quiet (fail)
          go_wp2
          go_roundw
          case rel => exact ⟨k + 1, by omega, by go_num, by repeat' (first | with_reducible exact Still.refl _ | with_reducible assumption | with_reducible refine Still.drewN ?_ _ | with_reducible refine Still.drew ?_ | with_reducible refine Still.trans ?_ (by with_reducible assumption))⟩
          case measure => simp [intOf]; omega
        · obtain rfl : nb = k := by omega
          replace o3 := o3.keep (keepE hst.ext (by omega))
          have hX6 : Ext w wr := hX5.trans hst.ext
          have hzr := hst.ext.size
          have hr06 := hX6.rd hr0 (Nat.le_refl _)
          obtain ⟨z, hz, hat⟩ := at_val A0 n0 c0 l0 1 w.heap.size hl0 (by omega) (by omega)
          go_wp2_with fail
          refine (hat _ (by exact hr06)).mono ?_
          rintro e w6 ⟨rfl, rfl⟩
          obtain ⟨k, hk⟩ : ∃ k : Nat, (z * 31) % (n3 + 1) = k := ⟨_, rfl⟩
          have hkl : k ≤ n3 := by have := Nat.mod_lt (z * 31) (show 0 < n3 + 1 by omega); omega
          have hrem : ((z : Int) * 31) % ((n3 : Int) + 1) = (k : Int) := by rw [← hk]; push_cast; rfl
          have Hk := Lib.hid hk
          clear hk
          obtain ⟨A3', n3', c3', hv3, hl3', hnc3, hcm3, hrd3⟩ := id o3.rd
          injection hv3 with e1 e2 e3
          subst e1 e2 e3
          have hkc : (k : Int) ≤ (c3 : Int) := by omega
          have hrt := hrd3.take hkl
          rw [flat_take eB_len] at hrt
          obtain ⟨s, p, cd, r, hs1, hp, hs2, hcnt⟩ := split_cut Hyes.out.1 Hyes.out.2 (cut := k) (by rw [Hl3.out]; exact hkl)
          rw [Hl3.out] at hs2
          have Hs1 := Lib.hid hs1
          have Hs2 := Lib.hid hs2
          have Hcnt := Lib.hid hcnt
          have hrc := hrd3.cut (k := p) (cap := c3) (by omega) hnc3
          rw [flat_drop eB_len] at hrc
          clear hs1 hs2 hcnt hl3'
          go_wp2_with fail
          refine (splitFrames_i _ _ _ _ (RdS.of hrt (by rw [List.length_take, Hl3.out]; omega) (by omega) hcm3) (by omega) (by rw [List.length_take, Hl3.out]; omega)).mono ?_
          rw [Hs1.out]
          rintro e w7 ⟨v7, rfl, o7, hE7⟩
          dsimp only at o7 ⊢
          have hz7 := hE7.size
          have hX7 := hX6.trans hE7
          obtain ⟨ss7, hss7, ⟨A7, n7, c7, hv7, hl7, -⟩, -⟩ := id o7.rd
          subst hv7
          have hn7 : n7 = s.length := by rw [hss7, List.length_map, hl7]
          have Hn7 := Lib.hid hn7
          have hn7b : n7 ≤ 102 := by have := Hcnt.out; have := Hlen.out; omega
          replace hrc := hE7.rd hrc (by omega)
          have hpk : (p : Int) ≤ (k : Int) := by omega
          have hp0 : (0 : Int) ≤ (p : Int) := by omega
          have hpn : (p : Int) ≤ (n3 : Int) := by omega
          have hpc : (p : Int) ≤ (c3 : Int) := by omega
          have d7 : decide ((k : Int) < (p : Int)) = false := by simp; omega
          have d8 : decide (k < p) = false := by simp; omega
          clear hss7 hl7 hn7 hrt
          by_cases hcp : c3 = p
          · rw [if_pos hcp] at hrc
            have hc0 : c3 - p = 0 := by omega
            go_wp2_with fail
            refine (splitFrames_i _ _ _ _ (RdS.of hrc (by rw [List.length_drop, Hl3.out]) (by omega) (by unfold maxLen; omega)) (by omega) (by rw [List.length_drop, Hl3.out]; omega)).mono ?_
            rw [Hs2.out]
            rintro e w8 ⟨v8, rfl, o8, hE8⟩
            dsimp only at o8 ⊢
            have hX8 := hX7.trans hE8
            obtain ⟨ss8, hss8, ⟨A8, n8, c8, hv8, hl8, -⟩, -⟩ := id o8.rd
            subst hv8
            have hn8 : n8 = r.length := by rw [hss8, List.length_map, hl8]
            have hsum : (n7 : Int) + (n8 : Int) = (nb : Int) := by have := Hcnt.out; have := Hn7.out; have := HLa.out; omega
            have hsub : ((n3 - p : Nat) : Int) = (n3 : Int) - (p : Int) := by omega
            have hn8b : n8 ≤ 102 := by omega
            rw [hsub]
            clear hss8 hl8 hn8 hsub
            go_wp2
            go_ret
            exact ⟨rfl, hX8⟩
          · rw [if_neg hcp, Nat.mul_one] at hrc
            go_wp2_with fail
            refine (splitFrames_i _ _ _ _ (RdS.of hrc (by rw [List.length_drop, Hl3.out]) (by omega) (by omega)) (by omega) (by rw [List.length_drop, Hl3.out]; omega)).mono ?_
            rw [Hs2.out]
            rintro e w8 ⟨v8, rfl, o8, hE8⟩
            dsimp only at o8 ⊢
            have hX8 := hX7.trans hE8
            obtain ⟨ss8, hss8, ⟨A8, n8, c8, hv8, hl8, -⟩, -⟩ := id o8.rd
            subst hv8
            have hn8 : n8 = r.length := by rw [hss8, List.length_map, hl8]
            have hsum : (n7 : Int) + (n8 : Int) = (nb : Int) := by have := Hcnt.out; have := Hn7.out; have := HLa.out; omega
            have hsub : ((n3 - p : Nat) : Int) = (n3 : Int) - (p : Int) := by omega
            have hn8b : n8 ≤ 102 := by omega
            rw [hsub]
            clear hss8 hl8 hn8 hsub
            go_wp2
            go_ret
            exact ⟨rfl, hX8⟩
    · rw [joinL_no hyes] at o3 ⊢
      obtain ⟨A3, n3, c3, hv3, hl3, ow3⟩ := id o3
      subst hv3
      have hn3 : n3 = 0 := hl3.symm
      subst hn3
      clear hyes
      go_wp2
      go_ret
      exact ⟨rfl, hX4⟩

set_option maxRecDepth 100000 in
theorem lifted (os : Os) (started : os.Started) (H : Type) (enc : TypeId × Value → H) :
    ReturnsInHanded {} Try.checked os 5 .any (Rows.fnSplitSpec.pre6 enc Try.prog Try.f5 Rows.fnSplitRow.domain false) (Rows.fnSplitSpec.post enc Try.prog Try.f5 false true false false) := by
  refine returnsInHanded_of_change (C := Try.checked) own started (by kernel_rfl) Try.func5
    (ChangeSpec.witness6 (enc := enc) (C := Try.checked) false ⟨#[], #[.slice none 0 0], []⟩ 8 (by kernel_rfl) (by kernel_rfl) (by kernel_rfl) (by kernel_rfl)) ?_
  intro W base args ds gs before hval0 hW hcnd _
  have hval : ∀ (j : Nat) t v, Try.f5.params[j]? = some t → args[j]? = some v → Value.okWide Try.prog W .any base t v := hval0
  have hW' := hW
  obtain ⟨p, q, hA0, hV, rfl, hfz, hnd⟩ := hW
  have hA : DataW.TrodAll enc Try.prog W 0 (fun _ => true) true Try.f5.params.toList args.toList ds p := hA0
  rw [Try.params5] at hA hval
  obtain ⟨vv0, vs0, dd0, ds0, pp0, qq0, hargs, rfl, rfl, ht0, rr0⟩ := trodAll_cons hA
  obtain ⟨rfl, rfl, rfl⟩ := trodAll_nil rr0
  obtain rfl : args = #[vv0] := by cases args; simp_all
  obtain ⟨rfl, rfl⟩ := trodVars_none hV
  have trd0 := ht0
  have lts0 : ∀ x ∈ pp0, x.block < W.heap.size := by obtain ⟨m, hm⟩ := trd0; exact DataW.trod_lt m _ _ _ hm
  obtain ⟨l0, r0⟩ := open_ByteS_arg (hval 0 22 vv0 rfl rfl) ht0
  clear hA0 hval0
  refine (walk vv0  l0  W r0).mono fun e W' ⟨he, bel⟩ => ?_
  subst he
  exact ⟨_, rfl, _, _, _, [], _, [], hW', trodAll_mk1 (shut_bool Try.underlying4 _), (trodAll_cons_mk (Below.trod laidOut (by kernel_rfl) (of_decide_eq_true (by kernel_rfl)) trd0 bel lts0) trodAll_mk0), rfl, Below.frame bel _, fun h => by cases h⟩

theorem over : Rows.fnSplitRow.holds Try.pinned (OpenSpec.ofChange Rows.fnSplitSpec) :=
  OpenClaim.holds_of_wide 5 Try.f5 rfl rfl rfl rfl rfl rfl rfl ⟨rfl, rfl, rfl, rfl, rfl⟩ rfl rfl rfl rfl rfl (by as_aux_lemma => kernel_rfl) Try.func5 (by as_aux_lemma => kernel_rfl)
    (of_decide_eq_true (by as_aux_lemma => kernel_rfl)) (by as_aux_lemma => unfold Func.isWrapper; first | (rw [if_pos (by decide +kernel)]; kernel_rfl) | (rw [if_neg (by decide +kernel)]; exact ⟨rfl, rfl⟩))
    (fun os started H enc _ => lifted os started H enc)

theorem proved : Rows.FnSplitSaid := over
#print axioms proved
end Go.Proofs.Ytikkfkomieedmaa.fnSplit
