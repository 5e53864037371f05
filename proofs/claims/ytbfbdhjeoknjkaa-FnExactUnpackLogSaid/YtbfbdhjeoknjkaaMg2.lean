/-
  Texts of this seat, merged: Gets, Nums1.
-/
import Derived.Test.YtbfbdhjeoknjkaaNums
import Derived.Test.YtbfbdhjeoknjkaaMath2
/-
  GetNums, the program's and the reference's, walked.
-/
namespace Go.Proofs.Ytbfbdhjeoknjkaa
open Go.RowKit

def getMany (b : List UInt8) : Nat → Int → Option (List Int × Int)
  | 0, a => some ([], a)
  | k + 1, a => match getNum b a with
    | none => none
    | some (x, e) => (getMany b k (e : Nat)).map fun r => ((x : Int) :: r.1, r.2)
/-- 'GetNums'. -/
def getNums (b : List UInt8) (a many : Int) : Option (List Int × Int) := if 1 ≤ many ∧ many ≤ 4000 then getMany b many.toNat a else none
def gmL (r : Option (List Int × Int)) : List Int := (r.map (·.1)).getD []
def gmE (r : Option (List Int × Int)) : Int := (r.map (·.2)).getD 0

theorem getMany_none {b : List UInt8} {k : Nat} {a : Int} (h : getNum b a = none) : getMany b (k + 1) a = none := by simp only [getMany, h]
theorem getMany_some {b : List UInt8} {k : Nat} {a : Int} {x e : Nat} (h : getNum b a = some (x, e)) : getMany b (k + 1) a = (getMany b k (e : Nat)).map fun r => ((x : Int) :: r.1, r.2) := by simp only [getMany, h]
theorem map_map_pre (o : Option (List Int × Int)) (pre : List Int) (x : Int) : ((o.map fun r => (x :: r.1, r.2)).map fun r => (pre ++ r.1, r.2)) = o.map fun r => ((pre ++ [x]) ++ r.1, r.2) := by
  cases o <;> simp

theorem oneCell_I (l : List Int) : ∀ u ∈ l.flatMap eI, u.oneCell' = true := by
  intro u hu
  obtain ⟨b, _, hb⟩ := List.mem_flatMap.1 hu
  simp [eI] at hb
  subst hb
  rfl

set_option maxRecDepth 100000 in
set_option maxHeartbeats 1000000 in
theorem getNums_s (v : Value) (l : List UInt8) (a many : Int) (w : World) (B : Nat) (hr : RdS w B 1 eB v l) (hB : B ≤ w.heap.size) (hn : l.length ≤ 4611686018427387904) :
    Calls Try.prog 112 #[v, .int .i64 a, .int .i64 many] w fun e w' => ∃ v', e = .returned (.tuple #[v', .int .i64 (gmE (getNums l a many)), .bool (getNums l a many).isSome]) ∧ OwnS w' w.heap.size w'.heap.size 3 1 eI v' (gmL (getNums l a many)) ∧ Ext w w' := by
  obtain ⟨A, n, c, rfl, hl, hnc, hcm, hr⟩ := hr
  obtain ⟨i0, hi0, hz0, hz1, hz2⟩ := info_parts info_Int
  rw [hl] at hn
  have Hl := Lib.hid hl
  clear hl hcm
  by_cases hm : 1 ≤ many ∧ many ≤ 4000
  · have hg : Hid (getNums l a many = getMany l many.toNat a) := if_pos hm
    obtain ⟨hm1, hm2⟩ := hm
    obtain ⟨m, rfl⟩ := Int.eq_ofNat_of_zero_le (show 0 ≤ many by omega)
    rw [Int.toNat_natCast] at hg
    have hin : inB (m : Int) 1 4000 = true := by simp [inB]; omega
    generalize getNums l a (m : Int) = res at *
    go_enter Try.func112, Try.ntmps112
    go_wp2_with (go_at_call 72; refine (l1In_any _ _ _ _).mono ?_; rintro e w' ⟨rfl, rfl⟩)
    go_loopw [1, 9, 10] (fun av ov iv wr => ∃ (k j : Nat) (a' : Int) (pre : List Int) (A' : Option Addr) (c' : Nat), k ≤ m ∧ iv = .int .i64 k ∧ av = .int .i64 a' ∧ ov = .slice A' k c' ∧ Hid (pre.length = k) ∧ Hid (res = (getMany l (m - k) a').map fun r => (pre ++ r.1, r.2)) ∧ Own wr w.heap.size wr.heap.size 3 1 (.slice A' k c') k (pre.flatMap eI) ∧ Ext w wr) (fun _ _ iv _ => m - (intOf iv).toNat)
    case atStart => exact ⟨0, 0, a, [], _, 0, by omega, rfl, rfl, rfl, rfl, by show _ = _; rw [hg.out]; simp, Own.nil _ _ _ _ _ _, by repeat' (first | with_reducible exact Ext.refl _ | with_reducible assumption | with_reducible refine Ext.set ?_ ?_ _ _ | with_reducible refine Ext.alloc ?_ _ | with_reducible refine Ext.drew ?_ | with_reducible refine Ext.drewN ?_ _ | with_reducible refine Ext.trans ?_ (by with_reducible assumption) | omega | (simp; done) | (simp; omega))⟩
    case round =>
      obtain ⟨k, _, a', pre, A', c', hk, rfl, rfl, rfl, hpre, hres, hown, hext⟩ := hrel
      by_cases hlt : k < m
      · obtain ⟨o, ho⟩ : ∃ o, getNum l a' = o := ⟨_, rfl⟩
        have Ho := Lib.hid ho
        clear ho
        have hf : Hid (m - k = (m - (k + 1)) + 1) := by show _ = _; omega
        rcases o with _ | ⟨x, e⟩
        · have hres' : Hid (res = none) := by rw [hres.out, hf.out, getMany_none Ho.out]; rfl
          clear hres
          go_wp2_with fail
          refine (getNum_s _ _ _ l _ _ _ (hext.rd hr hB) Hl.out hn).mono ?_
          rw [Ho.out]
          dsimp only [gnV]
          rintro e w1 ⟨rfl, hs1⟩
          have hE1 := hext.trans hs1.ext
          go_wp2
          go_ret3
          exact ⟨_, by rw [hres'.out]; rfl, by rw [hres'.out]; exact OwnS.nil _, by repeat' (first | with_reducible exact Ext.refl _ | with_reducible assumption | with_reducible refine Ext.set ?_ ?_ _ _ | with_reducible refine Ext.alloc ?_ _ | with_reducible refine Ext.drew ?_ | with_reducible refine Ext.drewN ?_ _ | with_reducible refine Ext.trans ?_ (by with_reducible assumption) | omega | (simp; done) | (simp; omega))⟩
        · have hres' : Hid (res = (getMany l (m - (k + 1)) (e : Nat)).map fun r => ((pre ++ [(x : Int)]) ++ r.1, r.2)) := by rw [hres.out, hf.out, getMany_some Ho.out, map_map_pre]; rfl
          clear hres
          go_wp2_with fail
          refine (getNum_s _ _ _ l _ _ _ (hext.rd hr hB) Hl.out hn).mono ?_
          rw [Ho.out]
          dsimp only [gnV]
          rintro e1 w1 ⟨rfl, hs1⟩
          have hE1 := hext.trans hs1.ext
          have hown1 := hs1.own hown
          have hz3 := hs1.ext.size
          have hz4 := hE1.size
          go_wp2_with (at_builtin; refine wpList_app _ rfl _ _ 84 rfl 3 i0 _ 1 8 Try.underlying84 hi0 hz0 hz1 hz2 rfl (by omega) w.heap.size wr.heap.size (.slice A' k c') k (pre.flatMap eI) rfl (((Ext.refl w1).alloc _).own (hi := wr.heap.size) hown1 (by omega)) (by simp; omega) (by simp; omega) (w1.heap.size + 1) (some ⟨w1.heap.size, 0, none⟩) 1 1 [.int .i64 (x : Nat)] rfl (rd_one _ _ _) (by simp [Value.oneCell']) (by unfold maxLen; omega) (by omega) ?_)
          intro A3 c3 w3 hown3 hg3
          have hE3 := (hE1.alloc _).grown hg3 (fun g h => (hown1.lt g h).1)
          clear hg3 hown hown1
          go_wp2
          go_roundw
          case rel =>
            refine ⟨k + 1, 0, _, pre ++ [(x : Int)], A3, c3, by omega, by go_num, rfl, rfl, ?_, hres'.out, ?_, hE3⟩
            · show _ = _
              rw [List.length_append, hpre.out]
              rfl
            · rw [List.flatMap_append, List.flatMap_singleton]
              exact hown3
          case measure => simp [intOf]; omega
      · obtain rfl : k = m := by omega
        have hres' : Hid (res = some (pre, a')) := by rw [hres.out, Nat.sub_self]; simp [getMany, Hid]
        clear hres
        go_wp2
        go_ret3
        exact ⟨_, by rw [hres'.out]; rfl, by rw [hres'.out]; exact OwnS.of hown hpre.out, hext⟩
  · have hg : Hid (getNums l a many = none) := if_neg hm
    generalize getNums l a many = res at *
    have hin : inB many 1 4000 = false := by simp [inB]; omega
    clear hm
    go_enter Try.func112, Try.ntmps112
    go_wp2_with (go_at_call 72; refine (l1In_any _ _ _ _).mono ?_; rintro e w' ⟨rfl, rfl⟩)
    go_ret3
    exact ⟨_, by rw [hg.out]; rfl, by rw [hg.out]; exact OwnS.nil _, by repeat' (first | with_reducible exact Ext.refl _ | with_reducible assumption | with_reducible refine Ext.set ?_ ?_ _ _ | with_reducible refine Ext.alloc ?_ _ | with_reducible refine Ext.drew ?_ | with_reducible refine Ext.drewN ?_ _ | with_reducible refine Ext.trans ?_ (by with_reducible assumption) | omega | (simp; done) | (simp; omega))⟩


theorem getMany_len {b : List UInt8} : ∀ (k : Nat) (a : Int) (r : List Int × Int), getMany b k a = some r → r.1.length = k := by
  intro k
  induction k with
  | zero => intro a r h; simp [getMany] at h; subst h; rfl
  | succ k ih =>
    intro a r h
    simp only [getMany] at h
    split at h
    · cases h
    · cases hm : getMany b k _ with
      | none => rw [hm] at h; cases h
      | some q =>
        rw [hm] at h
        simp at h
        subst h
        simp [ih _ _ hm]
theorem gm_len (b : List UInt8) (a many : Int) : (gmL (getNums b a many)).length ≤ 4000 := by
  unfold getNums
  split
  · cases hm : getMany b many.toNat a with
    | none => simp [gmL]
    | some r =>
      have := getMany_len _ _ _ hm
      simp [gmL, this]
      omega
  · simp [gmL]

end Go.Proofs.Ytbfbdhjeoknjkaa

/-
  Numbers are read from their forms: in plain words.
-/
namespace Go.Proofs.Ytbfbdhjeoknjkaa

theorem getMany_put : ∀ (l : List Int) (pre rest : List UInt8), (∀ x ∈ l, 0 ≤ x ∧ x ≤ 9223372036854775807) →
    getMany (pre ++ putAll l ++ rest) l.length (pre.length : Int) = some (l, ((pre.length + (putAll l).length : Nat) : Int)) := by
  intro l
  induction l with
  | nil => intro pre rest _; simp [getMany, putAll]
  | cons x l ih =>
    intro pre rest h
    have hx := h x (List.mem_cons_self ..)
    have hxn : ((x.toNat : Nat) : Int) = x := by omega
    have hg := getNum_put pre (putAll l ++ rest) x.toNat (by rw [show (128 : Nat) ^ 9 = 9223372036854775808 from by decide]; omega)
    have hp : putAll (x :: l) = putNum x.toNat ++ putAll l := rfl
    have he : pre ++ putAll (x :: l) ++ rest = pre ++ putNum x.toNat ++ (putAll l ++ rest) := by rw [hp]; simp
    rw [List.length_cons, he, getMany_some hg]
    have he2 : pre ++ putNum x.toNat ++ (putAll l ++ rest) = (pre ++ putNum x.toNat) ++ putAll l ++ rest := by simp
    have h2 := ih (pre ++ putNum x.toNat) rest (fun y hy => h y (List.mem_cons_of_mem _ hy))
    rw [List.length_append] at h2
    rw [he2, h2]
    simp only [Option.map_some, hxn, hp, List.length_append, Option.some.injEq, Prod.mk.injEq, true_and]
    omega
theorem getNums_put (l : List Int) (rest : List UInt8) (h : ∀ x ∈ l, 0 ≤ x ∧ x ≤ 9223372036854775807) (h0 : 0 < l.length) (h1 : l.length ≤ 4000) :
    getNums (putAll l ++ rest) 0 (l.length : Int) = some (l, ((putAll l).length : Int)) := by
  unfold getNums
  rw [if_pos (by omega)]
  have := getMany_put l [] rest h
  simp only [List.nil_append, List.length_nil, Nat.zero_add, Int.toNat_natCast] at this ⊢
  exact this

end Go.Proofs.Ytbfbdhjeoknjkaa
