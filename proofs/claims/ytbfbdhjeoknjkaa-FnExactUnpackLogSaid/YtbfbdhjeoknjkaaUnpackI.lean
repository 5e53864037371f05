/-
  UnpackLog of the program, walked.
-/
import Derived.Test.YtbfbdhjeoknjkaaReader
import Derived.Test.YtbfbdhjeoknjkaaHeldY
import Derived.Test.YtbfbdhjeoknjkaaBig
import Derived.Test.YtbfbdhjeoknjkaaLogOk
import Derived.Test.YtbfbdhjeoknjkaaDrawG
namespace Go.Proofs.Ytbfbdhjeoknjkaa
open Go.RowKit

theorem Kp.sub {lo hi lo' hi' : Nat} {a b : World} (h : Kp lo hi a b) (h1 : lo ≤ lo') (h2 : hi' ≤ hi) : Kp lo' hi' a b := fun k g1 g2 => h k (by omega) (by omega)
theorem Rdr.kp {a b : World} {g lo hi n c : Nat} {A : Option Addr} {s : Option Int} (h : Rdr a g A n c s) (hk : Kp lo hi a b) (h1 : lo ≤ g) (h2 : g < hi) : Rdr b g A n c s := by
  obtain ⟨x, hb, hx⟩ := h
  exact ⟨x, hb.kp hk h1 h2, hx⟩
theorem Rd.kp {a b : World} {B sz n hi : Nat} {A : Option Addr} {xs : List Value} (h : Rd a B sz A n xs) (hk : Kp 0 hi a b) (h2 : B ≤ hi) : Rd b B sz A n xs := h.keep fun p hp => World.cell?_of_block (hk p.block (Nat.zero_le _) (by omega))
theorem getD_bound {l : List Int} (h : ∀ x ∈ l, 0 ≤ x ∧ x ≤ 9223372036854775807) (j : Nat) : 0 ≤ l.getD j 0 ∧ l.getD j 0 ≤ 9223372036854775807 := by
  rw [List.getD_eq_getElem?_getD]
  cases hj : l[j]? with
  | none => simp
  | some x => exact h x (List.mem_of_getElem? hj)
/-- A row of numbers: its cells. -/
theorem SlI.Mine.cells {s : SlI} {w : World} {lo hi wide : Nat} (h : s.Mine w lo hi) (hl : s.l.length = wide) (h0 : 0 < wide) : ∃ g, s.A = some ⟨g, 0, none⟩ ∧ s.n = wide ∧ lo ≤ g ∧ g < hi ∧ ∀ j, j < wide → w.cell? ⟨g, j, none⟩ = some (.int .i64 (s.l.getD j 0)) := by
  obtain ⟨A, n, c, hv, hn, ho⟩ := h
  injection hv with e1 e2 e3
  subst e1 e2 e3
  have hw : s.n = wide := by rw [← hn, hl]
  obtain ⟨g, cap, hv2, h1, h2, -, -, hc, -⟩ := ho.row (by omega)
  injection hv2 with e1 e2 e3
  refine ⟨g, e1, hw, h1, h2, fun j hj => ?_⟩
  rw [hc j (by omega)]
  have hj2 : j < s.l.length := by omega
  have h3 := flat_get (enc := eI) eI_len (l := s.l) (k := j) (j := 0) (List.getElem?_eq_getElem hj2) (by omega)
  rw [Nat.mul_one, Nat.add_zero] at h3
  rw [h3]
  simp [eI, List.getD_eq_getElem?_getD, List.getElem?_eq_getElem hj2]
theorem OwnS.spotI {w : World} {lo hi m c : Nat} {A : Option Addr} {e : TypeId} {os : List SlI} (h : OwnS w lo hi e 1 eSI (.slice A m c) os) {i : Nat} (him : i < m) : ∃ g s, A = some ⟨g, 0, none⟩ ∧ lo ≤ g ∧ g < hi ∧ os[i]? = some s ∧ w.cell? ⟨g, i, none⟩ = some (.slice s.A s.n s.c) := by
  obtain ⟨A', n, c', hv, hn, ho⟩ := h
  injection hv with e1 e2 e3
  subst e1 e2 e3
  obtain ⟨g, cap, hv2, h1, h2, -, -, hc, -⟩ := ho.row (by omega)
  injection hv2 with e1 e2 e3
  have hj2 : i < os.length := by omega
  refine ⟨g, os[i], e1, h1, h2, List.getElem?_eq_getElem hj2, ?_⟩
  rw [hc i (by omega)]
  have h3 := flat_get (enc := eSI) eSI_len (l := os) (k := i) (j := 0) (List.getElem?_eq_getElem hj2) (by omega)
  rw [Nat.mul_one, Nat.add_zero] at h3
  rw [h3]
  rfl
theorem map_take_snoc {α β : Type} {f : α → β} {l : List α} {i : Nat} {x : α} (h : l[i]? = some x) : (l.map f).take i ++ [f x] = (l.map f).take (i + 1) := by
  have : (l.map f)[i]? = some (f x) := by simp [h]
  rw [take_snoc this]

set_option maxRecDepth 100000 in
set_option maxHeartbeats 16000000 in
theorem unpackLog_i (v : Value) (l : List UInt8) (a : Int) (w : World) (B : Nat) (hr : RdS w B 1 eB v l) (hB : B ≤ w.heap.size) (hn : l.length ≤ 4611686018427387904) :
    Calls Try.prog 26 #[v, .int .i64 a] w fun e w' => ∃ v', e = .returned (.tuple #[v', .int .i64 (unpackL l a).2.1, .bool (unpackL l a).2.2]) ∧ O_Log w' w.heap.size w'.heap.size v' (unpackL l a).1 ∧ Ext w w' := by
  obtain ⟨A, n, c, rfl, hl, -, -, hrd⟩ := hr
  rw [hl] at hn
  obtain ⟨i0, hi0, hz0, hz1, hz2⟩ := info_parts info_Cell
  obtain ⟨j0, hj0, hy0, hy1, hy2⟩ := info_parts info_Seat
  obtain ⟨k0, hk0, hx0, hx1, hx2⟩ := info_parts info_Entry
  have hp2 : 0 < 2 := by omega
  have hp3 : 0 < 3 := by omega
  have hp5 : 0 < 5 := by omega
  obtain ⟨res, hres⟩ : ∃ res, unpackL l a = res := ⟨_, rfl⟩
  rw [hres]
  have Hres := Lib.hid hres
  clear hres
  have hW0 : Ext w (((w.alloc (.cells #[.int .i64 0, .slice none 0 0, .slice none 0 0, .slice none 0 0] 42)).alloc (.cells #[.slice A n c, .int .i64 a, .bool true] 106)).alloc (.cells #[.int .i64 0, .slice none 0 0, .slice none 0 0, .slice none 0 0] 42)) := by repeat' (first | with_reducible exact Ext.refl _ | with_reducible assumption | with_reducible refine Ext.set ?_ ?_ _ _ | with_reducible refine Ext.alloc ?_ _ | with_reducible refine Ext.drew ?_ | with_reducible refine Ext.drewN ?_ _ | with_reducible refine Ext.trans ?_ (by with_reducible assumption) | omega | (simp; done) | (simp; omega))
  have zW0 : w.heap.size + 3 ≤ (((w.alloc (.cells #[.int .i64 0, .slice none 0 0, .slice none 0 0, .slice none 0 0] 42)).alloc (.cells #[.slice A n c, .int .i64 a, .bool true] 106)).alloc (.cells #[.int .i64 0, .slice none 0 0, .slice none 0 0, .slice none 0 0] 42)).heap.size := by simp
  have z : Blk (((w.alloc (.cells #[.int .i64 0, .slice none 0 0, .slice none 0 0, .slice none 0 0] 42)).alloc (.cells #[.slice A n c, .int .i64 a, .bool true] 106)).alloc (.cells #[.int .i64 0, .slice none 0 0, .slice none 0 0, .slice none 0 0] 42)) w.heap.size 42 [.int .i64 0, .slice none 0 0, .slice none 0 0, .slice none 0 0] := (((Blk.new w #[.int .i64 0, .slice none 0 0, .slice none 0 0, .slice none 0 0] 42 (by first | rfl | simp)).alloc (.cells #[.slice A n c, .int .i64 a, .bool true] 106)).alloc (.cells #[.int .i64 0, .slice none 0 0, .slice none 0 0, .slice none 0 0] 42))
  have r : Blk (((w.alloc (.cells #[.int .i64 0, .slice none 0 0, .slice none 0 0, .slice none 0 0] 42)).alloc (.cells #[.slice A n c, .int .i64 a, .bool true] 106)).alloc (.cells #[.int .i64 0, .slice none 0 0, .slice none 0 0, .slice none 0 0] 42)) (w.heap.size + 1) 106 [.slice A n c, .int .i64 a, .bool true] := ((Blk.new (w.alloc (.cells #[.int .i64 0, .slice none 0 0, .slice none 0 0, .slice none 0 0] 42)) #[.slice A n c, .int .i64 a, .bool true] 106 (by first | rfl | simp)).alloc (.cells #[.int .i64 0, .slice none 0 0, .slice none 0 0, .slice none 0 0] 42))
  have p : Blk (((w.alloc (.cells #[.int .i64 0, .slice none 0 0, .slice none 0 0, .slice none 0 0] 42)).alloc (.cells #[.slice A n c, .int .i64 a, .bool true] 106)).alloc (.cells #[.int .i64 0, .slice none 0 0, .slice none 0 0, .slice none 0 0] 42)) (w.heap.size + 2) 42 [.int .i64 0, .slice none 0 0, .slice none 0 0, .slice none 0 0] := (Blk.new ((w.alloc (.cells #[.int .i64 0, .slice none 0 0, .slice none 0 0, .slice none 0 0] 42)).alloc (.cells #[.slice A n c, .int .i64 a, .bool true] 106)) #[.int .i64 0, .slice none 0 0, .slice none 0 0, .slice none 0 0] 42 (by first | rfl | simp))
  replace p : Blk _ (w.heap.size + 1 + 1) _ _ := p
  go_enter Try.func26, Try.ntmps26
  go_wp2_with fail
  generalize (((w.alloc (.cells #[.int .i64 0, .slice none 0 0, .slice none 0 0, .slice none 0 0] 42)).alloc (.cells #[.slice A n c, .int .i64 a, .bool true] 106)).alloc (.cells #[.int .i64 0, .slice none 0 0, .slice none 0 0, .slice none 0 0] 42)) = W0 at *
  have hX : Ext w W0 := hW0
  have hrd0 := hW0.rd hrd hB
  have hR : Rdr W0 (w.heap.size + 1) A n c (some a) := ⟨a, r, fun x hx => by injection hx⟩
  clear r hW0
  refine (num_i (w.heap.size + 1) A n c l B (some a) _ hR (by exact hrd0) (by omega) hl hn).mono ?_
  obtain ⟨rn, hrn⟩ : ∃ rn, rdNum l (some a) = rn := ⟨_, rfl⟩
  have Hrn := Lib.hid hrn
  rw [hrn]
  obtain ⟨base, s0⟩ := rn
  clear hrn hR
  rintro e w1 ⟨rfl, hR, hF1⟩
  have hz1' := hF1.size
  replace z := z.fr hF1 (.inl (by omega))
  replace p := p.fr hF1 (.inr (by omega))
  replace hrd0 := hrd0.fr hF1 (by omega) (by omega)
  replace hX := hX.fr hF1 (by omega)
  clear hF1
  dsimp only at hR
  obtain ⟨p_p0, p_f0⟩ := p.at 0 _ rfl
  obtain ⟨p_p1, p_f1⟩ := p.at 1 _ rfl
  obtain ⟨p_p2, p_f2⟩ := p.at 2 _ rfl
  obtain ⟨p_p3, p_f3⟩ := p.at 3 _ rfl
  go_wp2_with fail
  clear p_p0 p_f0 p_p1 p_f1 p_p2 p_f2 p_p3 p_f3
  have p1 := p.set 0 (.int .i64 base)
  replace p := (show Blk _ _ _ [.int .i64 base, .slice none 0 0, .slice none 0 0, .slice none 0 0] from p1)
  have hK : Kp 0 (w.heap.size + 1 + 1) w1 (w1.setCell ⟨w.heap.size + 1 + 1, 0, none⟩ (.int .i64 base)) := (Kp.refl _ _ _).set (.inr (by omega)) _ _
  replace z := z.kp hK (by omega) (by omega)
  replace hR := hR.kp hK (by omega) (by omega)
  replace hrd0 := hrd0.kp hK (by omega)
  replace hX : Ext w (w1.setCell ⟨w.heap.size + 1 + 1, 0, none⟩ (.int .i64 base)) := hX.set (by omega) _ _
  have hz2' : w1.heap.size ≤ (w1.setCell ⟨w.heap.size + 1 + 1, 0, none⟩ (.int .i64 base)).heap.size := by simp
  clear hK p1
  generalize w1.setCell ⟨w.heap.size + 1 + 1, 0, none⟩ (.int .i64 base) = w2 at *
  refine (rows_i (w.heap.size + 1) A n c l B s0 40 2 _ hR (by exact hrd0) (by omega) hl hn (by omega) (by omega)).mono ?_
  obtain ⟨q, hq⟩ : ∃ q, rdAll l 40 2 s0 = q := ⟨_, rfl⟩
  have hwq := rdAll_wide l 40 2 s0
  have hmq := rdAll_len l 40 2 s0
  rw [hq] at hwq hmq ⊢
  have Hq1 := Lib.hid hq
  obtain ⟨R1, s1⟩ := q
  clear hq hR
  dsimp only at hwq hmq
  rintro e w3 ⟨v, rfl, o3, hR, hF⟩
  have hz3 := hF.size
  replace z := z.fr hF (.inl (by omega))
  replace p := p.fr hF (.inr (by omega))
  replace hrd0 := hrd0.fr hF (by omega) (by omega)
  replace hX := hX.fr hF (by omega)
  obtain ⟨os1, hos1, oo1, om1⟩ := o3
  dsimp only at hos1
  obtain ⟨A3, m1, c3, hv3, hl3, -⟩ := id oo1
  subst hv3
  have Hl1 := Lib.hid hl3
  have hm1 : m1 ≤ 40 := by rw [hos1, List.length_map, hl3] at hmq; exact hmq
  have Hwid1 : Hid (∀ s ∈ os1, s.l.length = 2 ∧ ∀ x ∈ s.l, 0 ≤ x ∧ x ≤ 9223372036854775807) := fun s hs => hwq s.l (by rw [hos1]; exact List.mem_map.2 ⟨s, hs, rfl⟩)
  have Hos1 := Lib.hid hos1
  clear hF hwq hmq hl3 hos1
  dsimp only at hR
  go_wp2
  go_loopw [26] (fun iv wr => ∃ (i : Nat) (A' : Option Addr) (c' : Nat), i ≤ m1 ∧ iv = .int .i64 i ∧ Kp 0 (w.heap.size + 1 + 1) w3 wr ∧ Kp (w.heap.size + 3) w3.heap.size w3 wr ∧ w3.heap.size ≤ wr.heap.size ∧ Ext w wr ∧ Blk wr (w.heap.size + 1 + 1) 42 [.int .i64 base, .slice A' i c', .slice none 0 0, .slice none 0 0] ∧ Own wr w3.heap.size wr.heap.size 86 2 (.slice A' i c') i (((os1.map (fun s => toC s.l)).take i).flatMap eCell)) (fun iv _ => m1 - (intOf iv).toNat)
  case atStart => exact ⟨0, none, 0, by omega, rfl, Kp.refl _ _ _, Kp.refl _ _ _, Nat.le_refl _, hX, p, Own.nil _ _ _ _ _ _⟩
  case round =>
    obtain ⟨i, AC, cC, hi, rfl, hK1, hK2, hzr, hXr, pr, own⟩ := hrel
    by_cases hlt : i < m1
    · have hlt' : (i : Int) < (m1 : Int) := by omega
      obtain ⟨g3, s, rfl, hg3a, hg3, hsi, d0⟩ := oo1.spotI hlt
      have hmem := List.mem_of_getElem? hsi
      have hwid := Hwid1.out s hmem
      obtain ⟨gs, hsA, hsn, hgs1, hgs2, hcs⟩ := (om1 s hmem).cells hwid.1 (by omega)
      rw [hsA, hsn] at d0
      replace d0 := (World.cell?_of_block (a := ⟨g3, i, none⟩) (hK2 g3 (by omega) (by omega))).trans d0
      have e0 := (World.cell?_of_block (a := ⟨gs, 0, none⟩) (hK2 gs (by omega) (by omega))).trans (hcs 0 (by omega))
      have e1 := (World.cell?_of_block (a := ⟨gs, 1, none⟩) (hK2 gs (by omega) (by omega))).trans (hcs 1 (by omega))
      have hsn := map_take_snoc (f := fun s : SlI => toC s.l) hsi
      have hto : toC s.l = (⟨s.l.getD 0 0, s.l.getD 1 0⟩ : CellD) := rfl
      rw [hto] at hsn
      generalize s.l.getD 0 0 = x0 at *
      generalize s.l.getD 1 0 = x1 at *
      clear hcs hsA hto hsi hmem hwid
      have hlp := pr.lt
      have hml : i + 1 ≤ maxLen := by unfold maxLen; omega
      have hbl : (i + 1) * 16 ≤ 140737488355328 := by omega
      obtain ⟨pr_p0, pr_f0⟩ := pr.at 0 _ rfl
      obtain ⟨pr_p1, pr_f1⟩ := pr.at 1 _ rfl
      obtain ⟨pr_p2, pr_f2⟩ := pr.at 2 _ rfl
      obtain ⟨pr_p3, pr_f3⟩ := pr.at 3 _ rfl
      go_upto_region 7 with (fail)
      refine region_anyY (X := [14]) (S := (fun w' => w'.cell? ⟨w.heap.size + 1 + 1, 1, none⟩ = some (.slice AC i cC) ∧ w'.cell? ⟨gs, 0, none⟩ = some (.int .i64 x0) ∧ w'.cell? ⟨gs, 1, none⟩ = some (.int .i64 x1))) (by kernel_rfl) ⟨pr_p1, e0, e1⟩ (fun hHeld => ?_)
      refine anyY_take (i := 0) (v := ?_) rfl (by kernel_rfl) (by kernel_rfl) (by kernel_rfl) (by kernel_rfl) (fun _ _ _ h => h) (Or.inl ⟨by rfl, ?_⟩) (by assumption) ?_
      rotate_left
      · (intro w hSw; (try dsimp only at hSw); go_simp; (try with_reducible rfl))
      try simp only [Act.put, List.getElem_toArray, List.getElem_cons_zero, List.getElem_cons_succ, List.setIfInBounds_toArray, List.set_cons_zero, List.set_cons_succ]
      refine anyY_take (i := 1) (v := ?_) rfl (by kernel_rfl) (by kernel_rfl) (by kernel_rfl) (by kernel_rfl) (fun _ _ _ h => h) (Or.inl ⟨by rfl, ?_⟩) (by assumption) ?_
      rotate_left
      · (intro w hSw; (try dsimp only at hSw); go_simp; (try with_reducible rfl))
      try simp only [Act.put, List.getElem_toArray, List.getElem_cons_zero, List.getElem_cons_succ, List.setIfInBounds_toArray, List.set_cons_zero, List.set_cons_succ]
      refine anyY_take (i := 2) (v := ?_) rfl (by kernel_rfl) (by kernel_rfl) (by kernel_rfl) (by kernel_rfl) (fun _ _ _ h => h) (Or.inl ⟨by rfl, ?_⟩) (by assumption) ?_
      rotate_left
      · (intro w hSw; (try dsimp only at hSw); go_simp; (try with_reducible rfl))
      try simp only [Act.put, List.getElem_toArray, List.getElem_cons_zero, List.getElem_cons_succ, List.setIfInBounds_toArray, List.set_cons_zero, List.set_cons_succ]
      refine anyY_take (i := 3) (v := ?_) rfl (by kernel_rfl) (by kernel_rfl) (by kernel_rfl) (by kernel_rfl) (fun _ _ _ h => h) (Or.inl ⟨by rfl, ?_⟩) (by assumption) ?_
      rotate_left
      · (intro w hSw; (try dsimp only at hSw); go_simp; (try with_reducible rfl))
      try simp only [Act.put, List.getElem_toArray, List.getElem_cons_zero, List.getElem_cons_succ, List.setIfInBounds_toArray, List.set_cons_zero, List.set_cons_succ]
      refine anyY_take (i := 4) (v := ?_) rfl (by kernel_rfl) (by kernel_rfl) (by kernel_rfl) (by kernel_rfl) (fun _ _ _ h => h) (Or.inl ⟨by rfl, ?_⟩) (by assumption) ?_
      rotate_left
      · (intro w hSw; (try dsimp only at hSw); go_simp; (try with_reducible rfl))
      try simp only [Act.put, List.getElem_toArray, List.getElem_cons_zero, List.getElem_cons_succ, List.setIfInBounds_toArray, List.set_cons_zero, List.set_cons_succ]
      refine anyY_take (i := 5) (v := ?_) rfl (by kernel_rfl) (by kernel_rfl) (by kernel_rfl) (by kernel_rfl) (fun _ _ _ h => h) (Or.inl ⟨by rfl, ?_⟩) (by assumption) ?_
      rotate_left
      · (intro w hSw; (try dsimp only at hSw); go_simp; (try with_reducible rfl))
      try simp only [Act.put, List.getElem_toArray, List.getElem_cons_zero, List.getElem_cons_succ, List.setIfInBounds_toArray, List.set_cons_zero, List.set_cons_succ]
      refine anyY_take (i := 6) (v := ?_) rfl (by kernel_rfl) (by kernel_rfl) (by kernel_rfl) (by kernel_rfl) (fun _ _ _ h => h) (Or.inl ⟨by rfl, ?_⟩) (by assumption) ?_
      rotate_left
      · (intro w hSw; (try dsimp only at hSw); go_simp; (try with_reducible rfl))
      try simp only [Act.put, List.getElem_toArray, List.getElem_cons_zero, List.getElem_cons_succ, List.setIfInBounds_toArray, List.set_cons_zero, List.set_cons_succ]
      refine anyY_take (i := 7) (v := ?_) rfl (by kernel_rfl) (by kernel_rfl) (by kernel_rfl) (by kernel_rfl) (fun _ _ _ h => h) (Or.inl ⟨by rfl, ?_⟩) (by assumption) ?_
      rotate_left
      · (intro w hSw; (try dsimp only at hSw); go_simp; (try with_reducible rfl))
      try simp only [Act.put, List.getElem_toArray, List.getElem_cons_zero, List.getElem_cons_succ, List.setIfInBounds_toArray, List.set_cons_zero, List.set_cons_succ]
      refine anyY_take (i := 8) (v := ?_) rfl (by kernel_rfl) (by kernel_rfl) (by kernel_rfl) (by kernel_rfl) (fun _ _ _ h => h) (Or.inl ⟨by rfl, ?_⟩) (by assumption) ?_
      rotate_left
      · (intro w hSw; (try dsimp only at hSw); go_simp; (try with_reducible rfl))
      try simp only [Act.put, List.getElem_toArray, List.getElem_cons_zero, List.getElem_cons_succ, List.setIfInBounds_toArray, List.set_cons_zero, List.set_cons_succ]
      refine anyY_take (i := 9) (v := ?_) rfl (by kernel_rfl) (by kernel_rfl) (by kernel_rfl) (by kernel_rfl) (fun _ _ _ h => h) (Or.inl ⟨by rfl, ?_⟩) (by assumption) ?_
      rotate_left
      · (intro w hSw; (try dsimp only at hSw); go_simp; (try with_reducible rfl))
      try simp only [Act.put, List.getElem_toArray, List.getElem_cons_zero, List.getElem_cons_succ, List.setIfInBounds_toArray, List.set_cons_zero, List.set_cons_succ]
      refine anyY_one (i := 10) (by kernel_rfl) rfl (fun K hK => ?_)
      go_simp
      (try dsimp only)
      refine hK.out _ _ ⟨Ext.cellAt ((Ext.refl _).alloc _) pr_p1, Ext.cellAt ((Ext.refl _).alloc _) e0, Ext.cellAt ((Ext.refl _).alloc _) e1⟩ (fun hHeld => ?_)
      clear hK K
      try simp only [Act.put, List.getElem_toArray, List.getElem_cons_zero, List.getElem_cons_succ, List.setIfInBounds_toArray, List.set_cons_zero, List.set_cons_succ]
      have hV : Ext wr (wr.alloc (.cells #[.int .i64 x0, .int .i64 x1] 86)).drew := ((Ext.refl wr).alloc _).drew
      have hrx := rd_new wr [.int .i64 x0, .int .i64 x1] 86 2 rfl
      have owV := hV.own own (Nat.le_refl _)
      have hzV : wr.heap.size + 1 = (wr.alloc (.cells #[.int .i64 x0, .int .i64 x1] 86)).drew.heap.size := by simp
      refine anyY_one (i := 11) (by kernel_rfl) rfl (fun K hK => ?_)
      refine step_app1 (d := .tmp 32) (s := .tmp 40) ?_ ?_ 86 i0 _ 2 16 Try.underlying36 hi0 hz0 hz1 hz2 rfl hp2 w3.heap.size wr.heap.size (.slice AC i cC) i (((os1.map (fun s => toC s.l)).take i).flatMap eCell) ?_ owV (by omega) (by omega) (wr.heap.size + 1) (some ⟨wr.heap.size, 0, none⟩) 1 1 (eCell (⟨x0, x1⟩ : CellD)) ?_ (by exact hrx) (fun u hu => oneCell_Cell [(⟨x0, x1⟩ : CellD)] u (by simpa using hu)) hml hbl ?_
      rfl
      rfl
      (focus (simp [Act.eval]; done))
      (focus (simp [Act.eval]; done))
      intro A6 c6 w6 o6 hg6
      have hF6 : Fr _ _ _ w6 := Fr.of_grown hg6 (fun g h => owV.lt g h)
      have hz6 := hF6.size
      (clear pr_p0 pr_f0 pr_p1 pr_f1 pr_p2 pr_f2 pr_p3 pr_f3)
      replace pr := (pr.ext hV).fr hF6 (.inl (by omega))
      obtain ⟨pr_p0, pr_f0⟩ := pr.at 0 _ rfl
      obtain ⟨pr_p1, pr_f1⟩ := pr.at 1 _ rfl
      obtain ⟨pr_p2, pr_f2⟩ := pr.at 2 _ rfl
      obtain ⟨pr_p3, pr_f3⟩ := pr.at 3 _ rfl
      replace e0 := hF6.cellAt (hV.cellAt e0) (.inl (by omega))
      replace e1 := hF6.cellAt (hV.cellAt e1) (.inl (by omega))
      (try dsimp only)
      refine hK.out _ _ ⟨pr_p1, e0, e1⟩ (fun hHeld => ?_)
      clear hK K
      try simp only [Act.put, List.getElem_toArray, List.getElem_cons_zero, List.getElem_cons_succ, List.setIfInBounds_toArray, List.set_cons_zero, List.set_cons_succ]
      refine anyY_take (i := 12) (v := ?_) rfl (by kernel_rfl) (by kernel_rfl) (by kernel_rfl) (by kernel_rfl) (fun _ _ _ h => h) (Or.inl ⟨by rfl, ?_⟩) (by assumption) ?_
      rotate_left
      · (intro w hSw; (try dsimp only at hSw); go_simp; (try with_reducible rfl))
      try simp only [Act.put, List.getElem_toArray, List.getElem_cons_zero, List.getElem_cons_succ, List.setIfInBounds_toArray, List.set_cons_zero, List.set_cons_succ]
      refine anyY_take (i := 13) (v := ?_) rfl (by kernel_rfl) (by kernel_rfl) (by kernel_rfl) (by kernel_rfl) (fun _ _ _ h => h) (Or.inl ⟨by rfl, ?_⟩) (by assumption) ?_
      rotate_left
      · (intro w hSw; (try dsimp only at hSw); go_simp; (try with_reducible rfl))
      try simp only [Act.put, List.getElem_toArray, List.getElem_cons_zero, List.getElem_cons_succ, List.setIfInBounds_toArray, List.set_cons_zero, List.set_cons_succ]
      refine anyY_last (x := 14) (by kernel_rfl) (by kernel_rfl) rfl (fun K hK => ?_)
      go_simp
      (try dsimp only)
      refine hK.out _ _ ?_
      clear hK K
      try simp only [Act.put, List.getElem_toArray, List.getElem_cons_zero, List.getElem_cons_succ, List.setIfInBounds_toArray, List.set_cons_zero, List.set_cons_succ]
      refine anyY_done (by kernel_rfl) ?_ _
      clear hHeld pr_p0 pr_f0 pr_p1 pr_f1 pr_p2 pr_f2 pr_p3 pr_f3 d0 e0 e1
      have hK1n : Kp 0 (w.heap.size + 1 + 1) w3 (w6.setCell ⟨w.heap.size + 1 + 1, 1, none⟩ (.slice A6 (i + 1) c6)) := ((hK1.ext (by omega) hV).fr (by omega) (.inl (by omega)) hF6).set (.inr (by omega)) _ _
      have hK2n : Kp (w.heap.size + 3) w3.heap.size w3 (w6.setCell ⟨w.heap.size + 1 + 1, 1, none⟩ (.slice A6 (i + 1) c6)) := ((hK2.ext (by omega) hV).fr (by omega) (.inl (by omega)) hF6).set (.inl (by omega)) _ _
      have hXn : Ext w (w6.setCell ⟨w.heap.size + 1 + 1, 1, none⟩ (.slice A6 (i + 1) c6)) := ((hXr.trans hV).fr hF6 (by omega)).set (by omega) _ _
      have o7 : Own (w6.setCell ⟨w.heap.size + 1 + 1, 1, none⟩ (.slice A6 (i + 1) c6)) w3.heap.size w6.heap.size 86 2 (.slice A6 (i + 1) c6) (i + 1) (((os1.map (fun s => toC s.l)).take (i + 1)).flatMap eCell) := by
        rw [← hsn, List.flatMap_append, List.flatMap_cons, List.flatMap_nil, List.append_nil]
        exact o6.dodge pr.row (by decide) 1 _
      have pn := pr.set 1 (.slice A6 (i + 1) c6)
      have hzn : w6.heap.size = (w6.setCell ⟨w.heap.size + 1 + 1, 1, none⟩ (.slice A6 (i + 1) c6)).heap.size := by simp
      have hzn1 := Nat.le_of_eq hzn
      clear o6 hg6 hF6 hV hrx owV own pr hK1 hK2 hXr hzn
      go_wp2
      go_roundw
      case rel => exact ⟨i + 1, A6, c6, by omega, by go_num, hK1n, hK2n, by omega, hXn, pn, o7.wide (Nat.le_refl _) hzn1⟩
      case measure => simp [intOf]; omega
    · obtain rfl : m1 = i := by omega
      have own2 : O_CellS wr w3.heap.size wr.heap.size (.slice AC m1 cC) (os1.map (fun s => toC s.l)) := OwnS.of (by rw [List.take_of_length_le (by rw [List.length_map, Hl1.out]; exact Nat.le_refl _)] at own; exact own) (by rw [List.length_map, Hl1.out])
      replace z := z.kp hK1 (by omega) (by omega)
      replace hR := hR.kp hK1 (by omega) (by omega)
      replace hrd0 := hrd0.kp hK1 (by omega)
      clear hX p
      have hX := hXr
      have p := pr
      have oC := own2
      clear own own2 hK1 hK2 hXr pr oo1 om1 hlt
      rename World => w4
      have hzc : w3.heap.size ≤ w4.heap.size := hzr
      clear hzr
      obtain ⟨p_p0, p_f0⟩ := p.at 0 _ rfl
      obtain ⟨p_p1, p_f1⟩ := p.at 1 _ rfl
      obtain ⟨p_p2, p_f2⟩ := p.at 2 _ rfl
      obtain ⟨p_p3, p_f3⟩ := p.at 3 _ rfl
      go_wp2_with fail
      clear p_p0 p_f0 p_p1 p_f1 p_p2 p_f2 p_p3 p_f3
      refine (rows_i (w.heap.size + 1) A n c l B s1 10 3 _ hR (by exact hrd0) (by omega) hl hn (by omega) (by omega)).mono ?_
      obtain ⟨q, hq⟩ : ∃ q, rdAll l 10 3 s1 = q := ⟨_, rfl⟩
      have hwq := rdAll_wide l 10 3 s1
      have hmq := rdAll_len l 10 3 s1
      rw [hq] at hwq hmq ⊢
      have Hq2 := Lib.hid hq
      obtain ⟨R2, s2⟩ := q
      clear hq hR
      dsimp only at hwq hmq
      rintro e w5 ⟨v, rfl, o3, hR, hF⟩
      have hz5 := hF.size
      replace z := z.fr hF (.inl (by omega))
      replace p := p.fr hF (.inr (by omega))
      replace hrd0 := hrd0.fr hF (by omega) (by omega)
      replace hX := hX.fr hF (by omega)
      replace oC := oC.keep (keepF hF (by omega) (.inr (by omega)))
      obtain ⟨os2, hos2, oo2, om2⟩ := o3
      dsimp only at hos2
      obtain ⟨A3, m2, c3, hv3, hl3, -⟩ := id oo2
      subst hv3
      have Hl2 := Lib.hid hl3
      have hm2 : m2 ≤ 10 := by rw [hos2, List.length_map, hl3] at hmq; exact hmq
      have Hwid2 : Hid (∀ s ∈ os2, s.l.length = 3 ∧ ∀ x ∈ s.l, 0 ≤ x ∧ x ≤ 9223372036854775807) := fun s hs => hwq s.l (by rw [hos2]; exact List.mem_map.2 ⟨s, hs, rfl⟩)
      have Hos2 := Lib.hid hos2
      clear hF hwq hmq hl3 hos2
      dsimp only at hR
      go_wp2
      go_loopw [48] (fun iv wr => ∃ (i : Nat) (A' : Option Addr) (c' : Nat), i ≤ m2 ∧ iv = .int .i64 i ∧ Kp 0 (w.heap.size + 1 + 1) w5 wr ∧ Kp (w.heap.size + 3) w5.heap.size w5 wr ∧ w5.heap.size ≤ wr.heap.size ∧ Ext w wr ∧ Blk wr (w.heap.size + 1 + 1) 42 [.int .i64 base, .slice AC m1 cC, .slice A' i c', .slice none 0 0] ∧ Own wr w5.heap.size wr.heap.size 88 3 (.slice A' i c') i (((os2.map (fun s => toS s.l)).take i).flatMap eSeat)) (fun iv _ => m2 - (intOf iv).toNat)
      case atStart => exact ⟨0, none, 0, by omega, rfl, Kp.refl _ _ _, Kp.refl _ _ _, Nat.le_refl _, hX, p, Own.nil _ _ _ _ _ _⟩
      case round =>
        obtain ⟨i, AS, cS, hi, rfl, hK1, hK2, hzr, hXr, pr, own⟩ := hrel
        by_cases hlt : i < m2
        · have hlt' : (i : Int) < (m2 : Int) := by omega
          obtain ⟨g3, s, rfl, hg3a, hg3, hsi, d0⟩ := oo2.spotI hlt
          have hmem := List.mem_of_getElem? hsi
          have hwid := Hwid2.out s hmem
          obtain ⟨gs, hsA, hsn, hgs1, hgs2, hcs⟩ := (om2 s hmem).cells hwid.1 (by omega)
          rw [hsA, hsn] at d0
          replace d0 := (World.cell?_of_block (a := ⟨g3, i, none⟩) (hK2 g3 (by omega) (by omega))).trans d0
          have e0 := (World.cell?_of_block (a := ⟨gs, 0, none⟩) (hK2 gs (by omega) (by omega))).trans (hcs 0 (by omega))
          have e1 := (World.cell?_of_block (a := ⟨gs, 1, none⟩) (hK2 gs (by omega) (by omega))).trans (hcs 1 (by omega))
          have e2 := (World.cell?_of_block (a := ⟨gs, 2, none⟩) (hK2 gs (by omega) (by omega))).trans (hcs 2 (by omega))
          have hb2 := getD_bound hwid.2 2
          have hsn := map_take_snoc (f := fun s : SlI => toS s.l) hsi
          have hto : toS s.l = (⟨s.l.getD 0 0, s.l.getD 1 0, s.l.getD 2 0 - 1⟩ : SeatD) := rfl
          rw [hto] at hsn
          generalize s.l.getD 0 0 = x0 at *
          generalize s.l.getD 1 0 = x1 at *
          generalize s.l.getD 2 0 = x2 at *
          clear hcs hsA hto hsi hmem hwid
          have hww : IntKind.i64.wrap (x2 - 1) = x2 - 1 := IntWalk.i64_in _ (by omega)
          have hlp := pr.lt
          have hml : i + 1 ≤ maxLen := by unfold maxLen; omega
          have hbl : (i + 1) * 24 ≤ 140737488355328 := by omega
          obtain ⟨pr_p0, pr_f0⟩ := pr.at 0 _ rfl
          obtain ⟨pr_p1, pr_f1⟩ := pr.at 1 _ rfl
          obtain ⟨pr_p2, pr_f2⟩ := pr.at 2 _ rfl
          obtain ⟨pr_p3, pr_f3⟩ := pr.at 3 _ rfl
          go_upto_region 12 with (fail)
          refine region_anyY (X := [18]) (S := (fun w' => w'.cell? ⟨w.heap.size + 1 + 1, 2, none⟩ = some (.slice AS i cS) ∧ w'.cell? ⟨gs, 0, none⟩ = some (.int .i64 x0) ∧ w'.cell? ⟨gs, 1, none⟩ = some (.int .i64 x1) ∧ w'.cell? ⟨gs, 2, none⟩ = some (.int .i64 x2))) (by kernel_rfl) ⟨pr_p2, e0, e1, e2⟩ (fun hHeld => ?_)
          refine anyY_take (i := 0) (v := ?_) rfl (by kernel_rfl) (by kernel_rfl) (by kernel_rfl) (by kernel_rfl) (fun _ _ _ h => h) (Or.inl ⟨by rfl, ?_⟩) (by assumption) ?_
          rotate_left
          · (intro w hSw; (try dsimp only at hSw); go_simp; (try with_reducible rfl))
          try simp only [Act.put, List.getElem_toArray, List.getElem_cons_zero, List.getElem_cons_succ, List.setIfInBounds_toArray, List.set_cons_zero, List.set_cons_succ]
          refine anyY_take (i := 1) (v := ?_) rfl (by kernel_rfl) (by kernel_rfl) (by kernel_rfl) (by kernel_rfl) (fun _ _ _ h => h) (Or.inl ⟨by rfl, ?_⟩) (by assumption) ?_
          rotate_left
          · (intro w hSw; (try dsimp only at hSw); go_simp; (try with_reducible rfl))
          try simp only [Act.put, List.getElem_toArray, List.getElem_cons_zero, List.getElem_cons_succ, List.setIfInBounds_toArray, List.set_cons_zero, List.set_cons_succ]
          refine anyY_take (i := 2) (v := ?_) rfl (by kernel_rfl) (by kernel_rfl) (by kernel_rfl) (by kernel_rfl) (fun _ _ _ h => h) (Or.inl ⟨by rfl, ?_⟩) (by assumption) ?_
          rotate_left
          · (intro w hSw; (try dsimp only at hSw); go_simp; (try with_reducible rfl))
          try simp only [Act.put, List.getElem_toArray, List.getElem_cons_zero, List.getElem_cons_succ, List.setIfInBounds_toArray, List.set_cons_zero, List.set_cons_succ]
          refine anyY_take (i := 3) (v := ?_) rfl (by kernel_rfl) (by kernel_rfl) (by kernel_rfl) (by kernel_rfl) (fun _ _ _ h => h) (Or.inl ⟨by rfl, ?_⟩) (by assumption) ?_
          rotate_left
          · (intro w hSw; (try dsimp only at hSw); go_simp; (try with_reducible rfl))
          try simp only [Act.put, List.getElem_toArray, List.getElem_cons_zero, List.getElem_cons_succ, List.setIfInBounds_toArray, List.set_cons_zero, List.set_cons_succ]
          refine anyY_take (i := 4) (v := ?_) rfl (by kernel_rfl) (by kernel_rfl) (by kernel_rfl) (by kernel_rfl) (fun _ _ _ h => h) (Or.inl ⟨by rfl, ?_⟩) (by assumption) ?_
          rotate_left
          · (intro w hSw; (try dsimp only at hSw); go_simp; (try with_reducible rfl))
          try simp only [Act.put, List.getElem_toArray, List.getElem_cons_zero, List.getElem_cons_succ, List.setIfInBounds_toArray, List.set_cons_zero, List.set_cons_succ]
          refine anyY_take (i := 5) (v := ?_) rfl (by kernel_rfl) (by kernel_rfl) (by kernel_rfl) (by kernel_rfl) (fun _ _ _ h => h) (Or.inl ⟨by rfl, ?_⟩) (by assumption) ?_
          rotate_left
          · (intro w hSw; (try dsimp only at hSw); go_simp; (try with_reducible rfl))
          try simp only [Act.put, List.getElem_toArray, List.getElem_cons_zero, List.getElem_cons_succ, List.setIfInBounds_toArray, List.set_cons_zero, List.set_cons_succ]
          refine anyY_take (i := 6) (v := ?_) rfl (by kernel_rfl) (by kernel_rfl) (by kernel_rfl) (by kernel_rfl) (fun _ _ _ h => h) (Or.inl ⟨by rfl, ?_⟩) (by assumption) ?_
          rotate_left
          · (intro w hSw; (try dsimp only at hSw); go_simp; (try with_reducible rfl))
          try simp only [Act.put, List.getElem_toArray, List.getElem_cons_zero, List.getElem_cons_succ, List.setIfInBounds_toArray, List.set_cons_zero, List.set_cons_succ]
          refine anyY_take (i := 7) (v := ?_) rfl (by kernel_rfl) (by kernel_rfl) (by kernel_rfl) (by kernel_rfl) (fun _ _ _ h => h) (Or.inl ⟨by rfl, ?_⟩) (by assumption) ?_
          rotate_left
          · (intro w hSw; (try dsimp only at hSw); go_simp; (try with_reducible rfl))
          try simp only [Act.put, List.getElem_toArray, List.getElem_cons_zero, List.getElem_cons_succ, List.setIfInBounds_toArray, List.set_cons_zero, List.set_cons_succ]
          refine anyY_take (i := 8) (v := ?_) rfl (by kernel_rfl) (by kernel_rfl) (by kernel_rfl) (by kernel_rfl) (fun _ _ _ h => h) (Or.inl ⟨by rfl, ?_⟩) (by assumption) ?_
          rotate_left
          · (intro w hSw; (try dsimp only at hSw); go_simp; (try with_reducible rfl))
          try simp only [Act.put, List.getElem_toArray, List.getElem_cons_zero, List.getElem_cons_succ, List.setIfInBounds_toArray, List.set_cons_zero, List.set_cons_succ]
          refine anyY_take (i := 9) (v := ?_) rfl (by kernel_rfl) (by kernel_rfl) (by kernel_rfl) (by kernel_rfl) (fun _ _ _ h => h) (Or.inl ⟨by rfl, ?_⟩) (by assumption) ?_
          rotate_left
          · (intro w hSw; (try dsimp only at hSw); go_simp; (try with_reducible rfl))
          try simp only [Act.put, List.getElem_toArray, List.getElem_cons_zero, List.getElem_cons_succ, List.setIfInBounds_toArray, List.set_cons_zero, List.set_cons_succ]
          refine anyY_take (i := 10) (v := ?_) rfl (by kernel_rfl) (by kernel_rfl) (by kernel_rfl) (by kernel_rfl) (fun _ _ _ h => h) (Or.inl ⟨by rfl, ?_⟩) (by assumption) ?_
          rotate_left
          · (intro w hSw; (try dsimp only at hSw); go_simp; (try with_reducible rfl))
          try simp only [Act.put, List.getElem_toArray, List.getElem_cons_zero, List.getElem_cons_succ, List.setIfInBounds_toArray, List.set_cons_zero, List.set_cons_succ]
          refine anyY_take (i := 11) (v := ?_) rfl (by kernel_rfl) (by kernel_rfl) (by kernel_rfl) (by kernel_rfl) (fun _ _ _ h => h) (Or.inl ⟨by rfl, ?_⟩) (by assumption) ?_
          rotate_left
          · (intro w hSw; (try dsimp only at hSw); go_simp; (try with_reducible rfl))
          try simp only [Act.put, List.getElem_toArray, List.getElem_cons_zero, List.getElem_cons_succ, List.setIfInBounds_toArray, List.set_cons_zero, List.set_cons_succ]
          refine anyY_take (i := 12) (v := ?_) rfl (by kernel_rfl) (by kernel_rfl) (by kernel_rfl) (by kernel_rfl) (fun _ _ _ h => h) (Or.inl ⟨by rfl, ?_⟩) (by assumption) ?_
          rotate_left
          · (intro w hSw; (try dsimp only at hSw); go_simp; (try with_reducible rfl))
          try simp only [Act.put, List.getElem_toArray, List.getElem_cons_zero, List.getElem_cons_succ, List.setIfInBounds_toArray, List.set_cons_zero, List.set_cons_succ]
          refine anyY_take (i := 13) (v := ?_) rfl (by kernel_rfl) (by kernel_rfl) (by kernel_rfl) (by kernel_rfl) (fun _ _ _ h => h) (Or.inl ⟨by rfl, ?_⟩) (by assumption) ?_
          rotate_left
          · (intro w hSw; (try dsimp only at hSw); go_simp; (try with_reducible rfl))
          try simp only [Act.put, List.getElem_toArray, List.getElem_cons_zero, List.getElem_cons_succ, List.setIfInBounds_toArray, List.set_cons_zero, List.set_cons_succ]
          refine anyY_one (i := 14) (by kernel_rfl) rfl (fun K hK => ?_)
          go_simp
          (try dsimp only)
          refine hK.out _ _ ⟨Ext.cellAt ((Ext.refl _).alloc _) pr_p2, Ext.cellAt ((Ext.refl _).alloc _) e0, Ext.cellAt ((Ext.refl _).alloc _) e1, Ext.cellAt ((Ext.refl _).alloc _) e2⟩ (fun hHeld => ?_)
          clear hK K
          try simp only [Act.put, List.getElem_toArray, List.getElem_cons_zero, List.getElem_cons_succ, List.setIfInBounds_toArray, List.set_cons_zero, List.set_cons_succ]
          have hV : Ext wr (wr.alloc (.cells #[.int .i64 x0, .int .i64 x1, .int .i64 (x2 - 1)] 88)).drew := ((Ext.refl wr).alloc _).drew
          have hrx := rd_new wr [.int .i64 x0, .int .i64 x1, .int .i64 (x2 - 1)] 88 3 rfl
          have owV := hV.own own (Nat.le_refl _)
          have hzV : wr.heap.size + 1 = (wr.alloc (.cells #[.int .i64 x0, .int .i64 x1, .int .i64 (x2 - 1)] 88)).drew.heap.size := by simp
          refine anyY_one (i := 15) (by kernel_rfl) rfl (fun K hK => ?_)
          refine step_app1 (d := .tmp 54) (s := .tmp 66) ?_ ?_ 88 j0 _ 3 24 Try.underlying37 hj0 hy0 hy1 hy2 rfl hp3 w5.heap.size wr.heap.size (.slice AS i cS) i (((os2.map (fun s => toS s.l)).take i).flatMap eSeat) ?_ owV (by omega) (by omega) (wr.heap.size + 1) (some ⟨wr.heap.size, 0, none⟩) 1 1 (eSeat (⟨x0, x1, x2 - 1⟩ : SeatD)) ?_ (by exact hrx) (fun u hu => oneCell_Seat [(⟨x0, x1, x2 - 1⟩ : SeatD)] u (by simpa using hu)) hml hbl ?_
          rfl
          rfl
          (focus (simp [Act.eval]; done))
          (focus (simp [Act.eval]; done))
          intro A6 c6 w6 o6 hg6
          have hF6 : Fr _ _ _ w6 := Fr.of_grown hg6 (fun g h => owV.lt g h)
          have hz6 := hF6.size
          (clear pr_p0 pr_f0 pr_p1 pr_f1 pr_p2 pr_f2 pr_p3 pr_f3)
          replace pr := (pr.ext hV).fr hF6 (.inl (by omega))
          obtain ⟨pr_p0, pr_f0⟩ := pr.at 0 _ rfl
          obtain ⟨pr_p1, pr_f1⟩ := pr.at 1 _ rfl
          obtain ⟨pr_p2, pr_f2⟩ := pr.at 2 _ rfl
          obtain ⟨pr_p3, pr_f3⟩ := pr.at 3 _ rfl
          replace e0 := hF6.cellAt (hV.cellAt e0) (.inl (by omega))
          replace e1 := hF6.cellAt (hV.cellAt e1) (.inl (by omega))
          replace e2 := hF6.cellAt (hV.cellAt e2) (.inl (by omega))
          (try dsimp only)
          refine hK.out _ _ ⟨pr_p2, e0, e1, e2⟩ (fun hHeld => ?_)
          clear hK K
          try simp only [Act.put, List.getElem_toArray, List.getElem_cons_zero, List.getElem_cons_succ, List.setIfInBounds_toArray, List.set_cons_zero, List.set_cons_succ]
          refine anyY_take (i := 16) (v := ?_) rfl (by kernel_rfl) (by kernel_rfl) (by kernel_rfl) (by kernel_rfl) (fun _ _ _ h => h) (Or.inl ⟨by rfl, ?_⟩) (by assumption) ?_
          rotate_left
          · (intro w hSw; (try dsimp only at hSw); go_simp; (try with_reducible rfl))
          try simp only [Act.put, List.getElem_toArray, List.getElem_cons_zero, List.getElem_cons_succ, List.setIfInBounds_toArray, List.set_cons_zero, List.set_cons_succ]
          refine anyY_take (i := 17) (v := ?_) rfl (by kernel_rfl) (by kernel_rfl) (by kernel_rfl) (by kernel_rfl) (fun _ _ _ h => h) (Or.inl ⟨by rfl, ?_⟩) (by assumption) ?_
          rotate_left
          · (intro w hSw; (try dsimp only at hSw); go_simp; (try with_reducible rfl))
          try simp only [Act.put, List.getElem_toArray, List.getElem_cons_zero, List.getElem_cons_succ, List.setIfInBounds_toArray, List.set_cons_zero, List.set_cons_succ]
          refine anyY_last (x := 18) (by kernel_rfl) (by kernel_rfl) rfl (fun K hK => ?_)
          go_simp
          (try dsimp only)
          refine hK.out _ _ ?_
          clear hK K
          try simp only [Act.put, List.getElem_toArray, List.getElem_cons_zero, List.getElem_cons_succ, List.setIfInBounds_toArray, List.set_cons_zero, List.set_cons_succ]
          refine anyY_done (by kernel_rfl) ?_ _
          clear hHeld pr_p0 pr_f0 pr_p1 pr_f1 pr_p2 pr_f2 pr_p3 pr_f3 d0 e0 e1 e2
          have hK1n : Kp 0 (w.heap.size + 1 + 1) w5 (w6.setCell ⟨w.heap.size + 1 + 1, 2, none⟩ (.slice A6 (i + 1) c6)) := ((hK1.ext (by omega) hV).fr (by omega) (.inl (by omega)) hF6).set (.inr (by omega)) _ _
          have hK2n : Kp (w.heap.size + 3) w5.heap.size w5 (w6.setCell ⟨w.heap.size + 1 + 1, 2, none⟩ (.slice A6 (i + 1) c6)) := ((hK2.ext (by omega) hV).fr (by omega) (.inl (by omega)) hF6).set (.inl (by omega)) _ _
          have hXn : Ext w (w6.setCell ⟨w.heap.size + 1 + 1, 2, none⟩ (.slice A6 (i + 1) c6)) := ((hXr.trans hV).fr hF6 (by omega)).set (by omega) _ _
          have o7 : Own (w6.setCell ⟨w.heap.size + 1 + 1, 2, none⟩ (.slice A6 (i + 1) c6)) w5.heap.size w6.heap.size 88 3 (.slice A6 (i + 1) c6) (i + 1) (((os2.map (fun s => toS s.l)).take (i + 1)).flatMap eSeat) := by
            rw [← hsn, List.flatMap_append, List.flatMap_cons, List.flatMap_nil, List.append_nil]
            exact o6.dodge pr.row (by decide) 2 _
          have pn := pr.set 2 (.slice A6 (i + 1) c6)
          have hzn : w6.heap.size = (w6.setCell ⟨w.heap.size + 1 + 1, 2, none⟩ (.slice A6 (i + 1) c6)).heap.size := by simp
          have hzn1 := Nat.le_of_eq hzn
          clear o6 hg6 hF6 hV hrx owV own pr hK1 hK2 hXr hzn
          go_wp2
          go_roundw
          case rel => exact ⟨i + 1, A6, c6, by omega, by go_num, hK1n, hK2n, by omega, hXn, pn, o7.wide (Nat.le_refl _) hzn1⟩
          case measure => simp [intOf]; omega
        · obtain rfl : m2 = i := by omega
          have own2 : O_SeatS wr w5.heap.size wr.heap.size (.slice AS m2 cS) (os2.map (fun s => toS s.l)) := OwnS.of (by rw [List.take_of_length_le (by rw [List.length_map, Hl2.out]; exact Nat.le_refl _)] at own; exact own) (by rw [List.length_map, Hl2.out])
          replace z := z.kp hK1 (by omega) (by omega)
          replace hR := hR.kp hK1 (by omega) (by omega)
          replace hrd0 := hrd0.kp hK1 (by omega)
          clear hX p
          have hX := hXr
          have p := pr
          have oS := own2
          replace oC := oC.keep (hK2.sub (by omega) (by omega))
          clear own own2 hK1 hK2 hXr pr oo2 om2 hlt
          rename World => w6
          have hzs : w5.heap.size ≤ w6.heap.size := hzr
          clear hzr
          obtain ⟨p_p0, p_f0⟩ := p.at 0 _ rfl
          obtain ⟨p_p1, p_f1⟩ := p.at 1 _ rfl
          obtain ⟨p_p2, p_f2⟩ := p.at 2 _ rfl
          obtain ⟨p_p3, p_f3⟩ := p.at 3 _ rfl
          go_wp2_with fail
          clear p_p0 p_f0 p_p1 p_f1 p_p2 p_f2 p_p3 p_f3
          refine (rows_i (w.heap.size + 1) A n c l B s2 60 5 _ hR (by exact hrd0) (by omega) hl hn (by omega) (by omega)).mono ?_
          obtain ⟨q, hq⟩ : ∃ q, rdAll l 60 5 s2 = q := ⟨_, rfl⟩
          have hwq := rdAll_wide l 60 5 s2
          have hmq := rdAll_len l 60 5 s2
          rw [hq] at hwq hmq ⊢
          have Hq3 := Lib.hid hq
          obtain ⟨R3, s3⟩ := q
          clear hq hR
          dsimp only at hwq hmq
          rintro e w7 ⟨v, rfl, o3, hR, hF⟩
          have hz7 := hF.size
          replace z := z.fr hF (.inl (by omega))
          replace p := p.fr hF (.inr (by omega))
          replace hrd0 := hrd0.fr hF (by omega) (by omega)
          replace hX := hX.fr hF (by omega)
          replace oC := oC.keep (keepF hF (by omega) (.inr (by omega)))
          replace oS := oS.keep (keepF hF (by omega) (.inr (by omega)))
          obtain ⟨os3, hos3, oo3, om3⟩ := o3
          dsimp only at hos3
          obtain ⟨A3, m3, c3, hv3, hl3, -⟩ := id oo3
          subst hv3
          have Hl3 := Lib.hid hl3
          have hm3 : m3 ≤ 60 := by rw [hos3, List.length_map, hl3] at hmq; exact hmq
          have Hwid3 : Hid (∀ s ∈ os3, s.l.length = 5 ∧ ∀ x ∈ s.l, 0 ≤ x ∧ x ≤ 9223372036854775807) := fun s hs => hwq s.l (by rw [hos3]; exact List.mem_map.2 ⟨s, hs, rfl⟩)
          have Hos3 := Lib.hid hos3
          clear hF hwq hmq hl3 hos3
          dsimp only at hR
          go_wp2
          go_loopw [74] (fun iv wr => ∃ (i : Nat) (A' : Option Addr) (c' : Nat), i ≤ m3 ∧ iv = .int .i64 i ∧ Kp 0 (w.heap.size + 1 + 1) w7 wr ∧ Kp (w.heap.size + 3) w7.heap.size w7 wr ∧ w7.heap.size ≤ wr.heap.size ∧ Ext w wr ∧ Blk wr (w.heap.size + 1 + 1) 42 [.int .i64 base, .slice AC m1 cC, .slice AS m2 cS, .slice A' i c'] ∧ Own wr w7.heap.size wr.heap.size 90 5 (.slice A' i c') i (((os3.map (fun s => toE s.l)).take i).flatMap eEntry)) (fun iv _ => m3 - (intOf iv).toNat)
          case atStart => exact ⟨0, none, 0, by omega, rfl, Kp.refl _ _ _, Kp.refl _ _ _, Nat.le_refl _, hX, p, Own.nil _ _ _ _ _ _⟩
          case round =>
            obtain ⟨i, AE, cE, hi, rfl, hK1, hK2, hzr, hXr, pr, own⟩ := hrel
            by_cases hlt : i < m3
            · have hlt' : (i : Int) < (m3 : Int) := by omega
              obtain ⟨g3, s, rfl, hg3a, hg3, hsi, d0⟩ := oo3.spotI hlt
              have hmem := List.mem_of_getElem? hsi
              have hwid := Hwid3.out s hmem
              obtain ⟨gs, hsA, hsn, hgs1, hgs2, hcs⟩ := (om3 s hmem).cells hwid.1 (by omega)
              rw [hsA, hsn] at d0
              replace d0 := (World.cell?_of_block (a := ⟨g3, i, none⟩) (hK2 g3 (by omega) (by omega))).trans d0
              have e0 := (World.cell?_of_block (a := ⟨gs, 0, none⟩) (hK2 gs (by omega) (by omega))).trans (hcs 0 (by omega))
              have e1 := (World.cell?_of_block (a := ⟨gs, 1, none⟩) (hK2 gs (by omega) (by omega))).trans (hcs 1 (by omega))
              have e2 := (World.cell?_of_block (a := ⟨gs, 2, none⟩) (hK2 gs (by omega) (by omega))).trans (hcs 2 (by omega))
              have e3 := (World.cell?_of_block (a := ⟨gs, 3, none⟩) (hK2 gs (by omega) (by omega))).trans (hcs 3 (by omega))
              have e4 := (World.cell?_of_block (a := ⟨gs, 4, none⟩) (hK2 gs (by omega) (by omega))).trans (hcs 4 (by omega))
              have hsn := map_take_snoc (f := fun s : SlI => toE s.l) hsi
              have hto : toE s.l = (⟨s.l.getD 0 0, s.l.getD 1 0, ⟨s.l.getD 2 0, s.l.getD 3 0, s.l.getD 4 0⟩⟩ : EntryD) := rfl
              rw [hto] at hsn
              generalize s.l.getD 0 0 = x0 at *
              generalize s.l.getD 1 0 = x1 at *
              generalize s.l.getD 2 0 = x2 at *
              generalize s.l.getD 3 0 = x3 at *
              generalize s.l.getD 4 0 = x4 at *
              clear hcs hsA hto hsi hmem hwid
              have hlp := pr.lt
              have hml : i + 1 ≤ maxLen := by unfold maxLen; omega
              have hbl : (i + 1) * 40 ≤ 140737488355328 := by omega
              obtain ⟨pr_p0, pr_f0⟩ := pr.at 0 _ rfl
              obtain ⟨pr_p1, pr_f1⟩ := pr.at 1 _ rfl
              obtain ⟨pr_p2, pr_f2⟩ := pr.at 2 _ rfl
              obtain ⟨pr_p3, pr_f3⟩ := pr.at 3 _ rfl
              go_upto_region 17 with (fail)
              refine region_anyY (X := [22]) (S := (fun w' => w'.cell? ⟨w.heap.size + 1 + 1, 3, none⟩ = some (.slice AE i cE) ∧ w'.cell? ⟨gs, 0, none⟩ = some (.int .i64 x0) ∧ w'.cell? ⟨gs, 1, none⟩ = some (.int .i64 x1) ∧ w'.cell? ⟨gs, 2, none⟩ = some (.int .i64 x2) ∧ w'.cell? ⟨gs, 3, none⟩ = some (.int .i64 x3) ∧ w'.cell? ⟨gs, 4, none⟩ = some (.int .i64 x4))) (by kernel_rfl) ⟨pr_p3, e0, e1, e2, e3, e4⟩ (fun hHeld => ?_)
              refine anyY_take (i := 0) (v := ?_) rfl (by kernel_rfl) (by kernel_rfl) (by kernel_rfl) (by kernel_rfl) (fun _ _ _ h => h) (Or.inl ⟨by rfl, ?_⟩) (by assumption) ?_
              rotate_left
              · (intro w hSw; (try dsimp only at hSw); go_simp; (try with_reducible rfl))
              try simp only [Act.put, List.getElem_toArray, List.getElem_cons_zero, List.getElem_cons_succ, List.setIfInBounds_toArray, List.set_cons_zero, List.set_cons_succ]
              refine anyY_take (i := 1) (v := ?_) rfl (by kernel_rfl) (by kernel_rfl) (by kernel_rfl) (by kernel_rfl) (fun _ _ _ h => h) (Or.inl ⟨by rfl, ?_⟩) (by assumption) ?_
              rotate_left
              · (intro w hSw; (try dsimp only at hSw); go_simp; (try with_reducible rfl))
              try simp only [Act.put, List.getElem_toArray, List.getElem_cons_zero, List.getElem_cons_succ, List.setIfInBounds_toArray, List.set_cons_zero, List.set_cons_succ]
              refine anyY_take (i := 2) (v := ?_) rfl (by kernel_rfl) (by kernel_rfl) (by kernel_rfl) (by kernel_rfl) (fun _ _ _ h => h) (Or.inl ⟨by rfl, ?_⟩) (by assumption) ?_
              rotate_left
              · (intro w hSw; (try dsimp only at hSw); go_simp; (try with_reducible rfl))
              try simp only [Act.put, List.getElem_toArray, List.getElem_cons_zero, List.getElem_cons_succ, List.setIfInBounds_toArray, List.set_cons_zero, List.set_cons_succ]
              refine anyY_take (i := 3) (v := ?_) rfl (by kernel_rfl) (by kernel_rfl) (by kernel_rfl) (by kernel_rfl) (fun _ _ _ h => h) (Or.inl ⟨by rfl, ?_⟩) (by assumption) ?_
              rotate_left
              · (intro w hSw; (try dsimp only at hSw); go_simp; (try with_reducible rfl))
              try simp only [Act.put, List.getElem_toArray, List.getElem_cons_zero, List.getElem_cons_succ, List.setIfInBounds_toArray, List.set_cons_zero, List.set_cons_succ]
              refine anyY_take (i := 4) (v := ?_) rfl (by kernel_rfl) (by kernel_rfl) (by kernel_rfl) (by kernel_rfl) (fun _ _ _ h => h) (Or.inl ⟨by rfl, ?_⟩) (by assumption) ?_
              rotate_left
              · (intro w hSw; (try dsimp only at hSw); go_simp; (try with_reducible rfl))
              try simp only [Act.put, List.getElem_toArray, List.getElem_cons_zero, List.getElem_cons_succ, List.setIfInBounds_toArray, List.set_cons_zero, List.set_cons_succ]
              refine anyY_take (i := 5) (v := ?_) rfl (by kernel_rfl) (by kernel_rfl) (by kernel_rfl) (by kernel_rfl) (fun _ _ _ h => h) (Or.inl ⟨by rfl, ?_⟩) (by assumption) ?_
              rotate_left
              · (intro w hSw; (try dsimp only at hSw); go_simp; (try with_reducible rfl))
              try simp only [Act.put, List.getElem_toArray, List.getElem_cons_zero, List.getElem_cons_succ, List.setIfInBounds_toArray, List.set_cons_zero, List.set_cons_succ]
              refine anyY_take (i := 6) (v := ?_) rfl (by kernel_rfl) (by kernel_rfl) (by kernel_rfl) (by kernel_rfl) (fun _ _ _ h => h) (Or.inl ⟨by rfl, ?_⟩) (by assumption) ?_
              rotate_left
              · (intro w hSw; (try dsimp only at hSw); go_simp; (try with_reducible rfl))
              try simp only [Act.put, List.getElem_toArray, List.getElem_cons_zero, List.getElem_cons_succ, List.setIfInBounds_toArray, List.set_cons_zero, List.set_cons_succ]
              refine anyY_take (i := 7) (v := ?_) rfl (by kernel_rfl) (by kernel_rfl) (by kernel_rfl) (by kernel_rfl) (fun _ _ _ h => h) (Or.inl ⟨by rfl, ?_⟩) (by assumption) ?_
              rotate_left
              · (intro w hSw; (try dsimp only at hSw); go_simp; (try with_reducible rfl))
              try simp only [Act.put, List.getElem_toArray, List.getElem_cons_zero, List.getElem_cons_succ, List.setIfInBounds_toArray, List.set_cons_zero, List.set_cons_succ]
              refine anyY_take (i := 8) (v := ?_) rfl (by kernel_rfl) (by kernel_rfl) (by kernel_rfl) (by kernel_rfl) (fun _ _ _ h => h) (Or.inl ⟨by rfl, ?_⟩) (by assumption) ?_
              rotate_left
              · (intro w hSw; (try dsimp only at hSw); go_simp; (try with_reducible rfl))
              try simp only [Act.put, List.getElem_toArray, List.getElem_cons_zero, List.getElem_cons_succ, List.setIfInBounds_toArray, List.set_cons_zero, List.set_cons_succ]
              refine anyY_take (i := 9) (v := ?_) rfl (by kernel_rfl) (by kernel_rfl) (by kernel_rfl) (by kernel_rfl) (fun _ _ _ h => h) (Or.inl ⟨by rfl, ?_⟩) (by assumption) ?_
              rotate_left
              · (intro w hSw; (try dsimp only at hSw); go_simp; (try with_reducible rfl))
              try simp only [Act.put, List.getElem_toArray, List.getElem_cons_zero, List.getElem_cons_succ, List.setIfInBounds_toArray, List.set_cons_zero, List.set_cons_succ]
              refine anyY_take (i := 10) (v := ?_) rfl (by kernel_rfl) (by kernel_rfl) (by kernel_rfl) (by kernel_rfl) (fun _ _ _ h => h) (Or.inl ⟨by rfl, ?_⟩) (by assumption) ?_
              rotate_left
              · (intro w hSw; (try dsimp only at hSw); go_simp; (try with_reducible rfl))
              try simp only [Act.put, List.getElem_toArray, List.getElem_cons_zero, List.getElem_cons_succ, List.setIfInBounds_toArray, List.set_cons_zero, List.set_cons_succ]
              refine anyY_take (i := 11) (v := ?_) rfl (by kernel_rfl) (by kernel_rfl) (by kernel_rfl) (by kernel_rfl) (fun _ _ _ h => h) (Or.inl ⟨by rfl, ?_⟩) (by assumption) ?_
              rotate_left
              · (intro w hSw; (try dsimp only at hSw); go_simp; (try with_reducible rfl))
              try simp only [Act.put, List.getElem_toArray, List.getElem_cons_zero, List.getElem_cons_succ, List.setIfInBounds_toArray, List.set_cons_zero, List.set_cons_succ]
              refine anyY_take (i := 12) (v := ?_) rfl (by kernel_rfl) (by kernel_rfl) (by kernel_rfl) (by kernel_rfl) (fun _ _ _ h => h) (Or.inl ⟨by rfl, ?_⟩) (by assumption) ?_
              rotate_left
              · (intro w hSw; (try dsimp only at hSw); go_simp; (try with_reducible rfl))
              try simp only [Act.put, List.getElem_toArray, List.getElem_cons_zero, List.getElem_cons_succ, List.setIfInBounds_toArray, List.set_cons_zero, List.set_cons_succ]
              refine anyY_take (i := 13) (v := ?_) rfl (by kernel_rfl) (by kernel_rfl) (by kernel_rfl) (by kernel_rfl) (fun _ _ _ h => h) (Or.inl ⟨by rfl, ?_⟩) (by assumption) ?_
              rotate_left
              · (intro w hSw; (try dsimp only at hSw); go_simp; (try with_reducible rfl))
              try simp only [Act.put, List.getElem_toArray, List.getElem_cons_zero, List.getElem_cons_succ, List.setIfInBounds_toArray, List.set_cons_zero, List.set_cons_succ]
              refine anyY_take (i := 14) (v := ?_) rfl (by kernel_rfl) (by kernel_rfl) (by kernel_rfl) (by kernel_rfl) (fun _ _ _ h => h) (Or.inl ⟨by rfl, ?_⟩) (by assumption) ?_
              rotate_left
              · (intro w hSw; (try dsimp only at hSw); go_simp; (try with_reducible rfl))
              try simp only [Act.put, List.getElem_toArray, List.getElem_cons_zero, List.getElem_cons_succ, List.setIfInBounds_toArray, List.set_cons_zero, List.set_cons_succ]
              refine anyY_take (i := 15) (v := ?_) rfl (by kernel_rfl) (by kernel_rfl) (by kernel_rfl) (by kernel_rfl) (fun _ _ _ h => h) (Or.inl ⟨by rfl, ?_⟩) (by assumption) ?_
              rotate_left
              · (intro w hSw; (try dsimp only at hSw); go_simp; (try with_reducible rfl))
              try simp only [Act.put, List.getElem_toArray, List.getElem_cons_zero, List.getElem_cons_succ, List.setIfInBounds_toArray, List.set_cons_zero, List.set_cons_succ]
              refine anyY_take (i := 16) (v := ?_) rfl (by kernel_rfl) (by kernel_rfl) (by kernel_rfl) (by kernel_rfl) (fun _ _ _ h => h) (Or.inl ⟨by rfl, ?_⟩) (by assumption) ?_
              rotate_left
              · (intro w hSw; (try dsimp only at hSw); go_simp; (try with_reducible rfl))
              try simp only [Act.put, List.getElem_toArray, List.getElem_cons_zero, List.getElem_cons_succ, List.setIfInBounds_toArray, List.set_cons_zero, List.set_cons_succ]
              refine anyY_take (i := 17) (v := ?_) rfl (by kernel_rfl) (by kernel_rfl) (by kernel_rfl) (by kernel_rfl) (fun _ _ _ h => h) (Or.inl ⟨by rfl, ?_⟩) (by assumption) ?_
              rotate_left
              · (intro w hSw; (try dsimp only at hSw); go_simp; (try with_reducible rfl))
              try simp only [Act.put, List.getElem_toArray, List.getElem_cons_zero, List.getElem_cons_succ, List.setIfInBounds_toArray, List.set_cons_zero, List.set_cons_succ]
              refine anyY_take (i := 18) (v := ?_) rfl (by kernel_rfl) (by kernel_rfl) (by kernel_rfl) (by kernel_rfl) (fun _ _ _ h => h) (Or.inl ⟨by rfl, ?_⟩) (by assumption) ?_
              rotate_left
              · (intro w hSw; (try dsimp only at hSw); go_simp; (try with_reducible rfl))
              try simp only [Act.put, List.getElem_toArray, List.getElem_cons_zero, List.getElem_cons_succ, List.setIfInBounds_toArray, List.set_cons_zero, List.set_cons_succ]
              refine anyY_one (i := 19) (by kernel_rfl) rfl (fun K hK => ?_)
              go_simp
              (try dsimp only)
              refine hK.out _ _ ⟨Ext.cellAt ((Ext.refl _).alloc _) pr_p3, Ext.cellAt ((Ext.refl _).alloc _) e0, Ext.cellAt ((Ext.refl _).alloc _) e1, Ext.cellAt ((Ext.refl _).alloc _) e2, Ext.cellAt ((Ext.refl _).alloc _) e3, Ext.cellAt ((Ext.refl _).alloc _) e4⟩ (fun hHeld => ?_)
              clear hK K
              try simp only [Act.put, List.getElem_toArray, List.getElem_cons_zero, List.getElem_cons_succ, List.setIfInBounds_toArray, List.set_cons_zero, List.set_cons_succ]
              have hV : Ext wr (wr.alloc (.cells #[.int .i64 x0, .int .i64 x1, .int .i64 x2, .int .i64 x3, .int .i64 x4] 90)).drew := ((Ext.refl wr).alloc _).drew
              have hrx := rd_new wr [.int .i64 x0, .int .i64 x1, .int .i64 x2, .int .i64 x3, .int .i64 x4] 90 5 rfl
              have owV := hV.own own (Nat.le_refl _)
              have hzV : wr.heap.size + 1 = (wr.alloc (.cells #[.int .i64 x0, .int .i64 x1, .int .i64 x2, .int .i64 x3, .int .i64 x4] 90)).drew.heap.size := by simp
              refine anyY_one (i := 20) (by kernel_rfl) rfl (fun K hK => ?_)
              refine step_app1 (d := .tmp 79) (s := .tmp 97) ?_ ?_ 90 k0 _ 5 40 Try.underlying40 hk0 hx0 hx1 hx2 rfl hp5 w7.heap.size wr.heap.size (.slice AE i cE) i (((os3.map (fun s => toE s.l)).take i).flatMap eEntry) ?_ owV (by omega) (by omega) (wr.heap.size + 1) (some ⟨wr.heap.size, 0, none⟩) 1 1 (eEntry (⟨x0, x1, ⟨x2, x3, x4⟩⟩ : EntryD)) ?_ (by exact hrx) (fun u hu => oneCell_Entry [(⟨x0, x1, ⟨x2, x3, x4⟩⟩ : EntryD)] u (by simpa using hu)) hml hbl ?_
              rfl
              rfl
              (focus (simp [Act.eval]; done))
              (focus (simp [Act.eval]; done))
              intro A6 c6 w6 o6 hg6
              have hF6 : Fr _ _ _ w6 := Fr.of_grown hg6 (fun g h => owV.lt g h)
              have hz6 := hF6.size
              (clear pr_p0 pr_f0 pr_p1 pr_f1 pr_p2 pr_f2 pr_p3 pr_f3)
              replace pr := (pr.ext hV).fr hF6 (.inl (by omega))
              obtain ⟨pr_p0, pr_f0⟩ := pr.at 0 _ rfl
              obtain ⟨pr_p1, pr_f1⟩ := pr.at 1 _ rfl
              obtain ⟨pr_p2, pr_f2⟩ := pr.at 2 _ rfl
              obtain ⟨pr_p3, pr_f3⟩ := pr.at 3 _ rfl
              replace e0 := hF6.cellAt (hV.cellAt e0) (.inl (by omega))
              replace e1 := hF6.cellAt (hV.cellAt e1) (.inl (by omega))
              replace e2 := hF6.cellAt (hV.cellAt e2) (.inl (by omega))
              replace e3 := hF6.cellAt (hV.cellAt e3) (.inl (by omega))
              replace e4 := hF6.cellAt (hV.cellAt e4) (.inl (by omega))
              (try dsimp only)
              refine hK.out _ _ ⟨pr_p3, e0, e1, e2, e3, e4⟩ (fun hHeld => ?_)
              clear hK K
              try simp only [Act.put, List.getElem_toArray, List.getElem_cons_zero, List.getElem_cons_succ, List.setIfInBounds_toArray, List.set_cons_zero, List.set_cons_succ]
              refine anyY_take (i := 21) (v := ?_) rfl (by kernel_rfl) (by kernel_rfl) (by kernel_rfl) (by kernel_rfl) (fun _ _ _ h => h) (Or.inl ⟨by rfl, ?_⟩) (by assumption) ?_
              rotate_left
              · (intro w hSw; (try dsimp only at hSw); go_simp; (try with_reducible rfl))
              try simp only [Act.put, List.getElem_toArray, List.getElem_cons_zero, List.getElem_cons_succ, List.setIfInBounds_toArray, List.set_cons_zero, List.set_cons_succ]
              refine anyY_last (x := 22) (by kernel_rfl) (by kernel_rfl) rfl (fun K hK => ?_)
              go_simp
              (try dsimp only)
              refine hK.out _ _ ?_
              clear hK K
              try simp only [Act.put, List.getElem_toArray, List.getElem_cons_zero, List.getElem_cons_succ, List.setIfInBounds_toArray, List.set_cons_zero, List.set_cons_succ]
              refine anyY_done (by kernel_rfl) ?_ _
              clear hHeld pr_p0 pr_f0 pr_p1 pr_f1 pr_p2 pr_f2 pr_p3 pr_f3 d0 e0 e1 e2 e3 e4
              have hK1n : Kp 0 (w.heap.size + 1 + 1) w7 (w6.setCell ⟨w.heap.size + 1 + 1, 3, none⟩ (.slice A6 (i + 1) c6)) := ((hK1.ext (by omega) hV).fr (by omega) (.inl (by omega)) hF6).set (.inr (by omega)) _ _
              have hK2n : Kp (w.heap.size + 3) w7.heap.size w7 (w6.setCell ⟨w.heap.size + 1 + 1, 3, none⟩ (.slice A6 (i + 1) c6)) := ((hK2.ext (by omega) hV).fr (by omega) (.inl (by omega)) hF6).set (.inl (by omega)) _ _
              have hXn : Ext w (w6.setCell ⟨w.heap.size + 1 + 1, 3, none⟩ (.slice A6 (i + 1) c6)) := ((hXr.trans hV).fr hF6 (by omega)).set (by omega) _ _
              have o7 : Own (w6.setCell ⟨w.heap.size + 1 + 1, 3, none⟩ (.slice A6 (i + 1) c6)) w7.heap.size w6.heap.size 90 5 (.slice A6 (i + 1) c6) (i + 1) (((os3.map (fun s => toE s.l)).take (i + 1)).flatMap eEntry) := by
                rw [← hsn, List.flatMap_append, List.flatMap_cons, List.flatMap_nil, List.append_nil]
                exact o6.dodge pr.row (by decide) 3 _
              have pn := pr.set 3 (.slice A6 (i + 1) c6)
              have hzn : w6.heap.size = (w6.setCell ⟨w.heap.size + 1 + 1, 3, none⟩ (.slice A6 (i + 1) c6)).heap.size := by simp
              have hzn1 := Nat.le_of_eq hzn
              clear o6 hg6 hF6 hV hrx owV own pr hK1 hK2 hXr hzn
              go_wp2
              go_roundw
              case rel => exact ⟨i + 1, A6, c6, by omega, by go_num, hK1n, hK2n, by omega, hXn, pn, o7.wide (Nat.le_refl _) hzn1⟩
              case measure => simp [intOf]; omega
            · obtain rfl : m3 = i := by omega
              have own2 : O_EntryS wr w7.heap.size wr.heap.size (.slice AE m3 cE) (os3.map (fun s => toE s.l)) := OwnS.of (by rw [List.take_of_length_le (by rw [List.length_map, Hl3.out]; exact Nat.le_refl _)] at own; exact own) (by rw [List.length_map, Hl3.out])
              replace z := z.kp hK1 (by omega) (by omega)
              replace hR := hR.kp hK1 (by omega) (by omega)
              replace hrd0 := hrd0.kp hK1 (by omega)
              clear hX p
              have hX := hXr
              have p := pr
              have oE := own2
              replace oC := oC.keep (hK2.sub (by omega) (by omega))
              replace oS := oS.keep (hK2.sub (by omega) (by omega))
              clear own own2 hK1 hK2 hXr pr oo3 om3 hlt
              rename World => w8
              have hze : w7.heap.size ≤ w8.heap.size := hzr
              clear hzr
              have k1 : rd1 l a = (R1, s1) := by unfold rd1; rw [Hrn.out]; exact Hq1.out
              have k2 : rd2 l a = (R2, s2) := by unfold rd2; rw [k1]; exact Hq2.out
              have k3 : rd3 l a = (R3, s3) := by unfold rd3; rw [k2]; exact Hq3.out
              have hI : Hid (unpackI l a = ⟨base, ⟨os1.map (fun s => toC s.l), os2.map (fun s => toS s.l)⟩, os3.map (fun s => toE s.l)⟩) := by
                show _ = _
                unfold unpackI
                rw [Hrn.out, k1, k2, k3, Hos1.out, Hos2.out, Hos3.out, List.map_map, List.map_map, List.map_map]
                rfl
              have hk3 : Hid ((rd3 l a).2 = s3) := by show _ = _; rw [k3]
              clear k1 k2 k3
              obtain ⟨at3, rb, hat3⟩ := hR
              have hlz := z.lt
              have hlp := p.lt
              cases s3 with
              | none =>
                have rb' : Blk w8 (w.heap.size + 1) 106 [.slice A n c, .int .i64 at3, .bool false] := rb
                clear rb
                have r := rb'
                clear rb'
                have hf : Hid (res = (zeroL, 0, false)) := by show _ = _; rw [← Hres.out]; exact unpackL_no hk3.out
                obtain ⟨z_p0, z_f0⟩ := z.at 0 _ rfl
                obtain ⟨z_p1, z_f1⟩ := z.at 1 _ rfl
                obtain ⟨z_p2, z_f2⟩ := z.at 2 _ rfl
                obtain ⟨z_p3, z_f3⟩ := z.at 3 _ rfl
                obtain ⟨r_p0, r_f0⟩ := r.at 0 _ rfl
                obtain ⟨r_p1, r_f1⟩ := r.at 1 _ rfl
                obtain ⟨r_p2, r_f2⟩ := r.at 2 _ rfl
                obtain ⟨p_p0, p_f0⟩ := p.at 0 _ rfl
                obtain ⟨p_p1, p_f1⟩ := p.at 1 _ rfl
                obtain ⟨p_p2, p_f2⟩ := p.at 2 _ rfl
                obtain ⟨p_p3, p_f3⟩ := p.at 3 _ rfl
                go_wp2
                rw [hf.out]
                exact bodyPost_ret (v := .tuple #[.agg #[.int .i64 0, .slice none 0 0, .slice none 0 0, .slice none 0 0], .int .i64 0, .bool false]) (by simp [results, Try.results26, go_sem, z_p0, z_p1, z_p2, z_p3]) rfl ⟨_, rfl, ⟨_, _, _, rfl, OwnS.nil _, OwnS.nil _, OwnS.nil _⟩, by repeat' (first | with_reducible exact Ext.refl _ | with_reducible assumption | with_reducible refine Ext.set ?_ ?_ _ _ | with_reducible refine Ext.alloc ?_ _ | with_reducible refine Ext.drew ?_ | with_reducible refine Ext.drewN ?_ _ | with_reducible refine Ext.trans ?_ (by with_reducible assumption) | omega | (simp; done) | (simp; omega))⟩
              | some ee =>
                obtain rfl : at3 = ee := hat3 ee rfl
                have rb' : Blk w8 (w.heap.size + 1) 106 [.slice A n c, .int .i64 at3, .bool true] := rb
                clear rb hat3
                have r := rb'
                clear rb'
                have hf0 : Hid (res = if logOk ⟨base, ⟨os1.map (fun s => toC s.l), os2.map (fun s => toS s.l)⟩, os3.map (fun s => toE s.l)⟩ then (⟨base, ⟨os1.map (fun s => toC s.l), os2.map (fun s => toS s.l)⟩, os3.map (fun s => toE s.l)⟩, at3, true) else (zeroL, 0, false)) := by show _ = _; rw [← Hres.out, unpackL_yes hk3.out, hI.out]
                have oL : O_Log w8 (w.heap.size + 3) w8.heap.size (.agg #[.int .i64 base, .slice AC m1 cC, .slice AS m2 cS, .slice AE m3 cE]) ⟨base, ⟨os1.map (fun s => toC s.l), os2.map (fun s => toS s.l)⟩, os3.map (fun s => toE s.l)⟩ := ⟨_, _, _, rfl, O_CellS.wide oC (by omega) (by omega), O_SeatS.wide oS (by omega) (by omega), O_EntryS.wide oE (by omega) (Nat.le_refl _)⟩
                clear oC oS oE hI
                generalize (⟨base, ⟨os1.map (fun s => toC s.l), os2.map (fun s => toS s.l)⟩, os3.map (fun s => toE s.l)⟩ : LogD) = F at *
                obtain ⟨ok, hok⟩ : ∃ ok, logOk F = ok := ⟨_, rfl⟩
                obtain ⟨z_p0, z_f0⟩ := z.at 0 _ rfl
                obtain ⟨z_p1, z_f1⟩ := z.at 1 _ rfl
                obtain ⟨z_p2, z_f2⟩ := z.at 2 _ rfl
                obtain ⟨z_p3, z_f3⟩ := z.at 3 _ rfl
                obtain ⟨r_p0, r_f0⟩ := r.at 0 _ rfl
                obtain ⟨r_p1, r_f1⟩ := r.at 1 _ rfl
                obtain ⟨r_p2, r_f2⟩ := r.at 2 _ rfl
                obtain ⟨p_p0, p_f0⟩ := p.at 0 _ rfl
                obtain ⟨p_p1, p_f1⟩ := p.at 1 _ rfl
                obtain ⟨p_p2, p_f2⟩ := p.at 2 _ rfl
                obtain ⟨p_p3, p_f3⟩ := p.at 3 _ rfl
                go_wp2_with fail
                refine (logOk_i _ F _ w8.heap.size (by exact oL.rd) (Nat.le_refl _)).mono ?_
                rw [hok]
                rintro e w9 ⟨rfl, hE9⟩
                clear z_p0 z_f0 z_p1 z_f1 z_p2 z_f2 z_p3 z_f3 r_p0 r_f0 r_p1 r_f1 r_p2 r_f2 p_p0 p_f0 p_p1 p_f1 p_p2 p_f2 p_p3 p_f3
                replace z := z.ext hE9
                replace r := r.ext hE9
                replace p := p.ext hE9
                obtain ⟨z_p0, z_f0⟩ := z.at 0 _ rfl
                obtain ⟨z_p1, z_f1⟩ := z.at 1 _ rfl
                obtain ⟨z_p2, z_f2⟩ := z.at 2 _ rfl
                obtain ⟨z_p3, z_f3⟩ := z.at 3 _ rfl
                obtain ⟨r_p0, r_f0⟩ := r.at 0 _ rfl
                obtain ⟨r_p1, r_f1⟩ := r.at 1 _ rfl
                obtain ⟨r_p2, r_f2⟩ := r.at 2 _ rfl
                obtain ⟨p_p0, p_f0⟩ := p.at 0 _ rfl
                obtain ⟨p_p1, p_f1⟩ := p.at 1 _ rfl
                obtain ⟨p_p2, p_f2⟩ := p.at 2 _ rfl
                obtain ⟨p_p3, p_f3⟩ := p.at 3 _ rfl
                have hz9 := hE9.size
                replace oL := oL.keep (keepE hE9 (Nat.le_refl _))
                replace hX := hX.trans hE9
                clear hE9
                cases ok with
                | false =>
                  have hf : Hid (res = (zeroL, 0, false)) := by show _ = _; rw [hf0.out, if_neg (by rw [hok]; simp)]
                  clear hf0 hok
                  go_wp2
                  rw [hf.out]
                  exact bodyPost_ret (v := .tuple #[.agg #[.int .i64 0, .slice none 0 0, .slice none 0 0, .slice none 0 0], .int .i64 0, .bool false]) (by simp [results, Try.results26, go_sem, z_p0, z_p1, z_p2, z_p3]) rfl ⟨_, rfl, ⟨_, _, _, rfl, OwnS.nil _, OwnS.nil _, OwnS.nil _⟩, by repeat' (first | with_reducible exact Ext.refl _ | with_reducible assumption | with_reducible refine Ext.set ?_ ?_ _ _ | with_reducible refine Ext.alloc ?_ _ | with_reducible refine Ext.drew ?_ | with_reducible refine Ext.drewN ?_ _ | with_reducible refine Ext.trans ?_ (by with_reducible assumption) | omega | (simp; done) | (simp; omega))⟩
                | true =>
                  have hf : Hid (res = (F, at3, true)) := by show _ = _; rw [hf0.out, if_pos hok]
                  clear hf0 hok
                  have hlz9 := z.lt
                  go_upto_region 21 with (fail)
                  refine wp_region_held_drew (S := (fun w' => w'.cell? ⟨w.heap.size + 1 + 1, 0, none⟩ = some (.int .i64 base) ∧ w'.cell? ⟨w.heap.size + 1 + 1, 1, none⟩ = some (.slice AC m1 cC) ∧ w'.cell? ⟨w.heap.size + 1 + 1, 2, none⟩ = some (.slice AS m2 cS) ∧ w'.cell? ⟨w.heap.size + 1 + 1, 3, none⟩ = some (.slice AE m3 cE) ∧ w'.cell? ⟨w.heap.size + 1, 1, none⟩ = some (.int .i64 at3))) (by kernel_rfl) ⟨p_p0, p_p1, p_p2, p_p3, r_p1⟩ (fun hHeld => ?_)
                  refine wpAnyH_take (i := 0) (v := ?_) rfl (by kernel_rfl) (by kernel_rfl) (by kernel_rfl) (fun _ _ _ h => h) (Or.inl ⟨by rfl, ?_⟩) (by assumption) ?_
                  rotate_left
                  · (intro w hSw; (try dsimp only at hSw); go_simp; (try with_reducible rfl))
                  try simp only [Act.put, List.getElem_toArray, List.getElem_cons_zero, List.getElem_cons_succ, List.setIfInBounds_toArray, List.set_cons_zero, List.set_cons_succ]
                  refine wpAnyH_take (i := 1) (v := ?_) rfl (by kernel_rfl) (by kernel_rfl) (by kernel_rfl) (fun _ _ _ h => h) (Or.inl ⟨by rfl, ?_⟩) (by assumption) ?_
                  rotate_left
                  · (intro w hSw; (try dsimp only at hSw); go_simp; (try with_reducible rfl))
                  try simp only [Act.put, List.getElem_toArray, List.getElem_cons_zero, List.getElem_cons_succ, List.setIfInBounds_toArray, List.set_cons_zero, List.set_cons_succ]
                  refine wpAnyH_take (i := 2) (v := ?_) rfl (by kernel_rfl) (by kernel_rfl) (by kernel_rfl) (fun _ _ _ h => h) (Or.inl ⟨by rfl, ?_⟩) (by assumption) ?_
                  rotate_left
                  · (intro w hSw; (try dsimp only at hSw); go_simp; (try with_reducible rfl))
                  try simp only [Act.put, List.getElem_toArray, List.getElem_cons_zero, List.getElem_cons_succ, List.setIfInBounds_toArray, List.set_cons_zero, List.set_cons_succ]
                  refine wpAnyH_take (i := 3) (v := ?_) rfl (by kernel_rfl) (by kernel_rfl) (by kernel_rfl) (fun _ _ _ h => h) (Or.inl ⟨by rfl, ?_⟩) (by assumption) ?_
                  rotate_left
                  · (intro w hSw; (try dsimp only at hSw); go_simp; (try with_reducible rfl))
                  try simp only [Act.put, List.getElem_toArray, List.getElem_cons_zero, List.getElem_cons_succ, List.setIfInBounds_toArray, List.set_cons_zero, List.set_cons_succ]
                  refine wpAnyH_take (i := 4) (v := ?_) rfl (by kernel_rfl) (by kernel_rfl) (by kernel_rfl) (fun _ _ _ h => h) (Or.inl ⟨by rfl, ?_⟩) (by assumption) ?_
                  rotate_left
                  · (intro w hSw; (try dsimp only at hSw); go_simp; (try with_reducible rfl))
                  try simp only [Act.put, List.getElem_toArray, List.getElem_cons_zero, List.getElem_cons_succ, List.setIfInBounds_toArray, List.set_cons_zero, List.set_cons_succ]
                  refine wpAnyH_ready (rs := [5]) (by kernel_rfl) (by simp) ?_
                  refine AllReadyH.cons rfl (fun K hK => ?_) AllReadyH.nil
                  go_simp
                  (try dsimp only)
                  refine hK.out _ _ ⟨(by (try rw [cell_drew]); (repeat rw [cell_set_ne _ _ _ _ _ _ (by omega)]); exact p_p0), (by (try rw [cell_drew]); (repeat rw [cell_set_ne _ _ _ _ _ _ (by omega)]); exact p_p1), (by (try rw [cell_drew]); (repeat rw [cell_set_ne _ _ _ _ _ _ (by omega)]); exact p_p2), (by (try rw [cell_drew]); (repeat rw [cell_set_ne _ _ _ _ _ _ (by omega)]); exact p_p3), (by (try rw [cell_drew]); (repeat rw [cell_set_ne _ _ _ _ _ _ (by omega)]); exact r_p1)⟩ (fun hHeld => ?_)
                  clear hK K
                  try simp only [Act.put, List.getElem_toArray, List.getElem_cons_zero, List.getElem_cons_succ, List.setIfInBounds_toArray, List.set_cons_zero, List.set_cons_succ]
                  refine wpAnyH_take (i := 6) (v := ?_) rfl (by kernel_rfl) (by kernel_rfl) (by kernel_rfl) (fun _ _ _ h => h) (Or.inl ⟨by rfl, ?_⟩) (by assumption) ?_
                  rotate_left
                  · (intro w hSw; (try dsimp only at hSw); go_simp; (try with_reducible rfl))
                  try simp only [Act.put, List.getElem_toArray, List.getElem_cons_zero, List.getElem_cons_succ, List.setIfInBounds_toArray, List.set_cons_zero, List.set_cons_succ]
                  refine wpAnyH_take (i := 7) (v := ?_) rfl (by kernel_rfl) (by kernel_rfl) (by kernel_rfl) (fun _ _ _ h => h) (Or.inl ⟨by rfl, ?_⟩) (by assumption) ?_
                  rotate_left
                  · (intro w hSw; (try dsimp only at hSw); go_simp; (try with_reducible rfl))
                  try simp only [Act.put, List.getElem_toArray, List.getElem_cons_zero, List.getElem_cons_succ, List.setIfInBounds_toArray, List.set_cons_zero, List.set_cons_succ]
                  refine wpAnyH_done (by kernel_rfl) ?_ _
                  clear hHeld
                  go_wp2
                  have hbz := z.bt
                  rw [hf.out]
                  exact bodyPost_ret (v := .tuple #[.agg #[.int .i64 base, .slice AC m1 cC, .slice AS m2 cS, .slice AE m3 cE], .int .i64 at3, .bool true]) (by simp [results, Try.results26, go_sem, z_p0, z_p1, z_p2, z_p3]) rfl ⟨_, rfl, O_Log.wide (O_Log.dodge4 (show O_Log w9.drew _ _ _ F from oL) hbz _ _ _ _) (by omega) (by first | (simp; omega) | (simp; done)), by repeat' (first | with_reducible exact Ext.refl _ | with_reducible assumption | with_reducible refine Ext.set ?_ ?_ _ _ | with_reducible refine Ext.alloc ?_ _ | with_reducible refine Ext.drew ?_ | with_reducible refine Ext.drewN ?_ _ | with_reducible refine Ext.trans ?_ (by with_reducible assumption) | omega | (simp; done) | (simp; omega))⟩

end Go.Proofs.Ytbfbdhjeoknjkaa
