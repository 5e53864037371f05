/-
  The program's reader of numbers: num and rows, walked.
-/
import Derived.Test.YtbfbdhjeoknjkaaUnpackM
import Derived.Test.YtbfbdhjeoknjkaaGet
import Derived.Test.YtbfbdhjeoknjkaaMg1
import Derived.Test.YtbfbdhjeoknjkaaMg3
import Derived.Test.YtbfbdhjeoknjkaaDrawC
import Derived.Deep.CutBlock
namespace Go.Proofs.Ytbfbdhjeoknjkaa
open Go.RowKit

/-- The block is a reader over the bytes .slice A n c, in the state s. -/
def Rdr (w : World) (g : Nat) (A : Option Addr) (n c : Nat) (s : Option Int) : Prop := ∃ a : Int, Blk w g 106 [.slice A n c, .int .i64 a, .bool s.isSome] ∧ ∀ x, s = some x → a = x
section
variable {a b : World} {g k lo hi : Nat} {A : Option Addr} {n c : Nat} {s : Option Int}
theorem Rdr.lt (h : Rdr a g A n c s) : g < a.heap.size := by
  obtain ⟨x, hb, -⟩ := h
  exact hb.lt
theorem Rdr.ext (h : Rdr a g A n c s) (hE : Ext a b) : Rdr b g A n c s := by
  obtain ⟨x, hb, hx⟩ := h
  exact ⟨x, hb.ext hE, hx⟩
theorem Rdr.alloc (h : Rdr a g A n c s) (o : Obj) : Rdr (a.alloc o) g A n c s := h.ext ((Ext.refl _).alloc o)
theorem Rdr.drew (h : Rdr a g A n c s) : Rdr a.drew g A n c s := h
theorem Rdr.fr (h : Rdr a g A n c s) (hF : Fr lo hi a b) (ho : g < lo ∨ hi ≤ g) : Rdr b g A n c s := by
  obtain ⟨x, hb, hx⟩ := h
  exact ⟨x, hb.fr hF ho, hx⟩
theorem Rdr.far (h : Rdr a g A n c s) (hk : k ≠ g) (j : Nat) (u : Value) : Rdr (a.setCell ⟨k, j, none⟩ u) g A n c s := by
  obtain ⟨x, hb, hx⟩ := h
  exact ⟨x, hb.far hk j u, hx⟩
end

set_option maxRecDepth 100000 in
set_option maxHeartbeats 4000000 in
theorem num_i (g : Nat) (A : Option Addr) (n c : Nat) (l : List UInt8) (B : Nat) (s : Option Int) (w : World) (hR : Rdr w g A n c s) (hr : Rd w B 1 A n (l.flatMap eB)) (hB : B ≤ g) (hl : l.length = n) (hn : n ≤ 4611686018427387904) :
    Calls Try.prog 62 #[.pointer (some ⟨g, 0, none⟩)] w fun e w' => e = .returned (.int .i64 (rdNum l s).1) ∧ Rdr w' g A n c (rdNum l s).2 ∧ Fr g (g + 1) w w' := by
  have hg := hR.lt
  obtain ⟨a, r, ha⟩ := hR
  cases s with
  | none =>
    have r' : Blk w g 106 [.slice A n c, .int .i64 a, .bool false] := r
    clear r
    have r := r'
    clear r'
    go_enter Try.func62, Try.ntmps62
    obtain ⟨r_p0, r_f0⟩ := r.at 0 _ rfl
    obtain ⟨r_p1, r_f1⟩ := r.at 1 _ rfl
    obtain ⟨r_p2, r_f2⟩ := r.at 2 _ rfl
    go_wp2
    go_ret
    exact ⟨rfl, ⟨a, r, fun x hx => nomatch hx⟩, Fr.ext (Ext.refl _)⟩
  | some x =>
    obtain rfl : a = x := ha x rfl
    have r' : Blk w g 106 [.slice A n c, .int .i64 a, .bool true] := r
    clear r ha
    have r := r'
    clear r'
    obtain ⟨res, hres⟩ : ∃ res, getNum l a = res := ⟨_, rfl⟩
    have Hres := Lib.hid hres
    clear hres
    go_enter Try.func62, Try.ntmps62
    obtain ⟨r_p0, r_f0⟩ := r.at 0 _ rfl
    obtain ⟨r_p1, r_f1⟩ := r.at 1 _ rfl
    obtain ⟨r_p2, r_f2⟩ := r.at 2 _ rfl
    go_upto_region 3 with (fail)
    refine wp_region_held_drew (S := (fun w' => w'.cell? ⟨g, 0, none⟩ = some (.slice A n c) ∧ w'.cell? ⟨g, 1, none⟩ = some (.int .i64 a))) (by kernel_rfl) ⟨r_p0, r_p1⟩ (fun hHeld => ?_)
    refine wpAnyH_take (i := 0) (v := ?_) rfl (by kernel_rfl) (by kernel_rfl) (by kernel_rfl) (fun _ _ _ h => h) (Or.inl ⟨by rfl, ?_⟩) (by assumption) ?_
    rotate_left
    · (intro w hSw; (try dsimp only at hSw); go_simp; (try with_reducible rfl))
    try simp only [Act.put, List.getElem_toArray, List.getElem_cons_zero, List.getElem_cons_succ, List.setIfInBounds_toArray, List.set_cons_zero, List.set_cons_succ]
    refine wpAnyH_take (i := 1) (v := ?_) rfl (by kernel_rfl) (by kernel_rfl) (by kernel_rfl) (fun _ _ _ h => h) (Or.inl ⟨by rfl, ?_⟩) (by assumption) ?_
    rotate_left
    · (intro w hSw; (try dsimp only at hSw); go_simp; (try with_reducible rfl))
    try simp only [Act.put, List.getElem_toArray, List.getElem_cons_zero, List.getElem_cons_succ, List.setIfInBounds_toArray, List.set_cons_zero, List.set_cons_succ]
    refine wpAnyH_take (i := 2) (v := ?_) rfl (by kernel_rfl) (by kernel_rfl) (by kernel_rfl) (fun _ _ _ h => h) (Or.inl ⟨by rfl, ?_⟩) (by assumption) ?_
    rotate_left
    · (intro w hSw; (try dsimp only at hSw); go_simp; (try with_reducible rfl))
    try simp only [Act.put, List.getElem_toArray, List.getElem_cons_zero, List.getElem_cons_succ, List.setIfInBounds_toArray, List.set_cons_zero, List.set_cons_succ]
    refine wpAnyH_take (i := 3) (v := ?_) rfl (by kernel_rfl) (by kernel_rfl) (by kernel_rfl) (fun _ _ _ h => h) (Or.inl ⟨by rfl, ?_⟩) (by assumption) ?_
    rotate_left
    · (intro w hSw; (try dsimp only at hSw); go_simp; (try with_reducible rfl))
    try simp only [Act.put, List.getElem_toArray, List.getElem_cons_zero, List.getElem_cons_succ, List.setIfInBounds_toArray, List.set_cons_zero, List.set_cons_succ]
    refine wpAnyH_take (i := 4) (v := ?_) rfl (by kernel_rfl) (by kernel_rfl) (by kernel_rfl) (fun _ _ _ h => h) (Or.inl ⟨by rfl, ?_⟩) (by assumption) ?_
    rotate_left
    · (intro w hSw; (try dsimp only at hSw); go_simp; (try with_reducible rfl))
    try simp only [Act.put, List.getElem_toArray, List.getElem_cons_zero, List.getElem_cons_succ, List.setIfInBounds_toArray, List.set_cons_zero, List.set_cons_succ]
    refine wpAnyH_take (i := 5) (v := ?_) rfl (by kernel_rfl) (by kernel_rfl) (by kernel_rfl) (fun _ _ _ h => h) (Or.inl ⟨by rfl, ?_⟩) (by assumption) ?_
    rotate_left
    · (intro w hSw; (try dsimp only at hSw); go_simp; (try with_reducible rfl))
    try simp only [Act.put, List.getElem_toArray, List.getElem_cons_zero, List.getElem_cons_succ, List.setIfInBounds_toArray, List.set_cons_zero, List.set_cons_succ]
    refine wpAnyH_take (i := 6) (v := ?_) rfl (by kernel_rfl) (by kernel_rfl) (by kernel_rfl) (fun _ _ _ h => h) (Or.inl ⟨by rfl, ?_⟩) (by assumption) ?_
    rotate_left
    · (intro w hSw; (try dsimp only at hSw); go_simp; (try with_reducible rfl))
    try simp only [Act.put, List.getElem_toArray, List.getElem_cons_zero, List.getElem_cons_succ, List.setIfInBounds_toArray, List.set_cons_zero, List.set_cons_succ]
    refine wpAnyH_take (i := 7) (v := ?_) rfl (by kernel_rfl) (by kernel_rfl) (by kernel_rfl) (fun _ _ _ h => h) (Or.inl ⟨by rfl, ?_⟩) (by assumption) ?_
    rotate_left
    · (intro w hSw; (try dsimp only at hSw); go_simp; (try with_reducible rfl))
    try simp only [Act.put, List.getElem_toArray, List.getElem_cons_zero, List.getElem_cons_succ, List.setIfInBounds_toArray, List.set_cons_zero, List.set_cons_succ]
    refine wpAnyH_ready (rs := [8]) (by kernel_rfl) (by simp) ?_
    refine AllReadyH.cons rfl (fun K hK => ?_) AllReadyH.nil
    go_simp
    go_at_call 109
    refine (getNum_i A n c l a _ B (by exact hr) hl hn).mono ?_
    rw [Hres.out]
    rintro e w1 ⟨rfl, hst⟩
    have hE : Ext w w1 := ((Ext.refl _).drew).trans hst.ext
    (clear r_p0 r_f0 r_p1 r_f1 r_p2 r_f2)
    replace r := r.ext hE
    obtain ⟨r_p0, r_f0⟩ := r.at 0 _ rfl
    obtain ⟨r_p1, r_f1⟩ := r.at 1 _ rfl
    obtain ⟨r_p2, r_f2⟩ := r.at 2 _ rfl
    have hF1 : Fr g (g + 1) w w1 := Fr.ext hE
    (clear hst hE)
    (try dsimp only)
    refine hK.out _ _ ⟨r_p0, r_p1⟩ (fun hHeld => ?_)
    clear hK K
    try simp only [Act.put, List.getElem_toArray, List.getElem_cons_zero, List.getElem_cons_succ, List.setIfInBounds_toArray, List.set_cons_zero, List.set_cons_succ]
    cases res with
    | none =>
      have hrn : rdNum l (some a) = (0, none) := rdNum_no Hres.out
      try simp only [gnV]
      refine wpAnyH_take (i := 9) (v := ?_) rfl (by kernel_rfl) (by kernel_rfl) (by kernel_rfl) (fun _ _ _ h => h) (Or.inl ⟨by rfl, ?_⟩) (by assumption) ?_
      rotate_left
      · (intro w hSw; (try dsimp only at hSw); go_simp; (try with_reducible rfl))
      try simp only [Act.put, List.getElem_toArray, List.getElem_cons_zero, List.getElem_cons_succ, List.setIfInBounds_toArray, List.set_cons_zero, List.set_cons_succ]
      refine wpAnyH_take (i := 10) (v := ?_) rfl (by kernel_rfl) (by kernel_rfl) (by kernel_rfl) (fun _ _ _ h => h) (Or.inl ⟨by rfl, ?_⟩) (by assumption) ?_
      rotate_left
      · (intro w hSw; (try dsimp only at hSw); go_simp; (try with_reducible rfl))
      try simp only [Act.put, List.getElem_toArray, List.getElem_cons_zero, List.getElem_cons_succ, List.setIfInBounds_toArray, List.set_cons_zero, List.set_cons_succ]
      refine wpAnyH_take (i := 11) (v := ?_) rfl (by kernel_rfl) (by kernel_rfl) (by kernel_rfl) (fun _ _ _ h => h) (Or.inl ⟨by rfl, ?_⟩) (by assumption) ?_
      rotate_left
      · (intro w hSw; (try dsimp only at hSw); go_simp; (try with_reducible rfl))
      try simp only [Act.put, List.getElem_toArray, List.getElem_cons_zero, List.getElem_cons_succ, List.setIfInBounds_toArray, List.set_cons_zero, List.set_cons_succ]
      refine wpAnyH_take (i := 12) (v := ?_) rfl (by kernel_rfl) (by kernel_rfl) (by kernel_rfl) (fun _ _ _ h => h) (Or.inl ⟨by rfl, ?_⟩) (by assumption) ?_
      rotate_left
      · (intro w hSw; (try dsimp only at hSw); go_simp; (try with_reducible rfl))
      try simp only [Act.put, List.getElem_toArray, List.getElem_cons_zero, List.getElem_cons_succ, List.setIfInBounds_toArray, List.set_cons_zero, List.set_cons_succ]
      refine wpAnyH_take (i := 13) (v := ?_) rfl (by kernel_rfl) (by kernel_rfl) (by kernel_rfl) (fun _ _ _ h => h) (Or.inl ⟨by rfl, ?_⟩) (by assumption) ?_
      rotate_left
      · (intro w hSw; (try dsimp only at hSw); go_simp; (try with_reducible rfl))
      try simp only [Act.put, List.getElem_toArray, List.getElem_cons_zero, List.getElem_cons_succ, List.setIfInBounds_toArray, List.set_cons_zero, List.set_cons_succ]
      refine wpAnyH_take (i := 14) (v := ?_) rfl (by kernel_rfl) (by kernel_rfl) (by kernel_rfl) (fun _ _ _ h => h) (Or.inl ⟨by rfl, ?_⟩) (by assumption) ?_
      rotate_left
      · (intro w hSw; (try dsimp only at hSw); go_simp; (try with_reducible rfl))
      try simp only [Act.put, List.getElem_toArray, List.getElem_cons_zero, List.getElem_cons_succ, List.setIfInBounds_toArray, List.set_cons_zero, List.set_cons_succ]
      refine wpAnyH_take (i := 15) (v := ?_) rfl (by kernel_rfl) (by kernel_rfl) (by kernel_rfl) (fun _ _ _ h => h) (Or.inl ⟨by rfl, ?_⟩) (by assumption) ?_
      rotate_left
      · (intro w hSw; (try dsimp only at hSw); go_simp; (try with_reducible rfl))
      try simp only [Act.put, List.getElem_toArray, List.getElem_cons_zero, List.getElem_cons_succ, List.setIfInBounds_toArray, List.set_cons_zero, List.set_cons_succ]
      refine wpAnyH_done (by kernel_rfl) ?_ _
      clear hHeld
      go_wp2
      have r1 := (r.set 1 (.int .i64 0)).set 2 (.bool false)
      have hF2 : Fr g (g + 1) w ((w1.setCell ⟨g, 1, none⟩ (.int .i64 0)).setCell ⟨g, 2, none⟩ (.bool false)) := (hF1.trans (Fr.cell1 _)).trans (Fr.cell1 _)
      go_ret
      rw [hrn]
      exact ⟨rfl, ⟨0, r1, fun x hx => nomatch hx⟩, hF2⟩
    | some q =>
      obtain ⟨m, e⟩ := q
      have hrn : rdNum l (some a) = ((m : Int), some (e : Int)) := rdNum_yes Hres.out
      try simp only [gnV]
      refine wpAnyH_take (i := 9) (v := ?_) rfl (by kernel_rfl) (by kernel_rfl) (by kernel_rfl) (fun _ _ _ h => h) (Or.inl ⟨by rfl, ?_⟩) (by assumption) ?_
      rotate_left
      · (intro w hSw; (try dsimp only at hSw); go_simp; (try with_reducible rfl))
      try simp only [Act.put, List.getElem_toArray, List.getElem_cons_zero, List.getElem_cons_succ, List.setIfInBounds_toArray, List.set_cons_zero, List.set_cons_succ]
      refine wpAnyH_take (i := 10) (v := ?_) rfl (by kernel_rfl) (by kernel_rfl) (by kernel_rfl) (fun _ _ _ h => h) (Or.inl ⟨by rfl, ?_⟩) (by assumption) ?_
      rotate_left
      · (intro w hSw; (try dsimp only at hSw); go_simp; (try with_reducible rfl))
      try simp only [Act.put, List.getElem_toArray, List.getElem_cons_zero, List.getElem_cons_succ, List.setIfInBounds_toArray, List.set_cons_zero, List.set_cons_succ]
      refine wpAnyH_take (i := 11) (v := ?_) rfl (by kernel_rfl) (by kernel_rfl) (by kernel_rfl) (fun _ _ _ h => h) (Or.inl ⟨by rfl, ?_⟩) (by assumption) ?_
      rotate_left
      · (intro w hSw; (try dsimp only at hSw); go_simp; (try with_reducible rfl))
      try simp only [Act.put, List.getElem_toArray, List.getElem_cons_zero, List.getElem_cons_succ, List.setIfInBounds_toArray, List.set_cons_zero, List.set_cons_succ]
      refine wpAnyH_take (i := 12) (v := ?_) rfl (by kernel_rfl) (by kernel_rfl) (by kernel_rfl) (fun _ _ _ h => h) (Or.inl ⟨by rfl, ?_⟩) (by assumption) ?_
      rotate_left
      · (intro w hSw; (try dsimp only at hSw); go_simp; (try with_reducible rfl))
      try simp only [Act.put, List.getElem_toArray, List.getElem_cons_zero, List.getElem_cons_succ, List.setIfInBounds_toArray, List.set_cons_zero, List.set_cons_succ]
      refine wpAnyH_take (i := 13) (v := ?_) rfl (by kernel_rfl) (by kernel_rfl) (by kernel_rfl) (fun _ _ _ h => h) (Or.inl ⟨by rfl, ?_⟩) (by assumption) ?_
      rotate_left
      · (intro w hSw; (try dsimp only at hSw); go_simp; (try with_reducible rfl))
      try simp only [Act.put, List.getElem_toArray, List.getElem_cons_zero, List.getElem_cons_succ, List.setIfInBounds_toArray, List.set_cons_zero, List.set_cons_succ]
      refine wpAnyH_take (i := 14) (v := ?_) rfl (by kernel_rfl) (by kernel_rfl) (by kernel_rfl) (fun _ _ _ h => h) (Or.inl ⟨by rfl, ?_⟩) (by assumption) ?_
      rotate_left
      · (intro w hSw; (try dsimp only at hSw); go_simp; (try with_reducible rfl))
      try simp only [Act.put, List.getElem_toArray, List.getElem_cons_zero, List.getElem_cons_succ, List.setIfInBounds_toArray, List.set_cons_zero, List.set_cons_succ]
      refine wpAnyH_take (i := 15) (v := ?_) rfl (by kernel_rfl) (by kernel_rfl) (by kernel_rfl) (fun _ _ _ h => h) (Or.inl ⟨by rfl, ?_⟩) (by assumption) ?_
      rotate_left
      · (intro w hSw; (try dsimp only at hSw); go_simp; (try with_reducible rfl))
      try simp only [Act.put, List.getElem_toArray, List.getElem_cons_zero, List.getElem_cons_succ, List.setIfInBounds_toArray, List.set_cons_zero, List.set_cons_succ]
      refine wpAnyH_done (by kernel_rfl) ?_ _
      clear hHeld
      go_wp2
      have r1 := (r.set 1 (.int .i64 (e : Int))).set 2 (.bool true)
      have hF2 : Fr g (g + 1) w ((w1.setCell ⟨g, 1, none⟩ (.int .i64 (e : Int))).setCell ⟨g, 2, none⟩ (.bool true)) := (hF1.trans (Fr.cell1 _)).trans (Fr.cell1 _)
      go_ret
      rw [hrn]
      exact ⟨rfl, ⟨(e : Int), r1, fun x hx => by injection hx⟩, hF2⟩

/-! ### rows of numbers -/

structure SlI where
  A : Option Addr
  n : Nat
  c : Nat
  l : List Int
def SlI.v (s : SlI) : Value := .slice s.A s.n s.c
def eSI (s : SlI) : List Value := [.slice s.A s.n s.c]
theorem eSI_len (s : SlI) : (eSI s).length = 1 := rfl
def SlI.Mine (s : SlI) (w : World) (lo hi : Nat) : Prop := O_IntS w lo hi s.v s.l
theorem SlI.Mine.keep {w w' : World} {lo hi : Nat} {s : SlI} (h : s.Mine w lo hi) (hk : ∀ k, lo ≤ k → k < hi → w'.heap[k]? = w.heap[k]?) : s.Mine w' lo hi := OwnS.keep h hk
theorem SlI.Mine.wide {w : World} {lo hi lo' hi' : Nat} {s : SlI} (h : s.Mine w lo hi) (h1 : lo' ≤ lo) (h2 : hi ≤ hi') : s.Mine w lo' hi' := OwnS.wide h h1 h2
theorem O_IntS.apartR {w w' : World} {lo hi lo' hi' : Nat} {v v' : Value} {l : List Int} {e : TypeId} {sz n' : Nat} {xs' : List Value} (h : O_IntS w lo hi v l) (h' : Own w lo' hi' e sz v' n' xs') (hne : 3 ≠ e) (hb : w.grownBy w' (blk v')) : O_IntS w' lo hi v l := by
  obtain ⟨A, n, c, rfl, hl, ho⟩ := h
  exact ⟨A, n, c, rfl, hl, ho.apart h' hne hb⟩
def O_Rows (w : World) (lo hi : Nat) (v : Value) (R : List (List Int)) : Prop := ∃ os : List SlI, R = os.map (·.l) ∧ OwnS w lo hi 84 1 eSI v os ∧ ∀ s ∈ os, s.Mine w lo hi
theorem O_Rows.keep {w w' : World} {lo hi : Nat} {v : Value} {R : List (List Int)} (h : O_Rows w lo hi v R) (hk : ∀ k, lo ≤ k → k < hi → w'.heap[k]? = w.heap[k]?) : O_Rows w' lo hi v R := by
  obtain ⟨os, rfl, h1, h2⟩ := h
  exact ⟨os, rfl, h1.keep hk, fun s hs => (h2 s hs).keep hk⟩
theorem O_Rows.wide {w : World} {lo hi lo' hi' : Nat} {v : Value} {R : List (List Int)} (h : O_Rows w lo hi v R) (h1 : lo' ≤ lo) (h2 : hi ≤ hi') : O_Rows w lo' hi' v R := by
  obtain ⟨os, rfl, g1, g2⟩ := h
  exact ⟨os, rfl, g1.wide h1 h2, fun s hs => (g2 s hs).wide h1 h2⟩

theorem info_IntL : (Try.prog.info? 84).map (fun i => (i.zero, i.size, i.bytes)) = some (some (.slice none 0 0), 1, 24) := by kernel_rfl
theorem oneCell_SI (l : List SlI) : ∀ u ∈ l.flatMap eSI, u.oneCell' = true := by
  intro u hu
  obtain ⟨b, _, hb⟩ := List.mem_flatMap.1 hu
  simp only [eSI, List.mem_singleton] at hb
  subst hb
  rfl
theorem rdRows_step (b : List UInt8) (wide : Nat) {i N : Nat} (h : i < N) (a : Int) : rdRows b wide (N - i) (some a) = ((rdRow b wide (some a)).1 :: (rdRows b wide (N - (i + 1)) (rdRow b wide (some a)).2).1, (rdRows b wide (N - (i + 1)) (rdRow b wide (some a)).2).2) := by
  obtain ⟨m, hm⟩ : ∃ m, N - i = m + 1 := ⟨N - i - 1, by omega⟩
  rw [hm, show N - (i + 1) = m by omega, rdRows]
theorem rdRow_step (b : List UInt8) {j wide : Nat} (h : j < wide) (s : Option Int) : rdRow b (wide - j) s = ((rdNum b s).1 :: (rdRow b (wide - (j + 1)) (rdNum b s).2).1, (rdRow b (wide - (j + 1)) (rdNum b s).2).2) := by
  obtain ⟨m, hm⟩ : ∃ m, wide - j = m + 1 := ⟨wide - j - 1, by omega⟩
  rw [hm, show wide - (j + 1) = m by omega, rdRow]
set_option maxRecDepth 100000 in
set_option maxHeartbeats 8000000 in
theorem rows_i (g : Nat) (A : Option Addr) (n c : Nat) (l : List UInt8) (B : Nat) (s : Option Int) (most wide : Nat) (w : World) (hR : Rdr w g A n c s) (hr : Rd w B 1 A n (l.flatMap eB)) (hB : B ≤ g) (hl : l.length = n) (hn : n ≤ 4611686018427387904) (hw5 : wide ≤ 5) (hm60 : most ≤ 60) :
    Calls Try.prog 63 #[.pointer (some ⟨g, 0, none⟩), .int .i64 most, .int .i64 wide] w fun e w' => ∃ v, e = .returned v ∧ O_Rows w' w.heap.size w'.heap.size v (rdAll l most wide s).1 ∧ Rdr w' g A n c (rdAll l most wide s).2 ∧ Fr g (g + 1) w w' := by
  have hg := hR.lt
  obtain ⟨i0, hi0, hz0, hz1, hz2⟩ := info_parts info_Int
  obtain ⟨j0, hj0, hy0, hy1, hy2⟩ := info_parts info_IntL
  have hA0 : Ext w (w.alloc (.cells #[] 84)) := (Ext.refl _).alloc _
  obtain ⟨rn, hrn⟩ : ∃ rn, rdNum l s = rn := ⟨_, rfl⟩
  have hrb := rdNum_bound l s
  rw [hrn] at hrb
  have hall : rdAll l most wide s = rdRows l wide rn.1.toNat (rdCap most rn) := by unfold rdAll; rw [hrn]
  have Hall := Lib.hid hall
  clear hall
  go_enter Try.func63, Try.ntmps63
  go_wp2_with fail
  refine (num_i g A n c l B s _ (hR.ext hA0) (by exact hA0.rd hr (by omega)) hB hl hn).mono ?_
  rw [hrn]
  rintro e w1 ⟨rfl, hR1, hF1⟩
  have hFr : Fr g (g + 1) w w1 := (Fr.ext hA0).trans hF1
  have hz1' : w.heap.size + 1 ≤ w1.heap.size := by have := hF1.size; simpa using this
  clear hF1 hA0 hR hrn
  obtain ⟨cnt, s1⟩ := rn
  dsimp only at hrb Hall hR1
  go_upto_region 3 with (fail)
  go_cut [] (fun wx => Rdr wx g A n c (rdCap most (cnt, s1)) ∧ Fr g (g + 1) w wx)
  case first =>
    obtain ⟨a, r, ha⟩ := hR1
    cases s1 with
    | none =>
      have r' : Blk w1 g 106 [.slice A n c, .int .i64 a, .bool false] := r
      clear r
      have r := r'
      clear r'
      obtain ⟨r_p0, r_f0⟩ := r.at 0 _ rfl
      obtain ⟨r_p1, r_f1⟩ := r.at 1 _ rfl
      obtain ⟨r_p2, r_f2⟩ := r.at 2 _ rfl
      go_wp2_with fail
      have r1 := r.set 2 (.bool false)
      have hF2 : Fr g (g + 1) w (w1.setCell ⟨g, 2, none⟩ (.bool false)) := hFr.trans (Fr.cell1 _)
      have hcap : rdCap most (cnt, none) = none := by unfold rdCap; split <;> rfl
      go_meet
      refine ⟨?_, hF2⟩
      rw [hcap]
      exact ⟨a, r1, fun x hx => nomatch hx⟩
    | some x =>
      have r' : Blk w1 g 106 [.slice A n c, .int .i64 a, .bool true] := r
      clear r
      have r := r'
      clear r'
      by_cases hle : cnt ≤ (most : Int)
      · have d1 : decide (cnt ≤ (most : Int)) = true := by simpa using hle
        obtain ⟨r_p0, r_f0⟩ := r.at 0 _ rfl
        obtain ⟨r_p1, r_f1⟩ := r.at 1 _ rfl
        obtain ⟨r_p2, r_f2⟩ := r.at 2 _ rfl
        go_wp2_with fail
        have r1 := r.set 2 (.bool true)
        have hF2 : Fr g (g + 1) w (w1.setCell ⟨g, 2, none⟩ (.bool true)) := hFr.trans (Fr.cell1 _)
        have hcap : rdCap most (cnt, some x) = some x := by unfold rdCap; rw [if_pos (by dsimp only; omega)]
        go_meet
        refine ⟨?_, hF2⟩
        rw [hcap]
        exact ⟨a, r1, ha⟩
      · have d1 : decide (cnt ≤ (most : Int)) = false := by simpa using hle
        obtain ⟨r_p0, r_f0⟩ := r.at 0 _ rfl
        obtain ⟨r_p1, r_f1⟩ := r.at 1 _ rfl
        obtain ⟨r_p2, r_f2⟩ := r.at 2 _ rfl
        go_wp2_with fail
        have r1 := r.set 2 (.bool false)
        have hF2 : Fr g (g + 1) w (w1.setCell ⟨g, 2, none⟩ (.bool false)) := hFr.trans (Fr.cell1 _)
        have hcap : rdCap most (cnt, some x) = none := by unfold rdCap; rw [if_neg (by dsimp only; omega)]
        go_meet
        refine ⟨?_, hF2⟩
        rw [hcap]
        exact ⟨a, r1, fun x hx => nomatch hx⟩
  clear hR1 hFr
  obtain ⟨hR2, hFr⟩ := hcut
  rename World => w2
  obtain ⟨N, hN⟩ : ∃ N : Nat, (N : Int) = cnt := ⟨cnt.toNat, by omega⟩
  subst hN
  have hNs : ∀ x, rdCap most ((N : Int), s1) = some x → N ≤ most := by
    intro x hx
    unfold rdCap at hx
    split at hx
    · rename_i h
      dsimp only at h
      omega
    · cases hx
  rw [show ((N : Int)).toNat = N by omega] at Hall
  generalize rdCap most ((N : Int), s1) = s2 at *
  clear s1
  have HNs := Lib.hid hNs
  clear hNs
  have hsz2 := hFr.size
  go_wp2
  go_loopw [7, 9] (fun ov iv wr => ∃ (i : Nat) (s3 : Option Int) (os : List SlI) (A' : Option Addr) (c' : Nat), i ≤ N ∧ iv = .int .i64 i ∧ ov = .slice A' i c' ∧ Hid (os.length = i) ∧ Hid (i = 0 ∨ N ≤ most) ∧ Hid (s3.isSome = true → s2.isSome = true) ∧ Own wr w.heap.size wr.heap.size 84 1 (.slice A' i c') i (os.flatMap eSI) ∧ Hid (∀ s ∈ os, s.Mine wr w.heap.size wr.heap.size) ∧ Rdr wr g A n c s3 ∧ Fr g (g + 1) w wr ∧ Hid (rdRows l wide N s2 = (os.map (·.l) ++ (rdRows l wide (N - i) s3).1, (rdRows l wide (N - i) s3).2))) (fun _ iv _ => N - (intOf iv).toNat)
  case atStart => exact ⟨0, s2, [], _, 0, by omega, rfl, rfl, rfl, .inl rfl, fun h => h, Own.nil _ _ _ _ _ _, by simp [Hid], hR2, hFr, by simp [Hid]⟩
  case round =>
    clear hR2 hFr
    obtain ⟨i, s3, os, A', c', hi, rfl, rfl, hol, hiN, hs3, hown, hos, hR3, hFr, hrow⟩ := hrel
    rename World => wo
    have hzr := hFr.size
    obtain ⟨a, r, ha⟩ := id hR3
    by_cases hlt : i < N
    · have hlt' : (i : Int) < (N : Int) := by omega
      cases s3 with
      | none =>
        have r' : Blk wo g 106 [.slice A n c, .int .i64 a, .bool false] := r
        clear r
        have r := r'
        clear r'
        obtain ⟨r_p0, r_f0⟩ := r.at 0 _ rfl
        obtain ⟨r_p1, r_f1⟩ := r.at 1 _ rfl
        obtain ⟨r_p2, r_f2⟩ := r.at 2 _ rfl
        go_wp2
        go_ret
        refine ⟨_, rfl, ?_, ?_, hFr⟩
        · rw [Hall.out, hrow.out, rdRows_none, List.append_nil]
          exact ⟨os, rfl, OwnS.of hown hol.out, hos.out⟩
        · rw [Hall.out, hrow.out, rdRows_none]
          exact hR3
      | some x =>
        obtain rfl : a = x := ha x rfl
        have hNm : N ≤ most := by
          have h2 := hs3.out rfl
          cases s2 with
          | none => cases h2
          | some y => exact HNs.out y rfl
        have r' : Blk wo g 106 [.slice A n c, .int .i64 a, .bool true] := r
        clear r ha
        have r := r'
        clear r'
        obtain ⟨r_p0, r_f0⟩ := r.at 0 _ rfl
        obtain ⟨r_p1, r_f1⟩ := r.at 1 _ rfl
        obtain ⟨r_p2, r_f2⟩ := r.at 2 _ rfl
        have hAr : Ext wo (wo.alloc (.cells #[] 3)) := (Ext.refl _).alloc _
        have hRr := hR3.ext hAr
        have hrr := (hr.fr hFr hB (by omega)).below hAr (by omega)
        go_wp2
        clear r_p0 r_f0 r_p1 r_f1 r_p2 r_f2
        go_loopw [10, 40] (fun rv jv wr => ∃ (j : Nat) (L : List Int) (A2 : Option Addr) (c2 : Nat) (s4 : Option Int), j ≤ wide ∧ jv = .int .i64 j ∧ rv = .slice A2 j c2 ∧ Hid (L.length = j) ∧ Own wr wo.heap.size wr.heap.size 3 1 (.slice A2 j c2) j (L.flatMap eI) ∧ Rdr wr g A n c s4 ∧ Rd wr B 1 A n (l.flatMap eB) ∧ Kp w.heap.size wo.heap.size wo wr ∧ Fr g (g + 1) wo wr ∧ Hid (rdRow l wide (some a) = (L ++ (rdRow l (wide - j) s4).1, (rdRow l (wide - j) s4).2))) (fun _ jv _ => wide - (intOf jv).toNat)
        case atStart => exact ⟨0, [], _, 0, some a, by omega, rfl, rfl, rfl, Own.nil _ _ _ _ _ _, hRr, hrr, (Kp.refl _ _ _).alloc (Nat.le_refl _) _, Fr.ext hAr, by simp [Hid]⟩
        case round =>
          clear hRr hrr hAr
          obtain ⟨j, L, A2, c2, s4, hj, rfl, rfl, hLl, ho4, hR4, hr4, hkp, hF4, hrw⟩ := hrel
          have hz4 := hF4.size
          by_cases hjt : j < wide
          · have hjt' : (j : Int) < (wide : Int) := by omega
            go_wp2_with fail
            refine (num_i g A n c l B s4 _ hR4 hr4 hB hl hn).mono ?_
            obtain ⟨rn, hrn⟩ : ∃ rn, rdNum l s4 = rn := ⟨_, rfl⟩
            have hrb2 := rdNum_bound l s4
            rw [hrn] at hrb2 ⊢
            obtain ⟨y, s5⟩ := rn
            rintro e w5 ⟨rfl, hR5, hF5⟩
            have hz5 := hF5.size
            have ho5 := (ho4.fr hF5 (.inr (by omega))).wide (Nat.le_refl _) hz5
            have hr5 := hr4.fr hF5 hB (by omega)
            have hkp5 : Kp w.heap.size wo.heap.size wo w5 := hkp.fr (by omega) (.inr (by omega)) hF5
            have hF5' := hF4.trans hF5
            have hrw5 : Hid (rdRow l wide (some a) = ((L ++ [y]) ++ (rdRow l (wide - (j + 1)) s5).1, (rdRow l (wide - (j + 1)) s5).2)) := by
              show _ = _
              rw [hrw.out, rdRow_step l hjt, hrn]
              simp
            clear hR4 hr4 hF5 hF4 hkp ho4 hrw hrn
            dsimp only at hR5 hrb2
            go_wp2_with (at_builtin; refine wpList_app _ rfl _ _ 84 rfl 3 i0 _ 1 8 Try.underlying84 hi0 hz0 hz1 hz2 rfl (by omega) wo.heap.size w5.heap.size (.slice A2 j c2) j (L.flatMap eI) rfl (((Ext.refl w5).alloc _).own ho5 (by omega)) (by simp; omega) (by simp) (w5.heap.size + 1) (some ⟨w5.heap.size, 0, none⟩) 1 1 (eI y) rfl (own_made w5 #[.int .i64 y] 1 3 1 (by unfold maxLen; omega) rfl).rd.2.2.2 (by simp [eI, Value.oneCell']) (by unfold maxLen; omega) (by omega) ?_)
            intro A3 c3 w6 o6 hg6
            have hA5 : Ext w5 (w5.alloc (.cells #[.int .i64 y] 3)) := (Ext.refl _).alloc _
            have hF6 : Fr _ _ _ w6 := Fr.of_grown hg6 (fun g h => ho5.lt g h)
            have hz6 := hF6.size
            simp only [World.size_alloc] at hz6
            have hR6 : Rdr w6 g A n c s5 := (hR5.ext hA5).fr hF6 (.inl (by omega))
            have hr6 : Rd w6 B 1 A n (l.flatMap eB) := (hA5.rd hr5 (by omega)).fr hF6 (by omega) (by simp; omega)
            have hkp6 : Kp w.heap.size wo.heap.size wo w6 := (hkp5.alloc (by omega) _).fr (by simp; omega) (.inl (Nat.le_refl _)) hF6
            have hF7 : Fr g (g + 1) wo w6 := (hF5'.thenExt hA5).thenFr hF6 (Nat.le_refl _)
            have hL6 : Hid ((L ++ [y]).length = j + 1) := by show _ = _; rw [List.length_append, hLl.out]; rfl
            replace o6 : Own w6 wo.heap.size w6.heap.size 3 1 (.slice A3 (j + 1) c3) (j + 1) ((L ++ [y]).flatMap eI) := by rw [List.flatMap_append, List.flatMap_cons, List.flatMap_nil, List.append_nil]; exact o6
            clear ho5 hg6 hF6 hA5 hR5 hr5 hkp5 hF5'
            go_wp2
            go_roundw
            case rel => exact ⟨j + 1, L ++ [y], A3, c3, s5, by omega, by go_num, rfl, hL6, o6, hR6, hr6, hkp6, hF7, hrw5⟩
            case measure => simp [intOf]; omega
          · obtain rfl : wide = j := by omega
            have hrw5 : Hid (rdRow l wide (some a) = (L, s4)) := by
              show _ = _
              rw [hrw.out, Nat.sub_self]
              show (L ++ [], s4) = _
              rw [List.append_nil]
            have hown4 : Own wr w.heap.size wo.heap.size 84 1 (.slice A' i c') i (os.flatMap eSI) := hown.keep hkp
            have hos4 : Hid (∀ s ∈ os, s.Mine wr w.heap.size wo.heap.size) := fun s hs => (hos.out s hs).keep hkp
            have hAq : Ext wr (wr.alloc (.cells #[.slice A2 wide c2] 84)) := (Ext.refl _).alloc _
            have hrd1 : Rd (wr.alloc (.cells #[.slice A2 wide c2] 84)) (wr.heap.size + 1) 1 (some ⟨wr.heap.size, 0, none⟩) 1 (eSI ⟨A2, wide, c2, L⟩) := (own_made wr #[.slice A2 wide c2] 1 84 1 (by unfold maxLen; omega) rfl).rd.2.2.2
            clear hown hos hkp hrw
            go_wp2_with (at_builtin; refine wpList_app _ rfl _ _ 108 rfl 84 j0 _ 1 24 Try.underlying108 hj0 hy0 hy1 hy2 rfl (by omega) w.heap.size wo.heap.size (.slice A' i c') i _ rfl (hAq.own hown4 (by omega)) (by simp; omega) (by simp; omega) (wr.heap.size + 1) (some ⟨wr.heap.size, 0, none⟩) 1 1 (eSI ⟨A2, wide, c2, L⟩) rfl hrd1 (oneCell_SI [⟨A2, wide, c2, L⟩]) (by unfold maxLen; omega) (by omega) ?_)
            intro A3 c3 w6 o6 hg6
            have hownA := hAq.own hown4 (by omega)
            have hF6 : Fr _ _ _ w6 := Fr.of_grown hg6 (fun g h => hown4.lt g h)
            have hz6 := hF6.size
            simp only [World.size_alloc] at hz6
            have hos6 : Hid (∀ s ∈ os ++ [(⟨A2, wide, c2, L⟩ : SlI)], s.Mine w6 w.heap.size w6.heap.size) := by
              intro s hs
              rcases List.mem_append.1 hs with hs | hs
              · exact (O_IntS.apartR ((hos4.out s hs).keep (keepE hAq (by omega))) hownA (by decide) hg6).wide (Nat.le_refl _) (by omega)
              · rw [List.mem_singleton.1 hs]
                exact (O_IntS.apartR (OwnS.keep (OwnS.of ho4 hLl.out) (keepE hAq (Nat.le_refl _))) hownA (by decide) hg6).wide (by omega) (by omega)
            have hR6 : Rdr w6 g A n c s4 := (hR4.ext hAq).fr hF6 (.inl hg)
            have hF7 : Fr g (g + 1) w w6 := ((hFr.trans hF4).thenExt hAq).thenFr hF6 (Nat.le_refl _)
            have hL6 : Hid ((os ++ [(⟨A2, wide, c2, L⟩ : SlI)]).length = i + 1) := by show _ = _; rw [List.length_append, hol.out]; rfl
            have hrow6 : Hid (rdRows l wide N s2 = ((os ++ [(⟨A2, wide, c2, L⟩ : SlI)]).map (·.l) ++ (rdRows l wide (N - (i + 1)) s4).1, (rdRows l wide (N - (i + 1)) s4).2)) := by
              show _ = _
              rw [hrow.out, rdRows_step l wide hlt a, hrw5.out]
              simp
            replace o6 : Own w6 w.heap.size w6.heap.size 84 1 (.slice A3 (i + 1) c3) (i + 1) ((os ++ [(⟨A2, wide, c2, L⟩ : SlI)]).flatMap eSI) := by rw [List.flatMap_append, List.flatMap_cons, List.flatMap_nil, List.append_nil]; exact o6
            have hs2' : Hid (s4.isSome = true → s2.isSome = true) := fun _ => hs3.out rfl
            clear hown4 hos4 hg6 hF6 hAq hR4 hr4 hF4 hownA hrd1 ho4 hrow hrw5 hFr hR3
            go_wp2
            go_roundw
            case rel => exact ⟨i + 1, s4, os ++ [⟨A2, wide, c2, L⟩], A3, c3, by omega, by go_num, rfl, hL6, .inr hNm, hs2', o6, hos6, hR6, hF7, hrow6⟩
            case measure => simp [intOf]; omega
    · obtain rfl : N = i := by omega
      have hx : (if h : s3.isSome then true else true) = true := by split <;> rfl
      have hd : decide ((N : Int) < (N : Int)) = false := by simp
      go_wp2
      go_ret
      refine ⟨_, rfl, ?_, ?_, hFr⟩
      · rw [Hall.out, hrow.out, Nat.sub_self]
        rw [show (rdRows l wide 0 s3) = ([], s3) by cases s3 <;> rfl, List.append_nil]
        exact ⟨os, rfl, OwnS.of hown hol.out, hos.out⟩
      · rw [Hall.out, hrow.out, Nat.sub_self, show (rdRows l wide 0 s3) = ([], s3) by cases s3 <;> rfl]
        exact hR3

end Go.Proofs.Ytbfbdhjeoknjkaa
