/-
  The plain law of entries that come twice and of commands: what is put is got, what is dropped is gone. No program in sight.
-/
import Derived.Test.YtacbcnobenffdaaRunE
namespace Go.Proofs.Ytacbcnobenffdaa
open Go.RowKit
set_option linter.unusedSectionVars false

theorem seatOf_put {m : ImageD} {C : List CellD} {s : SeatD} (hm : GoodI m) (hg : imageOk ⟨C, putK SeatD.client m.seats s⟩ = true) : seatOf ⟨C, putK SeatD.client m.seats s⟩ s.client = (s, true) := by
  rw [seatOf_ok hg]
  exact getS_some (putK_self hm.seats.asc.1 s)
theorem runEntry_code {m : ImageD} {e : EntryD} {M : ImageD} {a : Int} {c : Nat} (h : runEntry m e = (M, a, c)) : (c = 1 ∧ M = ⟨[], []⟩) ∨ (c = 2 ∧ M = m) ∨ (c = 3 ∧ M = m) ∨
    (c = 0 ∧ imageOk m = true ∧ entryOk e = true ∧ (e.client ∈ m.seats.map SeatD.client ∨ ¬ m.seats.length = 10) ∧ M = (runNew m e).1 ∧ a = (runNew m e).2) := by
  cases hk : imageOk m && entryOk e with
  | false =>
    rw [runE_bad hk] at h
    injection h with h1 h2
    injection h2 with h2 h3
    exact .inl ⟨h3.symm, h1.symm⟩
  | true =>
    have hk' := hk
    simp only [Bool.and_eq_true] at hk'
    cases hf : findK SeatD.client m.seats e.client with
    | some s =>
      have hmem : e.client ∈ m.seats.map SeatD.client := List.mem_map.2 ⟨s, findK_mem hf, findK_key hf⟩
      rcases Int.lt_trichotomy s.req e.req with h1 | h1 | h1
      · rw [runE_new hk hf h1] at h
        injection h with h1 h2
        injection h2 with h2 h3
        exact .inr (.inr (.inr ⟨h3.symm, hk'.1, hk'.2, .inl hmem, h1.symm, h2.symm⟩))
      · rw [runE_same hk hf h1] at h
        injection h with h1 h2
        injection h2 with h2 h3
        exact .inr (.inl ⟨h3.symm, h1.symm⟩)
      · rw [runE_old hk hf h1] at h
        injection h with h1 h2
        injection h2 with h2 h3
        exact .inr (.inl ⟨h3.symm, h1.symm⟩)
    | none =>
      by_cases hl : m.seats.length = 10
      · rw [runE_full hk hf hl] at h
        injection h with h1 h2
        injection h2 with h2 h3
        exact .inr (.inr (.inl ⟨h3.symm, h1.symm⟩))
      · rw [runE_first hk hf hl] at h
        injection h with h1 h2
        injection h2 with h2 h3
        exact .inr (.inr (.inr ⟨h3.symm, hk'.1, hk'.2, .inr hl, h1.symm, h2.symm⟩))
section
variable {m : ImageD} {e : EntryD} {M : ImageD} {a : Int} (hm : imageOk m = true) (he : entryOk e = true) (hn : e.client ∈ m.seats.map SeatD.client ∨ ¬ m.seats.length = 10) (hM : M = (runNew m e).1) (ha : a = (runNew m e).2)
include hm he hn hM ha
theorem once_good : GoodI M := by
  subst hM
  exact runNew_good (imageOk_iff.1 hm) he hn
theorem once_find : findK SeatD.client M.seats e.client = some ⟨e.client, e.req, a⟩ := by
  subst hM ha
  exact putK_self (imageOk_iff.1 hm).seats.asc.1 _
theorem once_twice : runEntry M e = (M, a, 2) := by
  have hk : (imageOk M && entryOk e) = true := by rw [imageOk_iff.2 (once_good hm he hn hM ha), he]; rfl
  exact runE_same hk (once_find hm he hn hM ha) rfl
theorem once_third (hq : ∀ s ∈ m.seats, s.req ≤ 100) (hc : e.client ≤ 3) : ∃ T z, ∃ d : Nat, runEntry M ⟨e.client + 1, 999, ⟨1, e.cmd.key, 0⟩⟩ = (T, z, d) ∧ seatOf T e.client = (⟨e.client, e.req, a⟩, true) ∧ (z = cellAt M e.cmd.key ∨ z = -1) := by
  obtain ⟨h1, h2, h3⟩ := entryOk_parts he
  have hg := once_good hm he hn hM ha
  have hf := once_find hm he hn hM ha
  have hk3 := (cmdOk_kinds h3).2.1
  have hk : (imageOk M && entryOk ⟨e.client + 1, 999, ⟨1, e.cmd.key, 0⟩⟩) = true := by
    rw [imageOk_iff.2 hg]
    simp only [entryOk, cmdOk, Bool.true_and, Bool.and_eq_true]
    refine ⟨(wholeB_iff _).2 ⟨by omega, by omega⟩, inB_iff.2 (by omega), ?_⟩
    rw [if_pos (by simp)]
    simp only [Bool.and_eq_true]
    exact ⟨(wholeB_iff _).2 hk3, rfl⟩
  have hnew : seatOf (runNew M ⟨e.client + 1, 999, ⟨1, e.cmd.key, 0⟩⟩).1 e.client = (⟨e.client, e.req, a⟩, true) ∨ ¬ ((e.client + 1) ∈ M.seats.map SeatD.client ∨ ¬ M.seats.length = 10) := by
    by_cases hx : (e.client + 1) ∈ M.seats.map SeatD.client ∨ ¬ M.seats.length = 10
    · refine .inl ?_
      have hk2 := hk
      simp only [Bool.and_eq_true] at hk2
      have hgn := runNew_good hg hk2.2 hx
      rw [seatOf_ok (imageOk_iff.2 hgn)]
      refine getS_some ?_
      show findK SeatD.client (putK SeatD.client M.seats _) e.client = _
      rw [putK_other (by show e.client ≠ e.client + 1; omega)]
      exact hf
    · exact .inr hx
  have hz : (runNew M ⟨e.client + 1, 999, ⟨1, e.cmd.key, 0⟩⟩).2 = cellAt M e.cmd.key := by
    rw [cellAt_ok (imageOk_iff.2 hg)]
    show (runC M ⟨1, e.cmd.key, 0⟩).2 = _
    rw [runC_get rfl]
  cases hfo : findK SeatD.client M.seats (e.client + 1) with
  | some s =>
    have hmem : (e.client + 1) ∈ M.seats.map SeatD.client := List.mem_map.2 ⟨s, findK_mem hfo, findK_key hfo⟩
    have hsr : s.req < 999 := by
      have h4 : findK SeatD.client M.seats (e.client + 1) = findK SeatD.client m.seats (e.client + 1) := by
        subst hM
        show findK SeatD.client (putK SeatD.client m.seats _) (e.client + 1) = _
        exact putK_other (by show e.client + 1 ≠ e.client; omega)
      rw [h4] at hfo
      have := hq s (findK_mem hfo)
      omega
    refine ⟨_, _, _, runE_new hk hfo hsr, ?_, .inl hz⟩
    rcases hnew with h | h
    · exact h
    · exact absurd (.inl hmem) h
  | none =>
    by_cases hl : M.seats.length = 10
    · refine ⟨_, _, _, runE_full hk hfo hl, ?_, .inr rfl⟩
      rw [seatOf_ok (imageOk_iff.2 hg)]
      exact getS_some hf
    · refine ⟨_, _, _, runE_first hk hfo hl, ?_, .inl hz⟩
      rcases hnew with h | h
      · exact h
      · exact absurd (.inr hl) h
end

/-! ### commands -/

section
variable {m : ImageD} {c : CmdD} {M : ImageD} {x : Int} (hm : imageOk m = true) (hc : cmdOk c = true) (h : runCmd m c = (M, x))
include hm hc h
theorem cmd_runC : runC m c = (M, x) := by rw [← h, runCmd_ok (by rw [hm, hc]; rfl)]
theorem cmd_good : GoodI M := by
  have hg := imageOk_iff.1 hm
  have h1 := cmd_runC hm hc h
  obtain ⟨g1, g2, g3, -⟩ := runC_good hg hc
  rw [h1] at g1 g2 g3
  dsimp only at g1 g2 g3
  exact ⟨g1, by rw [g3]; exact hg.seats, g2, by rw [g3]; exact hg.ns⟩
theorem cmd_seats : M.seats = m.seats := by
  have h1 := cmd_runC hm hc h
  obtain ⟨-, -, g3, -⟩ := runC_good (imageOk_iff.1 hm) hc
  rw [h1] at g3
  exact g3
/-- Other keys stay. -/
theorem cmd_other {k : Int} (hk : k ≠ c.key) : cellAt M k = cellAt m k := by
  have hg := imageOk_iff.1 hm
  rw [cellAt_ok (imageOk_iff.2 (cmd_good hm hc h)), cellAt_ok hm]
  have h1 := cmd_runC hm hc h
  by_cases hk1 : c.kind = 1
  · rw [runC_get hk1] at h1
    injection h1 with h1 h2; rw [← h1]
  by_cases h4 : c.kind = 4
  · rw [runC_drop h4] at h1
    injection h1 with h1 h2
    rw [← h1]
    unfold getC
    rw [dropK_other hk]
  obtain ⟨v, hv⟩ : ∃ v, (if c.kind = 3 then c.value + max (getC m.cells c.key) 0 else c.value) = v := ⟨_, rfl⟩
  by_cases hf : (getC m.cells c.key < 0 ∧ m.cells.length = 40) ∨ 1000000000 < v
  · rw [runC_full hk1 h4 hv hf] at h1
    injection h1 with h1 h2; rw [← h1]
  · rw [runC_put hk1 h4 hv hf] at h1
    injection h1 with h1 h2
    rw [← h1]
    unfold getC
    dsimp only
    rw [putK_other (by exact hk)]
theorem cmd_drop (hk : c.kind = 4) : cellAt M c.key = -1 ∧ x = cellAt m c.key := by
  rw [cellAt_ok (imageOk_iff.2 (cmd_good hm hc h)), cellAt_ok hm]
  have h1 := cmd_runC hm hc h
  rw [runC_drop hk] at h1
  injection h1 with h1 h2
  refine ⟨?_, h2.symm⟩
  rw [← h1]
  exact getC_none (dropK_self _)
theorem cmd_still (hk : x = -1 ∨ c.kind = 1) (h4 : ¬ c.kind = 4) : M = m := by
  have h1 := cmd_runC hm hc h
  by_cases hk1 : c.kind = 1
  · rw [runC_get hk1] at h1
    injection h1 with h1 h2
    exact h1.symm
  have hx : x = -1 := hk.resolve_right hk1
  obtain ⟨v, hv⟩ : ∃ v, (if c.kind = 3 then c.value + max (getC m.cells c.key) 0 else c.value) = v := ⟨_, rfl⟩
  by_cases hf : (getC m.cells c.key < 0 ∧ m.cells.length = 40) ∨ 1000000000 < v
  · rw [runC_full hk1 h4 hv hf] at h1
    injection h1 with h1 h2
    exact h1.symm
  · rw [runC_put hk1 h4 hv hf] at h1
    injection h1 with h1 h2
    obtain ⟨-, -, hv0⟩ := cmdOk_kinds hc
    have : 0 ≤ v := by rw [← hv]; split <;> omega
    omega
theorem cmd_put (hx : ¬ x = -1) (h1 : ¬ c.kind = 1) (h4 : ¬ c.kind = 4) : cellAt M c.key = x ∧ x = (if c.kind = 3 then c.value + max (cellAt m c.key) 0 else c.value) := by
  rw [cellAt_ok (imageOk_iff.2 (cmd_good hm hc h)), cellAt_ok hm]
  have h2 := cmd_runC hm hc h
  obtain ⟨v, hv⟩ : ∃ v, (if c.kind = 3 then c.value + max (getC m.cells c.key) 0 else c.value) = v := ⟨_, rfl⟩
  by_cases hf : (getC m.cells c.key < 0 ∧ m.cells.length = 40) ∨ 1000000000 < v
  · rw [runC_full h1 h4 hv hf] at h2
    injection h2 with h2 h3
    exact absurd h3.symm hx
  · rw [runC_put h1 h4 hv hf] at h2
    injection h2 with h2 h3
    rw [← h2, ← h3]
    refine ⟨getC_some (putK_self (imageOk_iff.1 hm).cells.asc.1 ⟨c.key, v⟩), hv.symm⟩
end
theorem cellAt_row {m : ImageD} (hm : imageOk m = true) {i : Nat} {x : CellD} (hx : m.cells[i]? = some x) : cellAt m x.key = x.value := by
  rw [cellAt_ok hm]
  exact getC_some (findK_at (imageOk_iff.1 hm).cells.asc.1 hx rfl)
theorem cellAt_range {m : ImageD} (hm : imageOk m = true) (k : Int) : -1 ≤ cellAt m k ∧ cellAt m k ≤ 1000000000 := by
  rw [cellAt_ok hm]
  exact getC_ge (imageOk_iff.1 hm).cells k
theorem runCmd_out {m : ImageD} {c : CmdD} (h : imageOk m = false ∨ cmdOk c = false) : runCmd m c = (⟨[], []⟩, 0) := runCmd_no (by rcases h with h | h <;> simp [h])

end Go.Proofs.Ytacbcnobenffdaa
