/-
  The machine: what RunCmd, RunEntry and RunAll compute, in plain words. No program in sight.
-/
import Derived.Test.YtbfbdhjeoknjkaaSeek
namespace Go.Proofs.Ytbfbdhjeoknjkaa

/-- A command that is right, run on an image that is right. -/
def runC (m : ImageD) (c : CmdD) : ImageD × Int :=
  if c.kind = 1 then (m, getC m.cells c.key)
  else if c.kind = 4 then (⟨dropK CellD.key m.cells c.key, m.seats⟩, getC m.cells c.key)
  else if (getC m.cells c.key < 0 ∧ m.cells.length = 40) ∨ 1000000000 < (if c.kind = 3 then c.value + max (getC m.cells c.key) 0 else c.value) then (m, -1)
  else (⟨putK CellD.key m.cells ⟨c.key, if c.kind = 3 then c.value + max (getC m.cells c.key) 0 else c.value⟩, m.seats⟩, if c.kind = 3 then c.value + max (getC m.cells c.key) 0 else c.value)
def runCmd (m : ImageD) (c : CmdD) : ImageD × Int := if imageOk m && cmdOk c then runC m c else (⟨[], []⟩, 0)
/-- An entry that is right and is no old one. -/
def runNew (m : ImageD) (e : EntryD) : ImageD × Int := (⟨(runC m e.cmd).1.cells, putK SeatD.client m.seats ⟨e.client, e.req, (runC m e.cmd).2⟩⟩, (runC m e.cmd).2)
def runEntry (m : ImageD) (e : EntryD) : ImageD × Int × Nat :=
  if imageOk m && entryOk e then
    match findK SeatD.client m.seats e.client with
    | some s => if s.req = e.req then (m, s.answer, 2) else if e.req < s.req then (m, -1, 2) else ((runNew m e).1, (runNew m e).2, 0)
    | none => if m.seats.length = 10 then (m, -1, 3) else ((runNew m e).1, (runNew m e).2, 0)
  else (⟨[], []⟩, 0, 1)

theorem runC_get {m : ImageD} {c : CmdD} (h : c.kind = 1) : runC m c = (m, getC m.cells c.key) := by simp [runC, h]
theorem runC_drop {m : ImageD} {c : CmdD} (h : c.kind = 4) : runC m c = (⟨dropK CellD.key m.cells c.key, m.seats⟩, getC m.cells c.key) := by simp [runC, h]
theorem runC_full {m : ImageD} {c : CmdD} {v : Int} (h1 : ¬ c.kind = 1) (h4 : ¬ c.kind = 4) (hv : (if c.kind = 3 then c.value + max (getC m.cells c.key) 0 else c.value) = v) (h : (getC m.cells c.key < 0 ∧ m.cells.length = 40) ∨ 1000000000 < v) : runC m c = (m, -1) := by
  unfold runC
  rw [if_neg h1, if_neg h4, hv, if_pos h]
theorem runC_put {m : ImageD} {c : CmdD} {v : Int} (h1 : ¬ c.kind = 1) (h4 : ¬ c.kind = 4) (hv : (if c.kind = 3 then c.value + max (getC m.cells c.key) 0 else c.value) = v) (h : ¬ ((getC m.cells c.key < 0 ∧ m.cells.length = 40) ∨ 1000000000 < v)) : runC m c = (⟨putK CellD.key m.cells ⟨c.key, v⟩, m.seats⟩, v) := by
  unfold runC
  rw [if_neg h1, if_neg h4, hv, if_neg h]
theorem runCmd_ok {m : ImageD} {c : CmdD} (h : (imageOk m && cmdOk c) = true) : runCmd m c = runC m c := if_pos h
theorem runCmd_no {m : ImageD} {c : CmdD} (h : (imageOk m && cmdOk c) = false) : runCmd m c = (⟨[], []⟩, 0) := by unfold runCmd; rw [h]; rfl
theorem getC_ge {l : List CellD} (h : GoodC l) (k : Int) : -1 ≤ getC l k ∧ getC l k ≤ 1000000000 := by
  unfold getC
  split
  · rename_i c hc
    have := h.val c (findK_mem hc)
    omega
  · omega
theorem getC_neg {l : List CellD} (h : GoodC l) (k : Int) : getC l k < 0 ↔ k ∉ l.map CellD.key := by
  have hs := findK_isSome (key := CellD.key) (l := l) (k := k)
  unfold getC
  split
  · rename_i c hc
    rw [hc] at hs
    have := h.val c (findK_mem hc)
    simp at hs
    constructor
    · omega
    · intro hn
      exact absurd (List.mem_map.2 (by obtain ⟨x, h1, h2⟩ := hs; exact ⟨x, h1, h2⟩)) hn
  · rename_i hc
    rw [hc] at hs
    simp at hs
    constructor
    · intro _ hm
      obtain ⟨x, h1, h2⟩ := List.mem_map.1 hm
      exact hs x h1 h2
    · omega
theorem cmdOk_kinds {c : CmdD} (h : cmdOk c = true) : (c.kind = 1 ∨ c.kind = 2 ∨ c.kind = 3 ∨ c.kind = 4) ∧ (0 ≤ c.key ∧ c.key ≤ 1000000000) ∧ 0 ≤ c.value ∧ c.value ≤ 1000000000 := by
  unfold cmdOk at h
  split at h
  · rename_i hk
    simp only [Bool.and_eq_true, beq_iff_eq] at h
    have := (wholeB_iff _).1 h.1
    omega
  · split at h
    · rename_i hk
      simp only [Bool.and_eq_true] at h
      have := (wholeB_iff _).1 h.1
      have := (wholeB_iff _).1 h.2
      omega
    · cases h

theorem runE_bad {m : ImageD} {e : EntryD} (h : (imageOk m && entryOk e) = false) : runEntry m e = (⟨[], []⟩, 0, 1) := by unfold runEntry; rw [h]; rfl
section
variable {m : ImageD} {e : EntryD} {s : SeatD} (h : (imageOk m && entryOk e) = true)
include h
theorem runE_same (hs : findK SeatD.client m.seats e.client = some s) (hr : s.req = e.req) : runEntry m e = (m, s.answer, 2) := by
  unfold runEntry; rw [if_pos h, hs]; simp only; rw [if_pos hr]
theorem runE_old (hs : findK SeatD.client m.seats e.client = some s) (hr : e.req < s.req) : runEntry m e = (m, -1, 2) := by
  unfold runEntry; rw [if_pos h, hs]; simp only; rw [if_neg (by omega), if_pos hr]
theorem runE_new (hs : findK SeatD.client m.seats e.client = some s) (hr : s.req < e.req) : runEntry m e = ((runNew m e).1, (runNew m e).2, 0) := by
  unfold runEntry; rw [if_pos h, hs]; simp only; rw [if_neg (by omega), if_neg (by omega)]
theorem runE_full (hs : findK SeatD.client m.seats e.client = none) (hr : m.seats.length = 10) : runEntry m e = (m, -1, 3) := by
  unfold runEntry; rw [if_pos h, hs]; simp only; rw [if_pos hr]
theorem runE_first (hs : findK SeatD.client m.seats e.client = none) (hr : ¬ m.seats.length = 10) : runEntry m e = ((runNew m e).1, (runNew m e).2, 0) := by
  unfold runEntry; rw [if_pos h, hs]; simp only; rw [if_neg hr]
end
theorem entryOk_parts {e : EntryD} (h : entryOk e = true) : (0 ≤ e.client ∧ e.client ≤ 1000000000) ∧ (1 ≤ e.req ∧ e.req ≤ 1000000000) ∧ cmdOk e.cmd = true := by
  unfold entryOk at h
  simp only [Bool.and_eq_true] at h
  exact ⟨(wholeB_iff _).1 h.1, inB_iff.1 h.2.1, h.2.2⟩

/-- 'RunAll', from an image and answers on. -/
def runGo (m : ImageD) (ans : List Int) : List EntryD → ImageD × List Int
  | [] => (m, ans)
  | e :: l => runGo (if (runEntry m e).2.2 = 1 then m else (runEntry m e).1) (ans ++ [(runEntry m e).2.1]) l
def runAll (m : ImageD) (l : List EntryD) : ImageD × List Int := if l.length ≤ 60 then runGo m [] l else (m, [])

/-! ### what stays right -/

theorem good_put {l : List CellD} (h : GoodC l) {c : CellD} (hk : 0 ≤ c.key ∧ c.key ≤ 1000000000) (hv : 0 ≤ c.value ∧ c.value ≤ 1000000000) : GoodC (putK CellD.key l c) := by
  refine ⟨⟨putK_asc h.asc.1 c, fun k hm => ?_⟩, fun x hx => ?_⟩
  · obtain ⟨x, hx, rfl⟩ := List.mem_map.1 hm
    rcases mem_putK hx with rfl | hx
    · exact hk
    · exact h.asc.2 _ (List.mem_map.2 ⟨x, hx, rfl⟩)
  · rcases mem_putK hx with rfl | hx
    · exact hv
    · exact h.val x hx
theorem good_drop {l : List CellD} (h : GoodC l) (k : Int) : GoodC (dropK CellD.key l k) := by
  refine ⟨⟨dropK_asc h.asc.1 k, fun k hm => ?_⟩, fun x hx => h.val x (mem_dropK hx)⟩
  obtain ⟨x, hx, rfl⟩ := List.mem_map.1 hm
  exact h.asc.2 _ (List.mem_map.2 ⟨x, mem_dropK hx, rfl⟩)
theorem good_seat {l : List SeatD} (h : GoodS l) {c : SeatD} (hk : 0 ≤ c.client ∧ c.client ≤ 1000000000) (hv : (1 ≤ c.req ∧ c.req ≤ 1000000000) ∧ -1 ≤ c.answer ∧ c.answer ≤ 1000000000) : GoodS (putK SeatD.client l c) := by
  refine ⟨⟨putK_asc h.asc.1 c, fun k hm => ?_⟩, fun x hx => ?_⟩
  · obtain ⟨x, hx, rfl⟩ := List.mem_map.1 hm
    rcases mem_putK hx with rfl | hx
    · exact hk
    · exact h.asc.2 _ (List.mem_map.2 ⟨x, hx, rfl⟩)
  · rcases mem_putK hx with rfl | hx
    · exact hv
    · exact h.val x hx
/-- What a right command leaves. -/
theorem runC_good {m : ImageD} {c : CmdD} (hm : GoodI m) (hc : cmdOk c = true) : GoodC (runC m c).1.cells ∧ (runC m c).1.cells.length ≤ 40 ∧ (runC m c).1.seats = m.seats ∧ -1 ≤ (runC m c).2 ∧ (runC m c).2 ≤ 1000000000 := by
  obtain ⟨hk, hkey, hv⟩ := cmdOk_kinds hc
  have hg := getC_ge hm.cells c.key
  by_cases h1 : c.kind = 1
  · rw [runC_get h1]
    exact ⟨hm.cells, hm.nc, rfl, hg⟩
  by_cases h4 : c.kind = 4
  · rw [runC_drop h4]
    exact ⟨good_drop hm.cells _, Nat.le_trans (dropK_length_le _ _) hm.nc, rfl, hg⟩
  obtain ⟨v, hv'⟩ : ∃ v, (if c.kind = 3 then c.value + max (getC m.cells c.key) 0 else c.value) = v := ⟨_, rfl⟩
  have hv0 : 0 ≤ v := by
    rw [← hv']
    split <;> omega
  by_cases hf : (getC m.cells c.key < 0 ∧ m.cells.length = 40) ∨ 1000000000 < v
  · rw [runC_full h1 h4 hv' hf]
    refine ⟨hm.cells, hm.nc, rfl, ?_, ?_⟩ <;> dsimp only <;> omega
  · rw [runC_put h1 h4 hv' hf]
    refine ⟨good_put hm.cells hkey (by dsimp only; omega), ?_, rfl, ?_, ?_⟩
    · dsimp only
      rw [putK_length_le _ _ hm.cells.asc.1]
      have hn := getC_neg hm.cells c.key
      have := hm.nc
      split
      · omega
      · rename_i hnm
        have := hn.2 hnm
        omega
    · dsimp only; omega
    · dsimp only; omega
theorem runNew_good {m : ImageD} {e : EntryD} (hm : GoodI m) (he : entryOk e = true) (hn : e.client ∈ m.seats.map SeatD.client ∨ ¬ m.seats.length = 10) : GoodI (runNew m e).1 := by
  obtain ⟨h1, h2, h3⟩ := entryOk_parts he
  obtain ⟨g1, g2, g3, g4⟩ := runC_good hm h3
  refine ⟨g1, good_seat hm.seats h1 ⟨h2, g4⟩, g2, ?_⟩
  show (putK SeatD.client m.seats _).length ≤ 10
  rw [putK_length_le _ _ hm.seats.asc.1]
  have := hm.ns
  split
  · omega
  · rename_i h
    rcases hn with hn | hn
    · exact absurd hn h
    · omega

end Go.Proofs.Ytbfbdhjeoknjkaa
