/-
  Nets copied, and a flight more: copyNet, l5Copy, isFlight, added.
-/
import Derived.Test.YtllljddojncemaaNetOk
import Derived.Test.YtllljddojncemaaCopy
import Derived.Test.YtllljddojncemaaApp0
import Derived.Test.YtllljddojncemaaBox
namespace Go.Proofs.Ytllljddojncemaa
open Go.RowKit

set_option maxRecDepth 100000 in
set_option maxHeartbeats 4000000 in
theorem copyNet_i (v : Value) (n : NetD) (w : World) (B : Nat) (hr : R_Net w B v n) (hB : B ≤ w.heap.size) (hsz : n.list.length ≤ 1073741824) :
    Calls Try.prog 53 #[v] w fun e w' => ∃ v', e = .returned v' ∧ O_Net w' w.heap.size w'.heap.size v' n ∧ Ext w w' := by
  have hr0 := hr
  obtain ⟨u, rfl, A, m, c, rfl, hl, hmc, hcm, hrd⟩ := hr
  have hu : R_FlightS w B (.slice A m c) n.list := RdS.of hrd hl hmc hcm
  have Hl := Lib.hid hl
  clear hl hrd
  have hX0 : Ext w ((w.alloc (.cells #[.int .i64 n.next, .slice A m c] 29)).alloc (.cells #[.int .i64 0, .slice none 0 0] 29)) := by repeat' (first | with_reducible exact Ext.refl _ | with_reducible assumption | with_reducible refine Ext.set ?_ ?_ _ _ | with_reducible refine Ext.alloc ?_ _ | with_reducible refine Ext.drew ?_ | with_reducible refine Ext.drewN ?_ _ | with_reducible refine Ext.trans ?_ (by with_reducible assumption) | omega | (simp; done) | (simp; omega))
  have x00 : Bx ((w.alloc (.cells #[.int .i64 n.next, .slice A m c] 29)).alloc (.cells #[.int .i64 0, .slice none 0 0] 29)) w.heap.size 0 (.int .i64 n.next) := ((Bx.new w #[.int .i64 n.next, .slice A m c] 29 0 (.int .i64 n.next) (by simp) rfl).alloc (.cells #[.int .i64 0, .slice none 0 0] 29))
  have x01 : Bx ((w.alloc (.cells #[.int .i64 n.next, .slice A m c] 29)).alloc (.cells #[.int .i64 0, .slice none 0 0] 29)) w.heap.size 1 (.slice A m c) := ((Bx.new w #[.int .i64 n.next, .slice A m c] 29 1 (.slice A m c) (by simp) rfl).alloc (.cells #[.int .i64 0, .slice none 0 0] 29))
  have x10 : Bx ((w.alloc (.cells #[.int .i64 n.next, .slice A m c] 29)).alloc (.cells #[.int .i64 0, .slice none 0 0] 29)) (w.heap.size + 1) 0 (.int .i64 0) := (Bx.new (w.alloc (.cells #[.int .i64 n.next, .slice A m c] 29)) #[.int .i64 0, .slice none 0 0] 29 0 (.int .i64 0) (by simp) rfl)
  have x11 : Bx ((w.alloc (.cells #[.int .i64 n.next, .slice A m c] 29)).alloc (.cells #[.int .i64 0, .slice none 0 0] 29)) (w.heap.size + 1) 1 (.slice none 0 0) := (Bx.new (w.alloc (.cells #[.int .i64 n.next, .slice A m c] 29)) #[.int .i64 0, .slice none 0 0] 29 1 (.slice none 0 0) (by simp) rfl)
  have zz0 : w.heap.size + 2 ≤ ((w.alloc (.cells #[.int .i64 n.next, .slice A m c] 29)).alloc (.cells #[.int .i64 0, .slice none 0 0] 29)).heap.size := by simp
  go_enter Try.func53, Try.ntmps53
  go_wp2_with fail
  generalize ((w.alloc (.cells #[.int .i64 n.next, .slice A m c] 29)).alloc (.cells #[.int .i64 0, .slice none 0 0] 29)) = W0 at *
  obtain ⟨p00, f00⟩ := id x00
  obtain ⟨p01, f01⟩ := id x01
  obtain ⟨p10, f10⟩ := id x10
  obtain ⟨p11, f11⟩ := id x11
  refine wp_region_held_drew (S := (fun w' => w'.cell? ⟨w.heap.size, 0, none⟩ = some (.int .i64 n.next) ∧ w'.cell? ⟨w.heap.size, 1, none⟩ = some (.slice A m c))) (by kernel_rfl) ⟨p00, p01⟩ (fun hHeld => ?_)
  refine wpAnyH_take (i := 0) (v := ?_) rfl (by kernel_rfl) (by kernel_rfl) (by kernel_rfl) (fun _ _ _ h => h) (Or.inl ⟨by rfl, ?_⟩) (by assumption) ?_
  rotate_left
  · (intro w hSw; (try dsimp only at hSw); go_simp; (try with_reducible rfl))
  try simp only [Act.put, List.getElem_toArray, List.getElem_cons_zero, List.getElem_cons_succ, List.setIfInBounds_toArray, List.set_cons_zero, List.set_cons_succ]
  refine wpAnyH_take (i := 1) (v := ?_) rfl (by kernel_rfl) (by kernel_rfl) (by kernel_rfl) (fun _ _ _ h => h) (Or.inl ⟨by rfl, ?_⟩) (by assumption) ?_
  rotate_left
  · (intro w hSw; (try dsimp only at hSw); go_simp; (try with_reducible rfl))
  try simp only [Act.put, List.getElem_toArray, List.getElem_cons_zero, List.getElem_cons_succ, List.setIfInBounds_toArray, List.set_cons_zero, List.set_cons_succ]
  refine wpAnyH_take (i := 2) (v := ?_) rfl (by kernel_rfl) (by kernel_rfl) (by kernel_rfl) (fun _ _ _ h => h) (Or.inl ⟨by rfl, ?_⟩) (by assumption) ?_
  rotate_left
  · (intro w hSw; (try dsimp only at hSw); go_simp; (try with_reducible rfl))
  try simp only [Act.put, List.getElem_toArray, List.getElem_cons_zero, List.getElem_cons_succ, List.setIfInBounds_toArray, List.set_cons_zero, List.set_cons_succ]
  refine wpAnyH_take (i := 3) (v := ?_) rfl (by kernel_rfl) (by kernel_rfl) (by kernel_rfl) (fun _ _ _ h => h) (Or.inl ⟨by rfl, ?_⟩) (by assumption) ?_
  rotate_left
  · (intro w hSw; (try dsimp only at hSw); go_simp; (try with_reducible rfl))
  try simp only [Act.put, List.getElem_toArray, List.getElem_cons_zero, List.getElem_cons_succ, List.setIfInBounds_toArray, List.set_cons_zero, List.set_cons_succ]
  refine wpAnyH_ready (rs := [4]) (by kernel_rfl) (by simp) ?_
  refine AllReadyH.cons rfl (fun K hK => ?_) AllReadyH.nil
  go_simp
  go_at_call 65
  refine (cloneFlight_any _ _ _ B (by exact hu.keep (keepE' (by exact hX0.drew) hB)) (by first | omega | (simp; omega)) hsz).mono ?_
  rintro e w5 ⟨v5, rfl, o5, hE5⟩
  obtain ⟨A5, n5, c5, hv5, -⟩ := id o5
  subst hv5
  have hk5 : Ext W0 w5 := ((Ext.refl _).drew).trans hE5
  clear p00 f00 p01 f01 p10 f10 p11 f11
  replace x00 := Bx.ext x00 hk5
  replace x01 := Bx.ext x01 hk5
  replace x10 := Bx.ext x10 hk5
  replace x11 := Bx.ext x11 hk5
  obtain ⟨p00, f00⟩ := id x00
  obtain ⟨p01, f01⟩ := id x01
  obtain ⟨p10, f10⟩ := id x10
  obtain ⟨p11, f11⟩ := id x11
  (try dsimp only)
  refine hK.out _ _ ⟨p00, p01⟩ (fun hHeld => ?_)
  clear hK K
  try simp only [Act.put, List.getElem_toArray, List.getElem_cons_zero, List.getElem_cons_succ, List.setIfInBounds_toArray, List.set_cons_zero, List.set_cons_succ]
  refine wpAnyH_take (i := 5) (v := ?_) rfl (by kernel_rfl) (by kernel_rfl) (by kernel_rfl) (fun _ _ _ h => h) (Or.inl ⟨by rfl, ?_⟩) (by assumption) ?_
  rotate_left
  · (intro w hSw; (try dsimp only at hSw); go_simp; (try with_reducible rfl))
  try simp only [Act.put, List.getElem_toArray, List.getElem_cons_zero, List.getElem_cons_succ, List.setIfInBounds_toArray, List.set_cons_zero, List.set_cons_succ]
  refine wpAnyH_ready (rs := [6]) (by kernel_rfl) (by simp) ?_
  refine AllReadyH.cons rfl (fun K hK => ?_) AllReadyH.nil
  go_simp
  (try dsimp only)
  refine hK.out _ _ ⟨by (repeat rw [cell_set_ne _ _ _ _ _ _ (by omega)]); exact p00, by (repeat rw [cell_set_ne _ _ _ _ _ _ (by omega)]); exact p01⟩ (fun hHeld => ?_)
  clear hK K
  try simp only [Act.put, List.getElem_toArray, List.getElem_cons_zero, List.getElem_cons_succ, List.setIfInBounds_toArray, List.set_cons_zero, List.set_cons_succ]
  refine wpAnyH_done (by kernel_rfl) ?_ _
  have hX5 := hX0.trans hk5
  have z5 := hk5.size
  go_wp2
  exact bodyPost_ret (v := .agg #[.int .i64 n.next, .slice A5 n5 c5]) (by simp [results, Try.results53, go_sem, p10, p11]) rfl ⟨_, rfl, ⟨_, rfl, (O_FlightS.keep o5 (show Kp _ _ _ _ by repeat' (first | with_reducible exact Kp.refl _ _ _ | with_reducible assumption | with_reducible refine Kp.set ?_ ?_ _ _ | with_reducible refine Kp.alloc ?_ ?_ _ | with_reducible refine Kp.drew ?_ | with_reducible refine Kp.drewN ?_ _ | with_reducible refine Kp.ext ?_ ?_ (by with_reducible assumption) | with_reducible refine Kp.fr ?_ ?_ ?_ (by with_reducible assumption) | omega | (simp; done) | (simp; omega)))).wide (by first | omega | (simp; omega)) (by simp)⟩, by repeat' (first | with_reducible exact Ext.refl _ | with_reducible assumption | with_reducible refine Ext.set ?_ ?_ _ _ | with_reducible refine Ext.alloc ?_ _ | with_reducible refine Ext.drew ?_ | with_reducible refine Ext.drewN ?_ _ | with_reducible refine Ext.trans ?_ (by with_reducible assumption) | omega | (simp; done) | (simp; omega))⟩

set_option maxRecDepth 100000 in
set_option maxHeartbeats 4000000 in
theorem l5Copy_s (v : Value) (n : NetD) (w : World) (B : Nat) (hr : R_Net w B v n) (hB : B ≤ w.heap.size) (hsz : n.list.length ≤ 1073741824) :
    Calls Try.prog 50 #[v] w fun e w' => ∃ v', e = .returned v' ∧ O_Net w' w.heap.size w'.heap.size v' n ∧ Ext w w' := by
  have hr0 := hr
  obtain ⟨u, rfl, A, m, c, rfl, hl, hmc, hcm, hrd⟩ := hr
  have hu : R_FlightS w B (.slice A m c) n.list := RdS.of hrd hl hmc hcm
  have Hl := Lib.hid hl
  obtain ⟨i0, hi0, hz0, hz1, hz2⟩ := info_parts info_Flight
  have hm1 : m ≤ maxLen := by unfold maxLen; omega
  have hm3 : m * 32 ≤ 140737488355328 := by omega
  have hpos : 0 < 3 := by omega
  clear hl
  have hX0 : Ext w ((w.alloc (.cells #[.int .i64 n.next, .slice A m c] 29)).alloc (.cells #[.int .i64 0, .slice none 0 0] 29)) := by repeat' (first | with_reducible exact Ext.refl _ | with_reducible assumption | with_reducible refine Ext.set ?_ ?_ _ _ | with_reducible refine Ext.alloc ?_ _ | with_reducible refine Ext.drew ?_ | with_reducible refine Ext.drewN ?_ _ | with_reducible refine Ext.trans ?_ (by with_reducible assumption) | omega | (simp; done) | (simp; omega))
  have x00 : Bx ((w.alloc (.cells #[.int .i64 n.next, .slice A m c] 29)).alloc (.cells #[.int .i64 0, .slice none 0 0] 29)) w.heap.size 0 (.int .i64 n.next) := ((Bx.new w #[.int .i64 n.next, .slice A m c] 29 0 (.int .i64 n.next) (by simp) rfl).alloc (.cells #[.int .i64 0, .slice none 0 0] 29))
  have x01 : Bx ((w.alloc (.cells #[.int .i64 n.next, .slice A m c] 29)).alloc (.cells #[.int .i64 0, .slice none 0 0] 29)) w.heap.size 1 (.slice A m c) := ((Bx.new w #[.int .i64 n.next, .slice A m c] 29 1 (.slice A m c) (by simp) rfl).alloc (.cells #[.int .i64 0, .slice none 0 0] 29))
  have x10 : Bx ((w.alloc (.cells #[.int .i64 n.next, .slice A m c] 29)).alloc (.cells #[.int .i64 0, .slice none 0 0] 29)) (w.heap.size + 1) 0 (.int .i64 0) := (Bx.new (w.alloc (.cells #[.int .i64 n.next, .slice A m c] 29)) #[.int .i64 0, .slice none 0 0] 29 0 (.int .i64 0) (by simp) rfl)
  have x11 : Bx ((w.alloc (.cells #[.int .i64 n.next, .slice A m c] 29)).alloc (.cells #[.int .i64 0, .slice none 0 0] 29)) (w.heap.size + 1) 1 (.slice none 0 0) := (Bx.new (w.alloc (.cells #[.int .i64 n.next, .slice A m c] 29)) #[.int .i64 0, .slice none 0 0] 29 1 (.slice none 0 0) (by simp) rfl)
  have zz0 : w.heap.size + 2 ≤ ((w.alloc (.cells #[.int .i64 n.next, .slice A m c] 29)).alloc (.cells #[.int .i64 0, .slice none 0 0] 29)).heap.size := by simp
  go_enter Try.func50, Try.ntmps50
  go_wp2_with fail
  generalize ((w.alloc (.cells #[.int .i64 n.next, .slice A m c] 29)).alloc (.cells #[.int .i64 0, .slice none 0 0] 29)) = W0 at *
  obtain ⟨p00, f00⟩ := id x00
  obtain ⟨p01, f01⟩ := id x01
  obtain ⟨p10, f10⟩ := id x10
  obtain ⟨p11, f11⟩ := id x11
  refine wp_region_held_drew (S := (fun w' => w'.cell? ⟨w.heap.size, 0, none⟩ = some (.int .i64 n.next) ∧ w'.cell? ⟨w.heap.size, 1, none⟩ = some (.slice A m c))) (by kernel_rfl) ⟨p00, p01⟩ (fun hHeld => ?_)
  refine wpAnyH_take (i := 0) (v := ?_) rfl (by kernel_rfl) (by kernel_rfl) (by kernel_rfl) (fun _ _ _ h => h) (Or.inl ⟨by rfl, ?_⟩) (by assumption) ?_
  rotate_left
  · (intro w hSw; (try dsimp only at hSw); go_simp; (try with_reducible rfl))
  try simp only [Act.put, List.getElem_toArray, List.getElem_cons_zero, List.getElem_cons_succ, List.setIfInBounds_toArray, List.set_cons_zero, List.set_cons_succ]
  refine wpAnyH_take (i := 1) (v := ?_) rfl (by kernel_rfl) (by kernel_rfl) (by kernel_rfl) (fun _ _ _ h => h) (Or.inl ⟨by rfl, ?_⟩) (by assumption) ?_
  rotate_left
  · (intro w hSw; (try dsimp only at hSw); go_simp; (try with_reducible rfl))
  try simp only [Act.put, List.getElem_toArray, List.getElem_cons_zero, List.getElem_cons_succ, List.setIfInBounds_toArray, List.set_cons_zero, List.set_cons_succ]
  refine wpAnyH_take (i := 3) (v := ?_) rfl (by kernel_rfl) (by kernel_rfl) (by kernel_rfl) (fun _ _ _ h => h) (Or.inl ⟨by rfl, ?_⟩) (by assumption) ?_
  rotate_left
  · (intro w hSw; (try dsimp only at hSw); go_simp; (try with_reducible rfl))
  try simp only [Act.put, List.getElem_toArray, List.getElem_cons_zero, List.getElem_cons_succ, List.setIfInBounds_toArray, List.set_cons_zero, List.set_cons_succ]
  refine wpAnyH_take (i := 4) (v := ?_) rfl (by kernel_rfl) (by kernel_rfl) (by kernel_rfl) (fun _ _ _ h => h) (Or.inl ⟨by rfl, ?_⟩) (by assumption) ?_
  rotate_left
  · (intro w hSw; (try dsimp only at hSw); go_simp; (try with_reducible rfl))
  try simp only [Act.put, List.getElem_toArray, List.getElem_cons_zero, List.getElem_cons_succ, List.setIfInBounds_toArray, List.set_cons_zero, List.set_cons_succ]
  refine wpAnyH_ready (rs := [2]) (by kernel_rfl) (by simp) ?_
  refine AllReadyH.cons rfl (fun K hK => ?_) AllReadyH.nil
  go_simp
  (try dsimp only)
  refine hK.out _ _ ⟨Ext.cellAt ((Ext.refl _).alloc _) p00, Ext.cellAt ((Ext.refl _).alloc _) p01⟩ (fun hHeld => ?_)
  clear hK K
  try simp only [Act.put, List.getElem_toArray, List.getElem_cons_zero, List.getElem_cons_succ, List.setIfInBounds_toArray, List.set_cons_zero, List.set_cons_succ]
  refine wpAnyH_ready (rs := [5]) (by kernel_rfl) (by simp) ?_
  refine AllReadyH.cons rfl (fun K hK => ?_) AllReadyH.nil
  have hrr := Ext.rd ((hX0.drew).alloc (Obj.cells #[] 43)) hrd hB
  refine step_app0 (d := .tmp 5) (s := .tmp 7) ?_ ?_ 43 i0 (.agg #[.int .i64 0, .int .i64 0, .string ByteArray.empty]) 3 32 Try.underlying27 hi0 hz0 hz1 hz2 rfl hpos ?_ B A m c (n.list.flatMap eFlight) ?_ hrr (oneCell_Flight _) hm1 hm3 ?_
  rfl
  rfl
  (focus (simp [Act.eval, emptyB]; done))
  (focus (simp [Act.eval]; done))
  intro A5 c5 w5 o5 hE5
  have hk5 : Ext W0 w5 := (((Ext.refl _).drew).alloc _).trans hE5
  clear p00 f00 p01 f01 p10 f10 p11 f11
  replace x00 := Bx.ext x00 hk5
  replace x01 := Bx.ext x01 hk5
  replace x10 := Bx.ext x10 hk5
  replace x11 := Bx.ext x11 hk5
  obtain ⟨p00, f00⟩ := id x00
  obtain ⟨p01, f01⟩ := id x01
  obtain ⟨p10, f10⟩ := id x10
  obtain ⟨p11, f11⟩ := id x11
  (try dsimp only)
  refine hK.out _ _ ⟨p00, p01⟩ (fun hHeld => ?_)
  clear hK K
  try simp only [Act.put, List.getElem_toArray, List.getElem_cons_zero, List.getElem_cons_succ, List.setIfInBounds_toArray, List.set_cons_zero, List.set_cons_succ]
  refine wpAnyH_take (i := 6) (v := ?_) rfl (by kernel_rfl) (by kernel_rfl) (by kernel_rfl) (fun _ _ _ h => h) (Or.inl ⟨by rfl, ?_⟩) (by assumption) ?_
  rotate_left
  · (intro w hSw; (try dsimp only at hSw); go_simp; (try with_reducible rfl))
  try simp only [Act.put, List.getElem_toArray, List.getElem_cons_zero, List.getElem_cons_succ, List.setIfInBounds_toArray, List.set_cons_zero, List.set_cons_succ]
  refine wpAnyH_ready (rs := [7]) (by kernel_rfl) (by simp) ?_
  refine AllReadyH.cons rfl (fun K hK => ?_) AllReadyH.nil
  go_simp
  (try dsimp only)
  refine hK.out _ _ ⟨by (repeat rw [cell_set_ne _ _ _ _ _ _ (by omega)]); exact p00, by (repeat rw [cell_set_ne _ _ _ _ _ _ (by omega)]); exact p01⟩ (fun hHeld => ?_)
  clear hK K
  try simp only [Act.put, List.getElem_toArray, List.getElem_cons_zero, List.getElem_cons_succ, List.setIfInBounds_toArray, List.set_cons_zero, List.set_cons_succ]
  refine wpAnyH_done (by kernel_rfl) ?_ _
  have hX5 := hX0.trans hk5
  have z5 := hk5.size
  have k5 : O_FlightS w5 _ _ (.slice A5 m c5) n.list := OwnS.of o5 Hl.out
  go_wp2
  exact bodyPost_ret (v := .agg #[.int .i64 n.next, .slice A5 m c5]) (by simp [results, Try.results50, go_sem, p10, p11]) rfl ⟨_, rfl, ⟨_, rfl, (O_FlightS.keep k5 (show Kp _ _ _ _ by repeat' (first | with_reducible exact Kp.refl _ _ _ | with_reducible assumption | with_reducible refine Kp.set ?_ ?_ _ _ | with_reducible refine Kp.alloc ?_ ?_ _ | with_reducible refine Kp.drew ?_ | with_reducible refine Kp.drewN ?_ _ | with_reducible refine Kp.ext ?_ ?_ (by with_reducible assumption) | with_reducible refine Kp.fr ?_ ?_ ?_ (by with_reducible assumption) | omega | (simp; done) | (simp; omega)))).wide (by first | omega | (simp; omega)) (by simp)⟩, by repeat' (first | with_reducible exact Ext.refl _ | with_reducible assumption | with_reducible refine Ext.set ?_ ?_ _ _ | with_reducible refine Ext.alloc ?_ _ | with_reducible refine Ext.drew ?_ | with_reducible refine Ext.drewN ?_ _ | with_reducible refine Ext.trans ?_ (by with_reducible assumption) | omega | (simp; done) | (simp; omega))⟩

end Go.Proofs.Ytllljddojncemaa
