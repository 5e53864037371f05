/-
  LogUpto, LogPut, walked.
-/
import Derived.Test.YtocmcfilldfdlaaLogNum
import Derived.Test.YtocmcfilldfdlaaLogCopy
import Derived.Test.YtocmcfilldfdlaaBT
import Derived.Deep.DeepCutAuto
namespace Go.Proofs.Ytocmcfilldfdlaa
open Go.RowKit

def zeroL : LogD := ⟨0, ⟨[], []⟩, []⟩
def logUpto (l : LogD) (n : Int) : LogD × Bool := if hasNum l n then (⟨l.base, l.image, l.entries.take (n - l.base).toNat⟩, true) else (zeroL, false)
def logPut (l : LogD) (e : EntryD) : LogD × Bool :=
  if logOk l then (if entryOk e = false ∨ l.entries.length = 60 ∨ l.base + l.entries.length = 1000000000 then (l, false) else (⟨l.base, l.image, l.entries ++ [e]⟩, true)) else (zeroL, false)
theorem logUpto_no {l : LogD} {n : Int} (h : hasNum l n = false) : logUpto l n = (zeroL, false) := by simp [logUpto, h]
theorem logUpto_in {l : LogD} {k : Nat} (h : hasNum l (l.base + k) = true) : logUpto l (l.base + k) = (⟨l.base, l.image, l.entries.take k⟩, true) := by
  unfold logUpto
  rw [if_pos h, show (l.base + (k : Int) - l.base).toNat = k by omega]
theorem logPut_no {l : LogD} {e : EntryD} (h : logOk l = false) : logPut l e = (zeroL, false) := by simp [logPut, h]
theorem logPut_full {l : LogD} {e : EntryD} (h : logOk l = true) (hf : entryOk e = false ∨ l.entries.length = 60 ∨ l.base + l.entries.length = 1000000000) : logPut l e = (l, false) := by
  unfold logPut
  rw [if_pos h, if_pos hf]
theorem logPut_in {l : LogD} {e : EntryD} (h : logOk l = true) (hf : ¬ (entryOk e = false ∨ l.entries.length = 60 ∨ l.base + l.entries.length = 1000000000)) : logPut l e = (⟨l.base, l.image, l.entries ++ [e]⟩, true) := by
  unfold logPut
  rw [if_pos h, if_neg hf]
theorem szL_ok {l : LogD} (h : logOk l = true) : szL l ≤ 200 := by
  have hg := logOk_iff.1 h
  have hm := hg.many
  have hi := hg.image
  unfold imageOk at hi
  simp only [Bool.and_eq_true, decide_eq_true_eq] at hi
  unfold szL szI
  omega
theorem NK_ok {l : LogD} (h : szL l ≤ 200) : NK_Log l ≤ 1000 := by
  unfold szL szI at h
  unfold NK_Log NK_Image NK_CellS NK_SeatS NK_EntryS
  omega
theorem logUpto_nk (l : LogD) (n : Int) : NK_Log (logUpto l n).1 ≤ 4194304 := by
  cases h : hasNum l n with
  | false => rw [logUpto_no h]; simp [zeroL, NK_Log, NK_Image, NK_CellS, NK_SeatS, NK_EntryS]
  | true =>
    obtain ⟨hg, k, rfl, hk⟩ := hasNum_parts h
    rw [logUpto_in h]
    refine Nat.le_trans (NK_ok (l := ⟨l.base, l.image, l.entries.take k⟩) ?_) (by omega)
    have := szL_ok (logOk_iff.2 hg)
    unfold szL at *
    simp only [List.length_take]
    omega
theorem logPut_nk (l : LogD) (e : EntryD) : NK_Log (logPut l e).1 ≤ 4194304 := by
  cases h : logOk l with
  | false => rw [logPut_no h]; simp [zeroL, NK_Log, NK_Image, NK_CellS, NK_SeatS, NK_EntryS]
  | true =>
    have h0 := szL_ok h
    have h1 := NK_ok h0
    by_cases hf : entryOk e = false ∨ l.entries.length = 60 ∨ l.base + l.entries.length = 1000000000
    · rw [logPut_full h hf]
      dsimp only
      omega
    · rw [logPut_in h hf]
      unfold NK_Log NK_EntryS at *
      simp only [List.length_append, List.length_singleton]
      omega

set_option maxRecDepth 100000 in
set_option maxHeartbeats 8000000 in
theorem logUpto_i (v : Value) (l : LogD) (n : Int) (w : World) (B : Nat) (hr : R_Log w B v l) (hB : B ≤ w.heap.size) (hn : -9223372036854775808 ≤ n ∧ n ≤ 9223372036854775807) :
    Calls Try.prog 31 #[v, .int .i64 n] w fun e w' => ∃ v', e = .returned (.tuple #[v', .bool (logUpto l n).2]) ∧ O_Log w' w.heap.size w'.heap.size v' (logUpto l n).1 ∧ Ext w w' := by
  have hr0 := hr
  obtain ⟨u, s, t, rfl, hu, hs, ht⟩ := hr
  obtain ⟨A0, n0, c0, hv0, -⟩ := id hu
  obtain ⟨A1, n1, c1, hv1, -⟩ := id hs
  obtain ⟨A2, n2, c2, hv2, hl2, hnc2, hcm2, hrd⟩ := ht
  subst hv0 hv1 hv2
  have Hl2 := Lib.hid hl2
  clear hl2 hu hs
  have hX0 : Ext w ((w.alloc (.cells #[.int .i64 l.base, .slice A0 n0 c0, .slice A1 n1 c1, .slice A2 n2 c2] 37)).alloc (.cells #[.int .i64 0, .slice none 0 0, .slice none 0 0, .slice none 0 0] 37)) := by repeat' (first | with_reducible exact Ext.refl _ | with_reducible assumption | with_reducible refine Ext.set ?_ ?_ _ _ | with_reducible refine Ext.alloc ?_ _ | with_reducible refine Ext.drew ?_ | with_reducible refine Ext.drewN ?_ _ | with_reducible refine Ext.trans ?_ (by with_reducible assumption) | omega | (simp; done) | (simp; omega))
  have x00 : Bx ((w.alloc (.cells #[.int .i64 l.base, .slice A0 n0 c0, .slice A1 n1 c1, .slice A2 n2 c2] 37)).alloc (.cells #[.int .i64 0, .slice none 0 0, .slice none 0 0, .slice none 0 0] 37)) w.heap.size 0 (.int .i64 l.base) := ((Bx.new w #[.int .i64 l.base, .slice A0 n0 c0, .slice A1 n1 c1, .slice A2 n2 c2] 37 0 (.int .i64 l.base) rfl rfl).alloc _)
  have x01 : Bx ((w.alloc (.cells #[.int .i64 l.base, .slice A0 n0 c0, .slice A1 n1 c1, .slice A2 n2 c2] 37)).alloc (.cells #[.int .i64 0, .slice none 0 0, .slice none 0 0, .slice none 0 0] 37)) w.heap.size 1 (.slice A0 n0 c0) := ((Bx.new w #[.int .i64 l.base, .slice A0 n0 c0, .slice A1 n1 c1, .slice A2 n2 c2] 37 1 (.slice A0 n0 c0) rfl rfl).alloc _)
  have x02 : Bx ((w.alloc (.cells #[.int .i64 l.base, .slice A0 n0 c0, .slice A1 n1 c1, .slice A2 n2 c2] 37)).alloc (.cells #[.int .i64 0, .slice none 0 0, .slice none 0 0, .slice none 0 0] 37)) w.heap.size 2 (.slice A1 n1 c1) := ((Bx.new w #[.int .i64 l.base, .slice A0 n0 c0, .slice A1 n1 c1, .slice A2 n2 c2] 37 2 (.slice A1 n1 c1) rfl rfl).alloc _)
  have x03 : Bx ((w.alloc (.cells #[.int .i64 l.base, .slice A0 n0 c0, .slice A1 n1 c1, .slice A2 n2 c2] 37)).alloc (.cells #[.int .i64 0, .slice none 0 0, .slice none 0 0, .slice none 0 0] 37)) w.heap.size 3 (.slice A2 n2 c2) := ((Bx.new w #[.int .i64 l.base, .slice A0 n0 c0, .slice A1 n1 c1, .slice A2 n2 c2] 37 3 (.slice A2 n2 c2) rfl rfl).alloc _)
  have y0 : Bx ((w.alloc (.cells #[.int .i64 l.base, .slice A0 n0 c0, .slice A1 n1 c1, .slice A2 n2 c2] 37)).alloc (.cells #[.int .i64 0, .slice none 0 0, .slice none 0 0, .slice none 0 0] 37)) (w.heap.size + 1) 0 (.int .i64 0) := Bx.new (w.alloc (.cells #[.int .i64 l.base, .slice A0 n0 c0, .slice A1 n1 c1, .slice A2 n2 c2] 37)) #[.int .i64 0, .slice none 0 0, .slice none 0 0, .slice none 0 0] 37 0 (.int .i64 0) (by simp) rfl
  have y1 : Bx ((w.alloc (.cells #[.int .i64 l.base, .slice A0 n0 c0, .slice A1 n1 c1, .slice A2 n2 c2] 37)).alloc (.cells #[.int .i64 0, .slice none 0 0, .slice none 0 0, .slice none 0 0] 37)) (w.heap.size + 1) 1 (.slice none 0 0) := Bx.new (w.alloc (.cells #[.int .i64 l.base, .slice A0 n0 c0, .slice A1 n1 c1, .slice A2 n2 c2] 37)) #[.int .i64 0, .slice none 0 0, .slice none 0 0, .slice none 0 0] 37 1 (.slice none 0 0) (by simp) rfl
  have y2 : Bx ((w.alloc (.cells #[.int .i64 l.base, .slice A0 n0 c0, .slice A1 n1 c1, .slice A2 n2 c2] 37)).alloc (.cells #[.int .i64 0, .slice none 0 0, .slice none 0 0, .slice none 0 0] 37)) (w.heap.size + 1) 2 (.slice none 0 0) := Bx.new (w.alloc (.cells #[.int .i64 l.base, .slice A0 n0 c0, .slice A1 n1 c1, .slice A2 n2 c2] 37)) #[.int .i64 0, .slice none 0 0, .slice none 0 0, .slice none 0 0] 37 2 (.slice none 0 0) (by simp) rfl
  have y3 : Bx ((w.alloc (.cells #[.int .i64 l.base, .slice A0 n0 c0, .slice A1 n1 c1, .slice A2 n2 c2] 37)).alloc (.cells #[.int .i64 0, .slice none 0 0, .slice none 0 0, .slice none 0 0] 37)) (w.heap.size + 1) 3 (.slice none 0 0) := Bx.new (w.alloc (.cells #[.int .i64 l.base, .slice A0 n0 c0, .slice A1 n1 c1, .slice A2 n2 c2] 37)) #[.int .i64 0, .slice none 0 0, .slice none 0 0, .slice none 0 0] 37 3 (.slice none 0 0) (by simp) rfl
  have zz0 : ((w.alloc (.cells #[.int .i64 l.base, .slice A0 n0 c0, .slice A1 n1 c1, .slice A2 n2 c2] 37)).alloc (.cells #[.int .i64 0, .slice none 0 0, .slice none 0 0, .slice none 0 0] 37)).heap.size = w.heap.size + 2 := by simp
  obtain ⟨ok, hok⟩ : ∃ ok, hasNum l n = ok := ⟨_, rfl⟩
  have Hok := Lib.hid hok
  clear hok
  go_enter Try.func31, Try.ntmps31
  go_wp2_with fail
  generalize ((w.alloc (.cells #[.int .i64 l.base, .slice A0 n0 c0, .slice A1 n1 c1, .slice A2 n2 c2] 37)).alloc (.cells #[.int .i64 0, .slice none 0 0, .slice none 0 0, .slice none 0 0] 37)) = W0 at *
  refine (hasNumber_i _ l n _ B (by exact hr0.keep (keepE' hX0 hB)) (by omega)).mono ?_
  rw [Hok.out]
  rintro e w1 ⟨rfl, hE1⟩
  have hz1 := hE1.size
  have hX1 : Ext w w1 := hX0.trans hE1
  replace x00 := Bx.ext x00 hE1
  replace x01 := Bx.ext x01 hE1
  replace x02 := Bx.ext x02 hE1
  replace x03 := Bx.ext x03 hE1
  replace y0 := Bx.ext y0 hE1
  replace y1 := Bx.ext y1 hE1
  replace y2 := Bx.ext y2 hE1
  replace y3 := Bx.ext y3 hE1
  obtain ⟨p00, f00⟩ := id x00
  obtain ⟨p01, f01⟩ := id x01
  obtain ⟨p02, f02⟩ := id x02
  obtain ⟨p03, f03⟩ := id x03
  obtain ⟨r0, g0⟩ := id y0
  obtain ⟨r1, g1⟩ := id y1
  obtain ⟨r2, g2⟩ := id y2
  obtain ⟨r3, g3⟩ := id y3
  cases ok with
  | false =>
    have hf := Lib.hid (logUpto_no Hok.out)
    go_wp2
    rw [hf.out]
    exact bodyPost_ret (v := .tuple #[.agg #[.int .i64 0, .slice none 0 0, .slice none 0 0, .slice none 0 0], .bool false]) (by simp [results, Try.results31, go_sem, r0, r1, r2, r3]) rfl ⟨_, rfl, ⟨_, _, _, rfl, OwnS.nil _, OwnS.nil _, OwnS.nil _⟩, by repeat' (first | with_reducible exact Ext.refl _ | with_reducible assumption | with_reducible refine Ext.set ?_ ?_ _ _ | with_reducible refine Ext.alloc ?_ _ | with_reducible refine Ext.drew ?_ | with_reducible refine Ext.drewN ?_ _ | with_reducible refine Ext.trans ?_ (by with_reducible assumption) | omega | (simp; done) | (simp; omega))⟩
  | true =>
    obtain ⟨hg, k, hk, hkl⟩ := hasNum_parts Hok.out
    have h1 := hg.base
    have h2 := hg.many
    have h3 := hg.last
    have hsz : szL l ≤ 2097152 := Nat.le_trans (szL_ok (logOk_iff.2 hg)) (by omega)
    rw [Hl2.out] at h2 h3 hkl
    clear hg
    subst hk
    have hf := Lib.hid (logUpto_in Hok.out)
    have hke : l.base + (k : Int) - l.base = k := by omega
    clear hE1
    go_wp2_with fail
    refine (copyLog_i _ l _ B (by exact hr0.keep (keepE' (by repeat' (first | with_reducible exact Ext.refl _ | with_reducible assumption | with_reducible refine Ext.set ?_ ?_ _ _ | with_reducible refine Ext.alloc ?_ _ | with_reducible refine Ext.drew ?_ | with_reducible refine Ext.drewN ?_ _ | with_reducible refine Ext.trans ?_ (by with_reducible assumption) | omega | (simp; done) | (simp; omega))) hB)) (by first | omega | (simp; omega)) hsz).mono ?_
    rintro e w2 ⟨v2, rfl, o2, hE2⟩
    have hz2 := hE2.size
    clear p00 f00 p01 f01 p02 f02 p03 f03 r0 g0 r1 g1 r2 g2 r3 g3
    replace x00 := Bx.ext x00 hE2
    replace x01 := Bx.ext x01 hE2
    replace x02 := Bx.ext x02 hE2
    replace x03 := Bx.ext x03 hE2
    replace y0 := Bx.ext y0 hE2
    replace y1 := Bx.ext y1 hE2
    replace y2 := Bx.ext y2 hE2
    replace y3 := Bx.ext y3 hE2
    have hX2 : Ext w w2 := hX1.trans hE2
    obtain ⟨u3, s3, t3, hv2, k1, k2, k3⟩ := o2
    obtain ⟨A3, n3, c3, hv3, -⟩ := id k1
    obtain ⟨A4, n4, c4, hv4, -⟩ := id k2
    obtain ⟨A5, n5, c5, hv5, hl5, ow3⟩ := k3
    subst hv3 hv4 hv5 hv2
    have hn5 : n2 = n5 := by rw [← Hl2.out]; exact hl5
    subst hn5
    have k3 : O_EntryS w2 _ _ (.slice A5 n2 c5) l.entries := OwnS.of ow3 hl5
    clear hl5
    have hlt0 := Bx.lt x00
    have hlty := Bx.lt y0
    have hzW := hX0.size
    obtain ⟨p00, f00⟩ := id x00
    obtain ⟨p01, f01⟩ := id x01
    obtain ⟨p02, f02⟩ := id x02
    obtain ⟨p03, f03⟩ := id x03
    obtain ⟨r0, g0⟩ := id y0
    obtain ⟨r1, g1⟩ := id y1
    obtain ⟨r2, g2⟩ := id y2
    obtain ⟨r3, g3⟩ := id y3
    have hkc : n2 ≤ c5 := by
      obtain ⟨A, n, c, hv, hl, ho⟩ := k3
      injection hv with q1 q2 q3
      subst q1 q2 q3
      exact ho.rd.2.1
    have k4 : O_EntryS w2 w1.heap.size w2.heap.size (.slice A5 k c5) (l.entries.take k) := by
      obtain ⟨A, n, c, hv, hl, ho⟩ := k3
      injection hv with q1 q2 q3
      subst q1 q2 q3
      obtain ⟨A', c', hv', ho'⟩ := ho.take hkl
      injection hv' with q1 q2 q3
      subst q1 q3
      rw [flat_take eEntry_len] at ho'
      exact OwnS.of ho' (by rw [List.length_take, hl]; omega)
    clear k3
    go_wp2
    rw [hf.out]
    exact bodyPost_ret (v := .tuple #[.agg #[.int .i64 l.base, .slice A3 n3 c3, .slice A4 n4 c4, .slice A5 k c5], .bool true]) (by simp [results, Try.results31, go_sem, r0, r1, r2, r3, hlty]) rfl ⟨_, rfl, ⟨_, _, _, rfl, (O_CellS.keep k1 (show Kp _ _ _ _ by repeat' (first | with_reducible exact Kp.refl _ _ _ | with_reducible assumption | with_reducible refine Kp.set ?_ ?_ _ _ | with_reducible refine Kp.alloc ?_ ?_ _ | with_reducible refine Kp.drew ?_ | with_reducible refine Kp.drewN ?_ _ | with_reducible refine Kp.ext ?_ ?_ (by with_reducible assumption) | with_reducible refine Kp.fr ?_ ?_ ?_ (by with_reducible assumption) | omega | (simp; done) | (simp; omega)))).wide (by omega) (by first | (simp; done) | (simp; omega)), (O_SeatS.keep k2 (show Kp _ _ _ _ by repeat' (first | with_reducible exact Kp.refl _ _ _ | with_reducible assumption | with_reducible refine Kp.set ?_ ?_ _ _ | with_reducible refine Kp.alloc ?_ ?_ _ | with_reducible refine Kp.drew ?_ | with_reducible refine Kp.drewN ?_ _ | with_reducible refine Kp.ext ?_ ?_ (by with_reducible assumption) | with_reducible refine Kp.fr ?_ ?_ ?_ (by with_reducible assumption) | omega | (simp; done) | (simp; omega)))).wide (by omega) (by first | (simp; done) | (simp; omega)), (O_EntryS.keep k4 (show Kp _ _ _ _ by repeat' (first | with_reducible exact Kp.refl _ _ _ | with_reducible assumption | with_reducible refine Kp.set ?_ ?_ _ _ | with_reducible refine Kp.alloc ?_ ?_ _ | with_reducible refine Kp.drew ?_ | with_reducible refine Kp.drewN ?_ _ | with_reducible refine Kp.ext ?_ ?_ (by with_reducible assumption) | with_reducible refine Kp.fr ?_ ?_ ?_ (by with_reducible assumption) | omega | (simp; done) | (simp; omega)))).wide (by omega) (by first | (simp; done) | (simp; omega))⟩, by repeat' (first | with_reducible exact Ext.refl _ | with_reducible assumption | with_reducible refine Ext.set ?_ ?_ _ _ | with_reducible refine Ext.alloc ?_ _ | with_reducible refine Ext.drew ?_ | with_reducible refine Ext.drewN ?_ _ | with_reducible refine Ext.trans ?_ (by with_reducible assumption) | omega | (simp; done) | (simp; omega))⟩

set_option maxRecDepth 100000 in
set_option maxHeartbeats 8000000 in
theorem logUpto_s (v : Value) (l : LogD) (n : Int) (w : World) (B : Nat) (hr : R_Log w B v l) (hB : B ≤ w.heap.size) (hn : -9223372036854775808 ≤ n ∧ n ≤ 9223372036854775807) :
    Calls Try.prog 32 #[v, .int .i64 n] w fun e w' => ∃ v', e = .returned (.tuple #[v', .bool (logUpto l n).2]) ∧ O_Log w' w.heap.size w'.heap.size v' (logUpto l n).1 ∧ Ext w w' := by
  have hr0 := hr
  obtain ⟨u, s, t, rfl, hu, hs, ht⟩ := hr
  obtain ⟨A0, n0, c0, hv0, -⟩ := id hu
  obtain ⟨A1, n1, c1, hv1, -⟩ := id hs
  obtain ⟨A2, n2, c2, hv2, hl2, hnc2, hcm2, hrd⟩ := ht
  subst hv0 hv1 hv2
  have Hl2 := Lib.hid hl2
  clear hl2 hu hs
  obtain ⟨i0, hi0, hz0, hz1e, hz2e⟩ := info_parts info_Entry
  have hX0 : Ext w ((w.alloc (.cells #[.int .i64 l.base, .slice A0 n0 c0, .slice A1 n1 c1, .slice A2 n2 c2] 37)).alloc (.cells #[.int .i64 0, .slice none 0 0, .slice none 0 0, .slice none 0 0] 37)) := by repeat' (first | with_reducible exact Ext.refl _ | with_reducible assumption | with_reducible refine Ext.set ?_ ?_ _ _ | with_reducible refine Ext.alloc ?_ _ | with_reducible refine Ext.drew ?_ | with_reducible refine Ext.drewN ?_ _ | with_reducible refine Ext.trans ?_ (by with_reducible assumption) | omega | (simp; done) | (simp; omega))
  have x00 : Bx ((w.alloc (.cells #[.int .i64 l.base, .slice A0 n0 c0, .slice A1 n1 c1, .slice A2 n2 c2] 37)).alloc (.cells #[.int .i64 0, .slice none 0 0, .slice none 0 0, .slice none 0 0] 37)) w.heap.size 0 (.int .i64 l.base) := ((Bx.new w #[.int .i64 l.base, .slice A0 n0 c0, .slice A1 n1 c1, .slice A2 n2 c2] 37 0 (.int .i64 l.base) rfl rfl).alloc _)
  have x01 : Bx ((w.alloc (.cells #[.int .i64 l.base, .slice A0 n0 c0, .slice A1 n1 c1, .slice A2 n2 c2] 37)).alloc (.cells #[.int .i64 0, .slice none 0 0, .slice none 0 0, .slice none 0 0] 37)) w.heap.size 1 (.slice A0 n0 c0) := ((Bx.new w #[.int .i64 l.base, .slice A0 n0 c0, .slice A1 n1 c1, .slice A2 n2 c2] 37 1 (.slice A0 n0 c0) rfl rfl).alloc _)
  have x02 : Bx ((w.alloc (.cells #[.int .i64 l.base, .slice A0 n0 c0, .slice A1 n1 c1, .slice A2 n2 c2] 37)).alloc (.cells #[.int .i64 0, .slice none 0 0, .slice none 0 0, .slice none 0 0] 37)) w.heap.size 2 (.slice A1 n1 c1) := ((Bx.new w #[.int .i64 l.base, .slice A0 n0 c0, .slice A1 n1 c1, .slice A2 n2 c2] 37 2 (.slice A1 n1 c1) rfl rfl).alloc _)
  have x03 : Bx ((w.alloc (.cells #[.int .i64 l.base, .slice A0 n0 c0, .slice A1 n1 c1, .slice A2 n2 c2] 37)).alloc (.cells #[.int .i64 0, .slice none 0 0, .slice none 0 0, .slice none 0 0] 37)) w.heap.size 3 (.slice A2 n2 c2) := ((Bx.new w #[.int .i64 l.base, .slice A0 n0 c0, .slice A1 n1 c1, .slice A2 n2 c2] 37 3 (.slice A2 n2 c2) rfl rfl).alloc _)
  have y0 : Bx ((w.alloc (.cells #[.int .i64 l.base, .slice A0 n0 c0, .slice A1 n1 c1, .slice A2 n2 c2] 37)).alloc (.cells #[.int .i64 0, .slice none 0 0, .slice none 0 0, .slice none 0 0] 37)) (w.heap.size + 1) 0 (.int .i64 0) := Bx.new (w.alloc (.cells #[.int .i64 l.base, .slice A0 n0 c0, .slice A1 n1 c1, .slice A2 n2 c2] 37)) #[.int .i64 0, .slice none 0 0, .slice none 0 0, .slice none 0 0] 37 0 (.int .i64 0) (by simp) rfl
  have y1 : Bx ((w.alloc (.cells #[.int .i64 l.base, .slice A0 n0 c0, .slice A1 n1 c1, .slice A2 n2 c2] 37)).alloc (.cells #[.int .i64 0, .slice none 0 0, .slice none 0 0, .slice none 0 0] 37)) (w.heap.size + 1) 1 (.slice none 0 0) := Bx.new (w.alloc (.cells #[.int .i64 l.base, .slice A0 n0 c0, .slice A1 n1 c1, .slice A2 n2 c2] 37)) #[.int .i64 0, .slice none 0 0, .slice none 0 0, .slice none 0 0] 37 1 (.slice none 0 0) (by simp) rfl
  have y2 : Bx ((w.alloc (.cells #[.int .i64 l.base, .slice A0 n0 c0, .slice A1 n1 c1, .slice A2 n2 c2] 37)).alloc (.cells #[.int .i64 0, .slice none 0 0, .slice none 0 0, .slice none 0 0] 37)) (w.heap.size + 1) 2 (.slice none 0 0) := Bx.new (w.alloc (.cells #[.int .i64 l.base, .slice A0 n0 c0, .slice A1 n1 c1, .slice A2 n2 c2] 37)) #[.int .i64 0, .slice none 0 0, .slice none 0 0, .slice none 0 0] 37 2 (.slice none 0 0) (by simp) rfl
  have y3 : Bx ((w.alloc (.cells #[.int .i64 l.base, .slice A0 n0 c0, .slice A1 n1 c1, .slice A2 n2 c2] 37)).alloc (.cells #[.int .i64 0, .slice none 0 0, .slice none 0 0, .slice none 0 0] 37)) (w.heap.size + 1) 3 (.slice none 0 0) := Bx.new (w.alloc (.cells #[.int .i64 l.base, .slice A0 n0 c0, .slice A1 n1 c1, .slice A2 n2 c2] 37)) #[.int .i64 0, .slice none 0 0, .slice none 0 0, .slice none 0 0] 37 3 (.slice none 0 0) (by simp) rfl
  have zz0 : ((w.alloc (.cells #[.int .i64 l.base, .slice A0 n0 c0, .slice A1 n1 c1, .slice A2 n2 c2] 37)).alloc (.cells #[.int .i64 0, .slice none 0 0, .slice none 0 0, .slice none 0 0] 37)).heap.size = w.heap.size + 2 := by simp
  obtain ⟨ok, hok⟩ : ∃ ok, hasNum l n = ok := ⟨_, rfl⟩
  have Hok := Lib.hid hok
  clear hok
  go_enter Try.func32, Try.ntmps32
  go_wp2_with fail
  generalize ((w.alloc (.cells #[.int .i64 l.base, .slice A0 n0 c0, .slice A1 n1 c1, .slice A2 n2 c2] 37)).alloc (.cells #[.int .i64 0, .slice none 0 0, .slice none 0 0, .slice none 0 0] 37)) = W0 at *
  refine (hasNumber_s _ l n _ B (by exact hr0.keep (keepE' hX0 hB)) (by omega)).mono ?_
  rw [Hok.out]
  rintro e w1 ⟨rfl, hE1⟩
  have hz1 := hE1.size
  have hX1 : Ext w w1 := hX0.trans hE1
  replace x00 := Bx.ext x00 hE1
  replace x01 := Bx.ext x01 hE1
  replace x02 := Bx.ext x02 hE1
  replace x03 := Bx.ext x03 hE1
  replace y0 := Bx.ext y0 hE1
  replace y1 := Bx.ext y1 hE1
  replace y2 := Bx.ext y2 hE1
  replace y3 := Bx.ext y3 hE1
  obtain ⟨p00, f00⟩ := id x00
  obtain ⟨p01, f01⟩ := id x01
  obtain ⟨p02, f02⟩ := id x02
  obtain ⟨p03, f03⟩ := id x03
  obtain ⟨r0, g0⟩ := id y0
  obtain ⟨r1, g1⟩ := id y1
  obtain ⟨r2, g2⟩ := id y2
  obtain ⟨r3, g3⟩ := id y3
  cases ok with
  | false =>
    have hf := Lib.hid (logUpto_no Hok.out)
    go_wp2
    rw [hf.out]
    exact bodyPost_ret (v := .tuple #[.agg #[.int .i64 0, .slice none 0 0, .slice none 0 0, .slice none 0 0], .bool false]) (by simp [results, Try.results32, go_sem, r0, r1, r2, r3]) rfl ⟨_, rfl, ⟨_, _, _, rfl, OwnS.nil _, OwnS.nil _, OwnS.nil _⟩, by repeat' (first | with_reducible exact Ext.refl _ | with_reducible assumption | with_reducible refine Ext.set ?_ ?_ _ _ | with_reducible refine Ext.alloc ?_ _ | with_reducible refine Ext.drew ?_ | with_reducible refine Ext.drewN ?_ _ | with_reducible refine Ext.trans ?_ (by with_reducible assumption) | omega | (simp; done) | (simp; omega))⟩
  | true =>
    obtain ⟨hg, k, hk, hkl⟩ := hasNum_parts Hok.out
    have h1 := hg.base
    have h2 := hg.many
    have h3 := hg.last
    have hsz : szL l ≤ 2097152 := Nat.le_trans (szL_ok (logOk_iff.2 hg)) (by omega)
    rw [Hl2.out] at h2 h3 hkl
    clear hg
    subst hk
    have hf := Lib.hid (logUpto_in Hok.out)
    have hke : l.base + (k : Int) - l.base = k := by omega
    clear hE1
    go_wp2_with fail
    refine (copyLog_s _ l _ B (by exact hr0.keep (keepE' (by repeat' (first | with_reducible exact Ext.refl _ | with_reducible assumption | with_reducible refine Ext.set ?_ ?_ _ _ | with_reducible refine Ext.alloc ?_ _ | with_reducible refine Ext.drew ?_ | with_reducible refine Ext.drewN ?_ _ | with_reducible refine Ext.trans ?_ (by with_reducible assumption) | omega | (simp; done) | (simp; omega))) hB)) (by first | omega | (simp; omega)) hsz).mono ?_
    rintro e w2 ⟨v2, rfl, o2, hE2⟩
    have hz2 := hE2.size
    clear p00 f00 p01 f01 p02 f02 p03 f03 r0 g0 r1 g1 r2 g2 r3 g3
    replace x00 := Bx.ext x00 hE2
    replace x01 := Bx.ext x01 hE2
    replace x02 := Bx.ext x02 hE2
    replace x03 := Bx.ext x03 hE2
    replace y0 := Bx.ext y0 hE2
    replace y1 := Bx.ext y1 hE2
    replace y2 := Bx.ext y2 hE2
    replace y3 := Bx.ext y3 hE2
    have hX2 : Ext w w2 := hX1.trans hE2
    obtain ⟨u3, s3, t3, hv2, k1, k2, k3⟩ := o2
    obtain ⟨A3, n3, c3, hv3, -⟩ := id k1
    obtain ⟨A4, n4, c4, hv4, -⟩ := id k2
    obtain ⟨A5, n5, c5, hv5, hl5, ow3⟩ := k3
    subst hv3 hv4 hv5 hv2
    have hn5 : n2 = n5 := by rw [← Hl2.out]; exact hl5
    subst hn5
    have k3 : O_EntryS w2 _ _ (.slice A5 n2 c5) l.entries := OwnS.of ow3 hl5
    clear hl5
    have z0 := (Bx.new w2 #[.int .i64 l.base, .slice A3 n3 c3, .slice A4 n4 c4, .slice A5 n2 c5] 37 0 (.int .i64 l.base) rfl rfl)
    have z1 := (Bx.new w2 #[.int .i64 l.base, .slice A3 n3 c3, .slice A4 n4 c4, .slice A5 n2 c5] 37 1 (.slice A3 n3 c3) rfl rfl)
    have z2 := (Bx.new w2 #[.int .i64 l.base, .slice A3 n3 c3, .slice A4 n4 c4, .slice A5 n2 c5] 37 2 (.slice A4 n4 c4) rfl rfl)
    have z3 := (Bx.new w2 #[.int .i64 l.base, .slice A3 n3 c3, .slice A4 n4 c4, .slice A5 n2 c5] 37 3 (.slice A5 n2 c5) rfl rfl)
    have hlt0 := Bx.lt x00
    have hlty := Bx.lt y0
    replace x00 := Bx.alloc x00 (.cells #[.int .i64 l.base, .slice A3 n3 c3, .slice A4 n4 c4, .slice A5 n2 c5] 37)
    replace x01 := Bx.alloc x01 (.cells #[.int .i64 l.base, .slice A3 n3 c3, .slice A4 n4 c4, .slice A5 n2 c5] 37)
    replace x02 := Bx.alloc x02 (.cells #[.int .i64 l.base, .slice A3 n3 c3, .slice A4 n4 c4, .slice A5 n2 c5] 37)
    replace x03 := Bx.alloc x03 (.cells #[.int .i64 l.base, .slice A3 n3 c3, .slice A4 n4 c4, .slice A5 n2 c5] 37)
    replace y0 := Bx.alloc y0 (.cells #[.int .i64 l.base, .slice A3 n3 c3, .slice A4 n4 c4, .slice A5 n2 c5] 37)
    replace y1 := Bx.alloc y1 (.cells #[.int .i64 l.base, .slice A3 n3 c3, .slice A4 n4 c4, .slice A5 n2 c5] 37)
    replace y2 := Bx.alloc y2 (.cells #[.int .i64 l.base, .slice A3 n3 c3, .slice A4 n4 c4, .slice A5 n2 c5] 37)
    replace y3 := Bx.alloc y3 (.cells #[.int .i64 l.base, .slice A3 n3 c3, .slice A4 n4 c4, .slice A5 n2 c5] 37)
    have hQ : Ext w2 (w2.alloc (.cells #[.int .i64 l.base, .slice A3 n3 c3, .slice A4 n4 c4, .slice A5 n2 c5] 37)) := (Ext.refl w2).alloc _
    replace k1 := k1.keep (keepE hQ (Nat.le_refl _))
    replace k2 := k2.keep (keepE hQ (Nat.le_refl _))
    replace k3 := k3.keep (keepE hQ (Nat.le_refl _))
    have hX3 := hX2.trans hQ
    have hs3 : w2.heap.size < (w2.alloc (.cells #[.int .i64 l.base, .slice A3 n3 c3, .slice A4 n4 c4, .slice A5 n2 c5] 37)).heap.size := by simp
    have zT := BT.new w2 w2.heap.size #[.int .i64 l.base, .slice A3 n3 c3, .slice A4 n4 c4, .slice A5 n2 c5] 37 rfl
    have hzW := hX0.size
    clear hE2 hQ
    obtain ⟨p00, f00⟩ := id x00
    obtain ⟨p01, f01⟩ := id x01
    obtain ⟨p02, f02⟩ := id x02
    obtain ⟨p03, f03⟩ := id x03
    obtain ⟨r0, g0⟩ := id y0
    obtain ⟨r1, g1⟩ := id y1
    obtain ⟨r2, g2⟩ := id y2
    obtain ⟨r3, g3⟩ := id y3
    obtain ⟨a0, b0⟩ := id z0
    obtain ⟨a1, b1⟩ := id z1
    obtain ⟨a2, b2⟩ := id z2
    obtain ⟨a3, b3⟩ := id z3
    have hrd3 : Rd (w2.alloc (.cells #[.int .i64 l.base, .slice A3 n3 c3, .slice A4 n4 c4, .slice A5 n2 c5] 37)) B 5 A2 k ((l.entries.take k).flatMap eEntry) := by
      have h := (hX3.rd hrd hB).take hkl
      rwa [flat_take eEntry_len] at h
    have hlen : Hid ((l.entries.take k).length = k) := by show _ = _; rw [List.length_take, Hl2.out]; omega
    go_upto_region 4 with (fail)
    generalize hW3 : (w2.alloc (.cells #[.int .i64 l.base, .slice A3 n3 c3, .slice A4 n4 c4, .slice A5 n2 c5] 37)) = W3 at *
    clear hW3
    have hlt3 := Bx.lt x00
    have hlt4 := Bx.lt z0
    go_wp2_with (at_builtin; go_loud ( refine wpList_app _ rfl _ _ 35 rfl 46 i0 _ 5 40 Try.underlying35 hi0 hz0 hz1e hz2e rfl (by omega) (W3.heap.size + 1) (W3.heap.size + 1) (.slice (some ⟨W3.heap.size, 0, none⟩) 0 0) 0 [] rfl (Own.nil _ _ _ _ _ _) (by simp) (by simp) B A2 k _ _ rfl (((Ext.refl W3).alloc _).rd hrd3 (by omega)) (oneCell_Entry _) (by unfold maxLen; omega) (by omega) ?_))
    intro A6 c6 w6 o6 hg6
    have hE6 : Ext W3 w6 := ((Ext.refl W3).alloc _).grown hg6 (fun g h => by simp [blk] at h)
    try simp only [Nat.zero_add, List.nil_append] at o6
    have hz6 := hE6.size
    have hX6 : Ext w w6 := hX3.trans hE6
    replace k1 := k1.keep (keepE hE6 (by omega))
    replace k2 := k2.keep (keepE hE6 (by omega))
    clear p00 f00 p01 f01 p02 f02 p03 f03 r0 g0 r1 g1 r2 g2 r3 g3 a0 b0 a1 b1 a2 b2 a3 b3
    replace x00 := Bx.ext x00 hE6
    replace x01 := Bx.ext x01 hE6
    replace x02 := Bx.ext x02 hE6
    replace x03 := Bx.ext x03 hE6
    replace y0 := Bx.ext y0 hE6
    replace y1 := Bx.ext y1 hE6
    replace y2 := Bx.ext y2 hE6
    replace y3 := Bx.ext y3 hE6
    replace z0 := Bx.ext z0 hE6
    replace z1 := Bx.ext z1 hE6
    replace z2 := Bx.ext z2 hE6
    replace z3 := Bx.ext z3 hE6
    obtain ⟨p00, f00⟩ := id x00
    obtain ⟨p01, f01⟩ := id x01
    obtain ⟨p02, f02⟩ := id x02
    obtain ⟨p03, f03⟩ := id x03
    obtain ⟨r0, g0⟩ := id y0
    obtain ⟨r1, g1⟩ := id y1
    obtain ⟨r2, g2⟩ := id y2
    obtain ⟨r3, g3⟩ := id y3
    obtain ⟨a0, b0⟩ := id z0
    obtain ⟨a1, b1⟩ := id z1
    obtain ⟨a2, b2⟩ := id z2
    obtain ⟨a3, b3⟩ := id z3
    have k6 : O_EntryS (w6.setCell ⟨w2.heap.size, 3, none⟩ (.slice A6 k c6)) _ _ _ _ := O_EntryS.keep (OwnS.of o6 hlen.out) (show Kp _ _ _ _ by repeat' (first | with_reducible exact Kp.refl _ _ _ | with_reducible assumption | with_reducible refine Kp.set ?_ ?_ _ _ | with_reducible refine Kp.alloc ?_ ?_ _ | with_reducible refine Kp.drew ?_ | with_reducible refine Kp.drewN ?_ _ | with_reducible refine Kp.ext ?_ ?_ (by with_reducible assumption) | with_reducible refine Kp.fr ?_ ?_ ?_ (by with_reducible assumption) | omega | (simp; done) | (simp; omega)))
    have q1 : ¬ (w.heap.size + 1 = w2.heap.size) := by omega
    have q2 : ¬ (w2.heap.size = w.heap.size + 1) := by omega
    clear o6 hg6 hE6 k3 zT
    go_wp2
    rw [hf.out]
    exact bodyPost_ret (v := .tuple #[.agg #[.int .i64 l.base, .slice A3 n3 c3, .slice A4 n4 c4, .slice A6 k c6], .bool true]) (by simp [results, Try.results32, go_sem, r0, r1, r2, r3]) rfl ⟨_, rfl, ⟨_, _, _, rfl, (O_CellS.keep k1 (show Kp _ _ _ _ by repeat' (first | with_reducible exact Kp.refl _ _ _ | with_reducible assumption | with_reducible refine Kp.set ?_ ?_ _ _ | with_reducible refine Kp.alloc ?_ ?_ _ | with_reducible refine Kp.drew ?_ | with_reducible refine Kp.drewN ?_ _ | with_reducible refine Kp.ext ?_ ?_ (by with_reducible assumption) | with_reducible refine Kp.fr ?_ ?_ ?_ (by with_reducible assumption) | omega | (simp; done) | (simp; omega)))).wide (by omega) (by first | (simp; done) | (simp; omega)), (O_SeatS.keep k2 (show Kp _ _ _ _ by repeat' (first | with_reducible exact Kp.refl _ _ _ | with_reducible assumption | with_reducible refine Kp.set ?_ ?_ _ _ | with_reducible refine Kp.alloc ?_ ?_ _ | with_reducible refine Kp.drew ?_ | with_reducible refine Kp.drewN ?_ _ | with_reducible refine Kp.ext ?_ ?_ (by with_reducible assumption) | with_reducible refine Kp.fr ?_ ?_ ?_ (by with_reducible assumption) | omega | (simp; done) | (simp; omega)))).wide (by omega) (by first | (simp; done) | (simp; omega)), (O_EntryS.keep k6 (show Kp _ _ _ _ by repeat' (first | with_reducible exact Kp.refl _ _ _ | with_reducible assumption | with_reducible refine Kp.set ?_ ?_ _ _ | with_reducible refine Kp.alloc ?_ ?_ _ | with_reducible refine Kp.drew ?_ | with_reducible refine Kp.drewN ?_ _ | with_reducible refine Kp.ext ?_ ?_ (by with_reducible assumption) | with_reducible refine Kp.fr ?_ ?_ ?_ (by with_reducible assumption) | omega | (simp; done) | (simp; omega)))).wide (by omega) (by first | (simp; done) | (simp; omega))⟩, by repeat' (first | with_reducible exact Ext.refl _ | with_reducible assumption | with_reducible refine Ext.set ?_ ?_ _ _ | with_reducible refine Ext.alloc ?_ _ | with_reducible refine Ext.drew ?_ | with_reducible refine Ext.drewN ?_ _ | with_reducible refine Ext.trans ?_ (by with_reducible assumption) | omega | (simp; done) | (simp; omega))⟩

set_option maxRecDepth 100000 in
set_option maxHeartbeats 8000000 in
theorem logPut_i (v : Value) (l : LogD) (p q kind key value : Int) (w : World) (B : Nat) (hr : R_Log w B v l) (hB : B ≤ w.heap.size) :
    Calls Try.prog 33 #[v, .agg #[.int .i64 p, .int .i64 q, .int .i64 kind, .int .i64 key, .int .i64 value]] w fun e w' => ∃ v', e = .returned (.tuple #[v', .bool (logPut l ⟨p, q, ⟨kind, key, value⟩⟩).2]) ∧ O_Log w' w.heap.size w'.heap.size v' (logPut l ⟨p, q, ⟨kind, key, value⟩⟩).1 ∧ Ext w w' := by
  have hr0 := hr
  obtain ⟨u, s, t, rfl, hu, hs, ht⟩ := hr
  obtain ⟨A0, n0, c0, hv0, -⟩ := id hu
  obtain ⟨A1, n1, c1, hv1, -⟩ := id hs
  obtain ⟨A2, n2, c2, hv2, hl2, hnc2, hcm2, hrd⟩ := ht
  subst hv0 hv1 hv2
  have Hl2 := Lib.hid hl2
  clear hl2 hu hs
  obtain ⟨i0, hi0, hz0, hz1e, hz2e⟩ := info_parts info_Entry
  have hX0 : Ext w (((w.alloc (.cells #[.int .i64 l.base, .slice A0 n0 c0, .slice A1 n1 c1, .slice A2 n2 c2] 37)).alloc (.cells #[.int .i64 p, .int .i64 q, .int .i64 kind, .int .i64 key, .int .i64 value] 46)).alloc (.cells #[.int .i64 0, .slice none 0 0, .slice none 0 0, .slice none 0 0] 37)) := by repeat' (first | with_reducible exact Ext.refl _ | with_reducible assumption | with_reducible refine Ext.set ?_ ?_ _ _ | with_reducible refine Ext.alloc ?_ _ | with_reducible refine Ext.drew ?_ | with_reducible refine Ext.drewN ?_ _ | with_reducible refine Ext.trans ?_ (by with_reducible assumption) | omega | (simp; done) | (simp; omega))
  have x00 : Bx (((w.alloc (.cells #[.int .i64 l.base, .slice A0 n0 c0, .slice A1 n1 c1, .slice A2 n2 c2] 37)).alloc (.cells #[.int .i64 p, .int .i64 q, .int .i64 kind, .int .i64 key, .int .i64 value] 46)).alloc (.cells #[.int .i64 0, .slice none 0 0, .slice none 0 0, .slice none 0 0] 37)) w.heap.size 0 (.int .i64 l.base) := (((Bx.new w #[.int .i64 l.base, .slice A0 n0 c0, .slice A1 n1 c1, .slice A2 n2 c2] 37 0 (.int .i64 l.base) rfl rfl).alloc _).alloc _)
  have x01 : Bx (((w.alloc (.cells #[.int .i64 l.base, .slice A0 n0 c0, .slice A1 n1 c1, .slice A2 n2 c2] 37)).alloc (.cells #[.int .i64 p, .int .i64 q, .int .i64 kind, .int .i64 key, .int .i64 value] 46)).alloc (.cells #[.int .i64 0, .slice none 0 0, .slice none 0 0, .slice none 0 0] 37)) w.heap.size 1 (.slice A0 n0 c0) := (((Bx.new w #[.int .i64 l.base, .slice A0 n0 c0, .slice A1 n1 c1, .slice A2 n2 c2] 37 1 (.slice A0 n0 c0) rfl rfl).alloc _).alloc _)
  have x02 : Bx (((w.alloc (.cells #[.int .i64 l.base, .slice A0 n0 c0, .slice A1 n1 c1, .slice A2 n2 c2] 37)).alloc (.cells #[.int .i64 p, .int .i64 q, .int .i64 kind, .int .i64 key, .int .i64 value] 46)).alloc (.cells #[.int .i64 0, .slice none 0 0, .slice none 0 0, .slice none 0 0] 37)) w.heap.size 2 (.slice A1 n1 c1) := (((Bx.new w #[.int .i64 l.base, .slice A0 n0 c0, .slice A1 n1 c1, .slice A2 n2 c2] 37 2 (.slice A1 n1 c1) rfl rfl).alloc _).alloc _)
  have x03 : Bx (((w.alloc (.cells #[.int .i64 l.base, .slice A0 n0 c0, .slice A1 n1 c1, .slice A2 n2 c2] 37)).alloc (.cells #[.int .i64 p, .int .i64 q, .int .i64 kind, .int .i64 key, .int .i64 value] 46)).alloc (.cells #[.int .i64 0, .slice none 0 0, .slice none 0 0, .slice none 0 0] 37)) w.heap.size 3 (.slice A2 n2 c2) := (((Bx.new w #[.int .i64 l.base, .slice A0 n0 c0, .slice A1 n1 c1, .slice A2 n2 c2] 37 3 (.slice A2 n2 c2) rfl rfl).alloc _).alloc _)
  have x10 : Bx (((w.alloc (.cells #[.int .i64 l.base, .slice A0 n0 c0, .slice A1 n1 c1, .slice A2 n2 c2] 37)).alloc (.cells #[.int .i64 p, .int .i64 q, .int .i64 kind, .int .i64 key, .int .i64 value] 46)).alloc (.cells #[.int .i64 0, .slice none 0 0, .slice none 0 0, .slice none 0 0] 37)) (w.heap.size + 1) 0 (.int .i64 p) := (Bx.new (w.alloc (.cells #[.int .i64 l.base, .slice A0 n0 c0, .slice A1 n1 c1, .slice A2 n2 c2] 37)) #[.int .i64 p, .int .i64 q, .int .i64 kind, .int .i64 key, .int .i64 value] 46 0 (.int .i64 p) (by simp) rfl).alloc _
  have x11 : Bx (((w.alloc (.cells #[.int .i64 l.base, .slice A0 n0 c0, .slice A1 n1 c1, .slice A2 n2 c2] 37)).alloc (.cells #[.int .i64 p, .int .i64 q, .int .i64 kind, .int .i64 key, .int .i64 value] 46)).alloc (.cells #[.int .i64 0, .slice none 0 0, .slice none 0 0, .slice none 0 0] 37)) (w.heap.size + 1) 1 (.int .i64 q) := (Bx.new (w.alloc (.cells #[.int .i64 l.base, .slice A0 n0 c0, .slice A1 n1 c1, .slice A2 n2 c2] 37)) #[.int .i64 p, .int .i64 q, .int .i64 kind, .int .i64 key, .int .i64 value] 46 1 (.int .i64 q) (by simp) rfl).alloc _
  have x12 : Bx (((w.alloc (.cells #[.int .i64 l.base, .slice A0 n0 c0, .slice A1 n1 c1, .slice A2 n2 c2] 37)).alloc (.cells #[.int .i64 p, .int .i64 q, .int .i64 kind, .int .i64 key, .int .i64 value] 46)).alloc (.cells #[.int .i64 0, .slice none 0 0, .slice none 0 0, .slice none 0 0] 37)) (w.heap.size + 1) 2 (.int .i64 kind) := (Bx.new (w.alloc (.cells #[.int .i64 l.base, .slice A0 n0 c0, .slice A1 n1 c1, .slice A2 n2 c2] 37)) #[.int .i64 p, .int .i64 q, .int .i64 kind, .int .i64 key, .int .i64 value] 46 2 (.int .i64 kind) (by simp) rfl).alloc _
  have x13 : Bx (((w.alloc (.cells #[.int .i64 l.base, .slice A0 n0 c0, .slice A1 n1 c1, .slice A2 n2 c2] 37)).alloc (.cells #[.int .i64 p, .int .i64 q, .int .i64 kind, .int .i64 key, .int .i64 value] 46)).alloc (.cells #[.int .i64 0, .slice none 0 0, .slice none 0 0, .slice none 0 0] 37)) (w.heap.size + 1) 3 (.int .i64 key) := (Bx.new (w.alloc (.cells #[.int .i64 l.base, .slice A0 n0 c0, .slice A1 n1 c1, .slice A2 n2 c2] 37)) #[.int .i64 p, .int .i64 q, .int .i64 kind, .int .i64 key, .int .i64 value] 46 3 (.int .i64 key) (by simp) rfl).alloc _
  have x14 : Bx (((w.alloc (.cells #[.int .i64 l.base, .slice A0 n0 c0, .slice A1 n1 c1, .slice A2 n2 c2] 37)).alloc (.cells #[.int .i64 p, .int .i64 q, .int .i64 kind, .int .i64 key, .int .i64 value] 46)).alloc (.cells #[.int .i64 0, .slice none 0 0, .slice none 0 0, .slice none 0 0] 37)) (w.heap.size + 1) 4 (.int .i64 value) := (Bx.new (w.alloc (.cells #[.int .i64 l.base, .slice A0 n0 c0, .slice A1 n1 c1, .slice A2 n2 c2] 37)) #[.int .i64 p, .int .i64 q, .int .i64 kind, .int .i64 key, .int .i64 value] 46 4 (.int .i64 value) (by simp) rfl).alloc _
  have y0 : Bx (((w.alloc (.cells #[.int .i64 l.base, .slice A0 n0 c0, .slice A1 n1 c1, .slice A2 n2 c2] 37)).alloc (.cells #[.int .i64 p, .int .i64 q, .int .i64 kind, .int .i64 key, .int .i64 value] 46)).alloc (.cells #[.int .i64 0, .slice none 0 0, .slice none 0 0, .slice none 0 0] 37)) (w.heap.size + 1 + 1) 0 (.int .i64 0) := Bx.new ((w.alloc (.cells #[.int .i64 l.base, .slice A0 n0 c0, .slice A1 n1 c1, .slice A2 n2 c2] 37)).alloc (.cells #[.int .i64 p, .int .i64 q, .int .i64 kind, .int .i64 key, .int .i64 value] 46)) #[.int .i64 0, .slice none 0 0, .slice none 0 0, .slice none 0 0] 37 0 (.int .i64 0) (by simp) rfl
  have y1 : Bx (((w.alloc (.cells #[.int .i64 l.base, .slice A0 n0 c0, .slice A1 n1 c1, .slice A2 n2 c2] 37)).alloc (.cells #[.int .i64 p, .int .i64 q, .int .i64 kind, .int .i64 key, .int .i64 value] 46)).alloc (.cells #[.int .i64 0, .slice none 0 0, .slice none 0 0, .slice none 0 0] 37)) (w.heap.size + 1 + 1) 1 (.slice none 0 0) := Bx.new ((w.alloc (.cells #[.int .i64 l.base, .slice A0 n0 c0, .slice A1 n1 c1, .slice A2 n2 c2] 37)).alloc (.cells #[.int .i64 p, .int .i64 q, .int .i64 kind, .int .i64 key, .int .i64 value] 46)) #[.int .i64 0, .slice none 0 0, .slice none 0 0, .slice none 0 0] 37 1 (.slice none 0 0) (by simp) rfl
  have y2 : Bx (((w.alloc (.cells #[.int .i64 l.base, .slice A0 n0 c0, .slice A1 n1 c1, .slice A2 n2 c2] 37)).alloc (.cells #[.int .i64 p, .int .i64 q, .int .i64 kind, .int .i64 key, .int .i64 value] 46)).alloc (.cells #[.int .i64 0, .slice none 0 0, .slice none 0 0, .slice none 0 0] 37)) (w.heap.size + 1 + 1) 2 (.slice none 0 0) := Bx.new ((w.alloc (.cells #[.int .i64 l.base, .slice A0 n0 c0, .slice A1 n1 c1, .slice A2 n2 c2] 37)).alloc (.cells #[.int .i64 p, .int .i64 q, .int .i64 kind, .int .i64 key, .int .i64 value] 46)) #[.int .i64 0, .slice none 0 0, .slice none 0 0, .slice none 0 0] 37 2 (.slice none 0 0) (by simp) rfl
  have y3 : Bx (((w.alloc (.cells #[.int .i64 l.base, .slice A0 n0 c0, .slice A1 n1 c1, .slice A2 n2 c2] 37)).alloc (.cells #[.int .i64 p, .int .i64 q, .int .i64 kind, .int .i64 key, .int .i64 value] 46)).alloc (.cells #[.int .i64 0, .slice none 0 0, .slice none 0 0, .slice none 0 0] 37)) (w.heap.size + 1 + 1) 3 (.slice none 0 0) := Bx.new ((w.alloc (.cells #[.int .i64 l.base, .slice A0 n0 c0, .slice A1 n1 c1, .slice A2 n2 c2] 37)).alloc (.cells #[.int .i64 p, .int .i64 q, .int .i64 kind, .int .i64 key, .int .i64 value] 46)) #[.int .i64 0, .slice none 0 0, .slice none 0 0, .slice none 0 0] 37 3 (.slice none 0 0) (by simp) rfl
  have zz0 : (((w.alloc (.cells #[.int .i64 l.base, .slice A0 n0 c0, .slice A1 n1 c1, .slice A2 n2 c2] 37)).alloc (.cells #[.int .i64 p, .int .i64 q, .int .i64 kind, .int .i64 key, .int .i64 value] 46)).alloc (.cells #[.int .i64 0, .slice none 0 0, .slice none 0 0, .slice none 0 0] 37)).heap.size = w.heap.size + 3 := by simp
  obtain ⟨ok, hok⟩ : ∃ ok, logOk l = ok := ⟨_, rfl⟩
  have Hok := Lib.hid hok
  clear hok
  obtain ⟨eok, heok⟩ : ∃ eok, entryOk ⟨p, q, ⟨kind, key, value⟩⟩ = eok := ⟨_, rfl⟩
  have Heok := Lib.hid heok
  clear heok
  go_enter Try.func33, Try.ntmps33
  go_wp2_with fail
  generalize (((w.alloc (.cells #[.int .i64 l.base, .slice A0 n0 c0, .slice A1 n1 c1, .slice A2 n2 c2] 37)).alloc (.cells #[.int .i64 p, .int .i64 q, .int .i64 kind, .int .i64 key, .int .i64 value] 46)).alloc (.cells #[.int .i64 0, .slice none 0 0, .slice none 0 0, .slice none 0 0] 37)) = W0 at *
  refine (logOk_i _ l _ B (by exact hr0.keep (keepE' hX0 hB)) (by omega)).mono ?_
  rw [Hok.out]
  rintro e w1 ⟨rfl, hE1⟩
  have hz1 := hE1.size
  have hX1 : Ext w w1 := hX0.trans hE1
  replace x00 := Bx.ext x00 hE1
  replace x01 := Bx.ext x01 hE1
  replace x02 := Bx.ext x02 hE1
  replace x03 := Bx.ext x03 hE1
  replace x10 := Bx.ext x10 hE1
  replace x11 := Bx.ext x11 hE1
  replace x12 := Bx.ext x12 hE1
  replace x13 := Bx.ext x13 hE1
  replace x14 := Bx.ext x14 hE1
  replace y0 := Bx.ext y0 hE1
  replace y1 := Bx.ext y1 hE1
  replace y2 := Bx.ext y2 hE1
  replace y3 := Bx.ext y3 hE1
  obtain ⟨p00, f00⟩ := id x00
  obtain ⟨p01, f01⟩ := id x01
  obtain ⟨p02, f02⟩ := id x02
  obtain ⟨p03, f03⟩ := id x03
  obtain ⟨p10, f10⟩ := id x10
  obtain ⟨p11, f11⟩ := id x11
  obtain ⟨p12, f12⟩ := id x12
  obtain ⟨p13, f13⟩ := id x13
  obtain ⟨p14, f14⟩ := id x14
  obtain ⟨r0, g0⟩ := id y0
  obtain ⟨r1, g1⟩ := id y1
  obtain ⟨r2, g2⟩ := id y2
  obtain ⟨r3, g3⟩ := id y3
  cases ok with
  | false =>
    have hf := Lib.hid (logPut_no (e := ⟨p, q, ⟨kind, key, value⟩⟩) Hok.out)
    go_wp2
    rw [hf.out]
    exact bodyPost_ret (v := .tuple #[.agg #[.int .i64 0, .slice none 0 0, .slice none 0 0, .slice none 0 0], .bool false]) (by simp [results, Try.results33, go_sem, r0, r1, r2, r3]) rfl ⟨_, rfl, ⟨_, _, _, rfl, OwnS.nil _, OwnS.nil _, OwnS.nil _⟩, by repeat' (first | with_reducible exact Ext.refl _ | with_reducible assumption | with_reducible refine Ext.set ?_ ?_ _ _ | with_reducible refine Ext.alloc ?_ _ | with_reducible refine Ext.drew ?_ | with_reducible refine Ext.drewN ?_ _ | with_reducible refine Ext.trans ?_ (by with_reducible assumption) | omega | (simp; done) | (simp; omega))⟩
  | true =>
    have hg := logOk_iff.1 Hok.out
    have h1 := hg.base
    have h2 := hg.many
    have h3 := hg.last
    have hsz : szL l ≤ 2097152 := Nat.le_trans (szL_ok Hok.out) (by omega)
    rw [Hl2.out] at h2 h3
    clear hg hE1
    go_wp2_with fail
    refine (copyLog_i _ l _ B (by exact hr0.keep (keepE' (by repeat' (first | with_reducible exact Ext.refl _ | with_reducible assumption | with_reducible refine Ext.set ?_ ?_ _ _ | with_reducible refine Ext.alloc ?_ _ | with_reducible refine Ext.drew ?_ | with_reducible refine Ext.drewN ?_ _ | with_reducible refine Ext.trans ?_ (by with_reducible assumption) | omega | (simp; done) | (simp; omega))) hB)) (by first | omega | (simp; omega)) hsz).mono ?_
    rintro e w2 ⟨v2, rfl, o2, hE2⟩
    have hz2 := hE2.size
    clear p00 f00 p01 f01 p02 f02 p03 f03 p10 f10 p11 f11 p12 f12 p13 f13 p14 f14 r0 g0 r1 g1 r2 g2 r3 g3
    replace x00 := Bx.ext x00 hE2
    replace x01 := Bx.ext x01 hE2
    replace x02 := Bx.ext x02 hE2
    replace x03 := Bx.ext x03 hE2
    replace x10 := Bx.ext x10 hE2
    replace x11 := Bx.ext x11 hE2
    replace x12 := Bx.ext x12 hE2
    replace x13 := Bx.ext x13 hE2
    replace x14 := Bx.ext x14 hE2
    replace y0 := Bx.ext y0 hE2
    replace y1 := Bx.ext y1 hE2
    replace y2 := Bx.ext y2 hE2
    replace y3 := Bx.ext y3 hE2
    have hX2 : Ext w w2 := hX1.trans hE2
    obtain ⟨u3, s3, t3, hv2, k1, k2, k3⟩ := o2
    obtain ⟨A3, n3, c3, hv3, -⟩ := id k1
    obtain ⟨A4, n4, c4, hv4, -⟩ := id k2
    obtain ⟨A5, n5, c5, hv5, hl5, ow3⟩ := k3
    subst hv3 hv4 hv5 hv2
    have hn5 : n2 = n5 := by rw [← Hl2.out]; exact hl5
    subst hn5
    have k3 : O_EntryS w2 _ _ (.slice A5 n2 c5) l.entries := OwnS.of ow3 hl5
    clear hl5
    have z0 := (Bx.new w2 #[.int .i64 l.base, .slice A3 n3 c3, .slice A4 n4 c4, .slice A5 n2 c5] 37 0 (.int .i64 l.base) rfl rfl)
    have z1 := (Bx.new w2 #[.int .i64 l.base, .slice A3 n3 c3, .slice A4 n4 c4, .slice A5 n2 c5] 37 1 (.slice A3 n3 c3) rfl rfl)
    have z2 := (Bx.new w2 #[.int .i64 l.base, .slice A3 n3 c3, .slice A4 n4 c4, .slice A5 n2 c5] 37 2 (.slice A4 n4 c4) rfl rfl)
    have z3 := (Bx.new w2 #[.int .i64 l.base, .slice A3 n3 c3, .slice A4 n4 c4, .slice A5 n2 c5] 37 3 (.slice A5 n2 c5) rfl rfl)
    have hlt0 := Bx.lt x00
    have hlty := Bx.lt y0
    replace x00 := Bx.alloc x00 (.cells #[.int .i64 l.base, .slice A3 n3 c3, .slice A4 n4 c4, .slice A5 n2 c5] 37)
    replace x01 := Bx.alloc x01 (.cells #[.int .i64 l.base, .slice A3 n3 c3, .slice A4 n4 c4, .slice A5 n2 c5] 37)
    replace x02 := Bx.alloc x02 (.cells #[.int .i64 l.base, .slice A3 n3 c3, .slice A4 n4 c4, .slice A5 n2 c5] 37)
    replace x03 := Bx.alloc x03 (.cells #[.int .i64 l.base, .slice A3 n3 c3, .slice A4 n4 c4, .slice A5 n2 c5] 37)
    replace x10 := Bx.alloc x10 (.cells #[.int .i64 l.base, .slice A3 n3 c3, .slice A4 n4 c4, .slice A5 n2 c5] 37)
    replace x11 := Bx.alloc x11 (.cells #[.int .i64 l.base, .slice A3 n3 c3, .slice A4 n4 c4, .slice A5 n2 c5] 37)
    replace x12 := Bx.alloc x12 (.cells #[.int .i64 l.base, .slice A3 n3 c3, .slice A4 n4 c4, .slice A5 n2 c5] 37)
    replace x13 := Bx.alloc x13 (.cells #[.int .i64 l.base, .slice A3 n3 c3, .slice A4 n4 c4, .slice A5 n2 c5] 37)
    replace x14 := Bx.alloc x14 (.cells #[.int .i64 l.base, .slice A3 n3 c3, .slice A4 n4 c4, .slice A5 n2 c5] 37)
    replace y0 := Bx.alloc y0 (.cells #[.int .i64 l.base, .slice A3 n3 c3, .slice A4 n4 c4, .slice A5 n2 c5] 37)
    replace y1 := Bx.alloc y1 (.cells #[.int .i64 l.base, .slice A3 n3 c3, .slice A4 n4 c4, .slice A5 n2 c5] 37)
    replace y2 := Bx.alloc y2 (.cells #[.int .i64 l.base, .slice A3 n3 c3, .slice A4 n4 c4, .slice A5 n2 c5] 37)
    replace y3 := Bx.alloc y3 (.cells #[.int .i64 l.base, .slice A3 n3 c3, .slice A4 n4 c4, .slice A5 n2 c5] 37)
    have hQ : Ext w2 (w2.alloc (.cells #[.int .i64 l.base, .slice A3 n3 c3, .slice A4 n4 c4, .slice A5 n2 c5] 37)) := (Ext.refl w2).alloc _
    replace k1 := k1.keep (keepE hQ (Nat.le_refl _))
    replace k2 := k2.keep (keepE hQ (Nat.le_refl _))
    replace k3 := k3.keep (keepE hQ (Nat.le_refl _))
    have hX3 := hX2.trans hQ
    have hs3 : w2.heap.size < (w2.alloc (.cells #[.int .i64 l.base, .slice A3 n3 c3, .slice A4 n4 c4, .slice A5 n2 c5] 37)).heap.size := by simp
    have zT := BT.new w2 w2.heap.size #[.int .i64 l.base, .slice A3 n3 c3, .slice A4 n4 c4, .slice A5 n2 c5] 37 rfl
    have hzW := hX0.size
    clear hE2 hQ
    obtain ⟨p00, f00⟩ := id x00
    obtain ⟨p01, f01⟩ := id x01
    obtain ⟨p02, f02⟩ := id x02
    obtain ⟨p03, f03⟩ := id x03
    obtain ⟨p10, f10⟩ := id x10
    obtain ⟨p11, f11⟩ := id x11
    obtain ⟨p12, f12⟩ := id x12
    obtain ⟨p13, f13⟩ := id x13
    obtain ⟨p14, f14⟩ := id x14
    obtain ⟨r0, g0⟩ := id y0
    obtain ⟨r1, g1⟩ := id y1
    obtain ⟨r2, g2⟩ := id y2
    obtain ⟨r3, g3⟩ := id y3
    obtain ⟨a0, b0⟩ := id z0
    obtain ⟨a1, b1⟩ := id z1
    obtain ⟨a2, b2⟩ := id z2
    obtain ⟨a3, b3⟩ := id z3
    go_upto_region 4 with (fail)
    generalize hW3 : (w2.alloc (.cells #[.int .i64 l.base, .slice A3 n3 c3, .slice A4 n4 c4, .slice A5 n2 c5] 37)) = W3 at *
    clear hW3
    go_wp2_with fail
    refine (entryOk_i p q kind key value _).mono ?_
    rw [Heok.out]
    rintro e w4 ⟨rfl, hE4⟩
    have hz4 := hE4.size
    have hX4 : Ext w w4 := hX3.trans hE4
    clear p00 f00 p01 f01 p02 f02 p03 f03 p10 f10 p11 f11 p12 f12 p13 f13 p14 f14 r0 g0 r1 g1 r2 g2 r3 g3 a0 b0 a1 b1 a2 b2 a3 b3
    replace x00 := Bx.ext x00 hE4
    replace x01 := Bx.ext x01 hE4
    replace x02 := Bx.ext x02 hE4
    replace x03 := Bx.ext x03 hE4
    replace x10 := Bx.ext x10 hE4
    replace x11 := Bx.ext x11 hE4
    replace x12 := Bx.ext x12 hE4
    replace x13 := Bx.ext x13 hE4
    replace x14 := Bx.ext x14 hE4
    replace y0 := Bx.ext y0 hE4
    replace y1 := Bx.ext y1 hE4
    replace y2 := Bx.ext y2 hE4
    replace y3 := Bx.ext y3 hE4
    replace z0 := Bx.ext z0 hE4
    replace z1 := Bx.ext z1 hE4
    replace z2 := Bx.ext z2 hE4
    replace z3 := Bx.ext z3 hE4
    obtain ⟨p00, f00⟩ := id x00
    obtain ⟨p01, f01⟩ := id x01
    obtain ⟨p02, f02⟩ := id x02
    obtain ⟨p03, f03⟩ := id x03
    obtain ⟨p10, f10⟩ := id x10
    obtain ⟨p11, f11⟩ := id x11
    obtain ⟨p12, f12⟩ := id x12
    obtain ⟨p13, f13⟩ := id x13
    obtain ⟨p14, f14⟩ := id x14
    obtain ⟨r0, g0⟩ := id y0
    obtain ⟨r1, g1⟩ := id y1
    obtain ⟨r2, g2⟩ := id y2
    obtain ⟨r3, g3⟩ := id y3
    obtain ⟨a0, b0⟩ := id z0
    obtain ⟨a1, b1⟩ := id z1
    obtain ⟨a2, b2⟩ := id z2
    obtain ⟨a3, b3⟩ := id z3
    replace k1 := k1.keep (keepE hE4 (by omega))
    replace k2 := k2.keep (keepE hE4 (by omega))
    replace k3 := k3.keep (keepE hE4 (by omega))
    replace zT := BT.ext zT hE4
    clear hE4
    cases eok with
    | false =>
      have hf : Hid (logPut l ⟨p, q, ⟨kind, key, value⟩⟩ = (l, false)) := by show _ = _; exact logPut_full Hok.out (.inl Heok.out)
      go_wp2
      rw [hf.out]
      exact bodyPost_ret (v := .tuple #[.agg #[.int .i64 l.base, .slice A3 n3 c3, .slice A4 n4 c4, .slice A5 n2 c5], .bool false]) (by simp [results, Try.results33, go_sem, r0, r1, r2, r3]) rfl ⟨_, rfl, ⟨_, _, _, rfl, (O_CellS.keep k1 (show Kp _ _ _ _ by repeat' (first | with_reducible exact Kp.refl _ _ _ | with_reducible assumption | with_reducible refine Kp.set ?_ ?_ _ _ | with_reducible refine Kp.alloc ?_ ?_ _ | with_reducible refine Kp.drew ?_ | with_reducible refine Kp.drewN ?_ _ | with_reducible refine Kp.ext ?_ ?_ (by with_reducible assumption) | with_reducible refine Kp.fr ?_ ?_ ?_ (by with_reducible assumption) | omega | (simp; done) | (simp; omega)))).wide (by omega) (by first | (simp; done) | (simp; omega)), (O_SeatS.keep k2 (show Kp _ _ _ _ by repeat' (first | with_reducible exact Kp.refl _ _ _ | with_reducible assumption | with_reducible refine Kp.set ?_ ?_ _ _ | with_reducible refine Kp.alloc ?_ ?_ _ | with_reducible refine Kp.drew ?_ | with_reducible refine Kp.drewN ?_ _ | with_reducible refine Kp.ext ?_ ?_ (by with_reducible assumption) | with_reducible refine Kp.fr ?_ ?_ ?_ (by with_reducible assumption) | omega | (simp; done) | (simp; omega)))).wide (by omega) (by first | (simp; done) | (simp; omega)), (O_EntryS.keep k3 (show Kp _ _ _ _ by repeat' (first | with_reducible exact Kp.refl _ _ _ | with_reducible assumption | with_reducible refine Kp.set ?_ ?_ _ _ | with_reducible refine Kp.alloc ?_ ?_ _ | with_reducible refine Kp.drew ?_ | with_reducible refine Kp.drewN ?_ _ | with_reducible refine Kp.ext ?_ ?_ (by with_reducible assumption) | with_reducible refine Kp.fr ?_ ?_ ?_ (by with_reducible assumption) | omega | (simp; done) | (simp; omega)))).wide (by omega) (by first | (simp; done) | (simp; omega))⟩, by repeat' (first | with_reducible exact Ext.refl _ | with_reducible assumption | with_reducible refine Ext.set ?_ ?_ _ _ | with_reducible refine Ext.alloc ?_ _ | with_reducible refine Ext.drew ?_ | with_reducible refine Ext.drewN ?_ _ | with_reducible refine Ext.trans ?_ (by with_reducible assumption) | omega | (simp; done) | (simp; omega))⟩
    | true =>
      by_cases h60 : n2 = 60
      · have e1 : ((n2 : Int) == 60) = true := by simp [h60]
        have e2 : (n2 == 60) = true := by simp [h60]
        have hl60 : l.entries.length = 60 := by rw [Hl2.out]; exact h60
        have hf : Hid (logPut l ⟨p, q, ⟨kind, key, value⟩⟩ = (l, false)) := by show _ = _; exact logPut_full Hok.out (.inr (.inl hl60))
        clear hl60 h60
        go_wp2
        rw [hf.out]
        exact bodyPost_ret (v := .tuple #[.agg #[.int .i64 l.base, .slice A3 n3 c3, .slice A4 n4 c4, .slice A5 n2 c5], .bool false]) (by simp [results, Try.results33, go_sem, r0, r1, r2, r3]) rfl ⟨_, rfl, ⟨_, _, _, rfl, (O_CellS.keep k1 (show Kp _ _ _ _ by repeat' (first | with_reducible exact Kp.refl _ _ _ | with_reducible assumption | with_reducible refine Kp.set ?_ ?_ _ _ | with_reducible refine Kp.alloc ?_ ?_ _ | with_reducible refine Kp.drew ?_ | with_reducible refine Kp.drewN ?_ _ | with_reducible refine Kp.ext ?_ ?_ (by with_reducible assumption) | with_reducible refine Kp.fr ?_ ?_ ?_ (by with_reducible assumption) | omega | (simp; done) | (simp; omega)))).wide (by omega) (by first | (simp; done) | (simp; omega)), (O_SeatS.keep k2 (show Kp _ _ _ _ by repeat' (first | with_reducible exact Kp.refl _ _ _ | with_reducible assumption | with_reducible refine Kp.set ?_ ?_ _ _ | with_reducible refine Kp.alloc ?_ ?_ _ | with_reducible refine Kp.drew ?_ | with_reducible refine Kp.drewN ?_ _ | with_reducible refine Kp.ext ?_ ?_ (by with_reducible assumption) | with_reducible refine Kp.fr ?_ ?_ ?_ (by with_reducible assumption) | omega | (simp; done) | (simp; omega)))).wide (by omega) (by first | (simp; done) | (simp; omega)), (O_EntryS.keep k3 (show Kp _ _ _ _ by repeat' (first | with_reducible exact Kp.refl _ _ _ | with_reducible assumption | with_reducible refine Kp.set ?_ ?_ _ _ | with_reducible refine Kp.alloc ?_ ?_ _ | with_reducible refine Kp.drew ?_ | with_reducible refine Kp.drewN ?_ _ | with_reducible refine Kp.ext ?_ ?_ (by with_reducible assumption) | with_reducible refine Kp.fr ?_ ?_ ?_ (by with_reducible assumption) | omega | (simp; done) | (simp; omega)))).wide (by omega) (by first | (simp; done) | (simp; omega))⟩, by repeat' (first | with_reducible exact Ext.refl _ | with_reducible assumption | with_reducible refine Ext.set ?_ ?_ _ _ | with_reducible refine Ext.alloc ?_ _ | with_reducible refine Ext.drew ?_ | with_reducible refine Ext.drewN ?_ _ | with_reducible refine Ext.trans ?_ (by with_reducible assumption) | omega | (simp; done) | (simp; omega))⟩
      · have e1 : ((n2 : Int) == 60) = false := by simp; omega
        have e2 : (n2 == 60) = false := by simp; omega
        go_wp2_with fail
        refine (end_any _ _ _ _ _ _ _ (by omega) (by omega)).mono ?_
        rintro e w5 ⟨rfl, hE5⟩
        have hz5 := hE5.size
        have hX5 : Ext w w5 := hX4.trans hE5
        clear p00 f00 p01 f01 p02 f02 p03 f03 p10 f10 p11 f11 p12 f12 p13 f13 p14 f14 r0 g0 r1 g1 r2 g2 r3 g3 a0 b0 a1 b1 a2 b2 a3 b3
        replace x00 := Bx.ext x00 hE5
        replace x01 := Bx.ext x01 hE5
        replace x02 := Bx.ext x02 hE5
        replace x03 := Bx.ext x03 hE5
        replace x10 := Bx.ext x10 hE5
        replace x11 := Bx.ext x11 hE5
        replace x12 := Bx.ext x12 hE5
        replace x13 := Bx.ext x13 hE5
        replace x14 := Bx.ext x14 hE5
        replace y0 := Bx.ext y0 hE5
        replace y1 := Bx.ext y1 hE5
        replace y2 := Bx.ext y2 hE5
        replace y3 := Bx.ext y3 hE5
        replace z0 := Bx.ext z0 hE5
        replace z1 := Bx.ext z1 hE5
        replace z2 := Bx.ext z2 hE5
        replace z3 := Bx.ext z3 hE5
        obtain ⟨p00, f00⟩ := id x00
        obtain ⟨p01, f01⟩ := id x01
        obtain ⟨p02, f02⟩ := id x02
        obtain ⟨p03, f03⟩ := id x03
        obtain ⟨p10, f10⟩ := id x10
        obtain ⟨p11, f11⟩ := id x11
        obtain ⟨p12, f12⟩ := id x12
        obtain ⟨p13, f13⟩ := id x13
        obtain ⟨p14, f14⟩ := id x14
        obtain ⟨r0, g0⟩ := id y0
        obtain ⟨r1, g1⟩ := id y1
        obtain ⟨r2, g2⟩ := id y2
        obtain ⟨r3, g3⟩ := id y3
        obtain ⟨a0, b0⟩ := id z0
        obtain ⟨a1, b1⟩ := id z1
        obtain ⟨a2, b2⟩ := id z2
        obtain ⟨a3, b3⟩ := id z3
        replace k1 := k1.keep (keepE hE5 (by omega))
        replace k2 := k2.keep (keepE hE5 (by omega))
        replace k3 := k3.keep (keepE hE5 (by omega))
        replace zT := BT.ext zT hE5
        clear hE5
        by_cases hmax : l.base + n2 = 1000000000
        · have e3 : ((l.base + (n2 : Int)) == 1000000000) = true := by simp [hmax]
          have hlm : l.base + l.entries.length = 1000000000 := by rw [Hl2.out]; exact hmax
          have hf : Hid (logPut l ⟨p, q, ⟨kind, key, value⟩⟩ = (l, false)) := by show _ = _; exact logPut_full Hok.out (.inr (.inr hlm))
          clear hlm hmax
          go_wp2
          rw [hf.out]
          exact bodyPost_ret (v := .tuple #[.agg #[.int .i64 l.base, .slice A3 n3 c3, .slice A4 n4 c4, .slice A5 n2 c5], .bool false]) (by simp [results, Try.results33, go_sem, r0, r1, r2, r3]) rfl ⟨_, rfl, ⟨_, _, _, rfl, (O_CellS.keep k1 (show Kp _ _ _ _ by repeat' (first | with_reducible exact Kp.refl _ _ _ | with_reducible assumption | with_reducible refine Kp.set ?_ ?_ _ _ | with_reducible refine Kp.alloc ?_ ?_ _ | with_reducible refine Kp.drew ?_ | with_reducible refine Kp.drewN ?_ _ | with_reducible refine Kp.ext ?_ ?_ (by with_reducible assumption) | with_reducible refine Kp.fr ?_ ?_ ?_ (by with_reducible assumption) | omega | (simp; done) | (simp; omega)))).wide (by omega) (by first | (simp; done) | (simp; omega)), (O_SeatS.keep k2 (show Kp _ _ _ _ by repeat' (first | with_reducible exact Kp.refl _ _ _ | with_reducible assumption | with_reducible refine Kp.set ?_ ?_ _ _ | with_reducible refine Kp.alloc ?_ ?_ _ | with_reducible refine Kp.drew ?_ | with_reducible refine Kp.drewN ?_ _ | with_reducible refine Kp.ext ?_ ?_ (by with_reducible assumption) | with_reducible refine Kp.fr ?_ ?_ ?_ (by with_reducible assumption) | omega | (simp; done) | (simp; omega)))).wide (by omega) (by first | (simp; done) | (simp; omega)), (O_EntryS.keep k3 (show Kp _ _ _ _ by repeat' (first | with_reducible exact Kp.refl _ _ _ | with_reducible assumption | with_reducible refine Kp.set ?_ ?_ _ _ | with_reducible refine Kp.alloc ?_ ?_ _ | with_reducible refine Kp.drew ?_ | with_reducible refine Kp.drewN ?_ _ | with_reducible refine Kp.ext ?_ ?_ (by with_reducible assumption) | with_reducible refine Kp.fr ?_ ?_ ?_ (by with_reducible assumption) | omega | (simp; done) | (simp; omega)))).wide (by omega) (by first | (simp; done) | (simp; omega))⟩, by repeat' (first | with_reducible exact Ext.refl _ | with_reducible assumption | with_reducible refine Ext.set ?_ ?_ _ _ | with_reducible refine Ext.alloc ?_ _ | with_reducible refine Ext.drew ?_ | with_reducible refine Ext.drewN ?_ _ | with_reducible refine Ext.trans ?_ (by with_reducible assumption) | omega | (simp; done) | (simp; omega))⟩
        · have e3 : ((l.base + (n2 : Int)) == 1000000000) = false := by simpa using hmax
          have hf : Hid (logPut l ⟨p, q, ⟨kind, key, value⟩⟩ = (⟨l.base, l.image, l.entries ++ [⟨p, q, ⟨kind, key, value⟩⟩]⟩, true)) := by
            show _ = _
            refine logPut_in Hok.out ?_
            rw [Heok.out, Hl2.out]
            simp [h60, hmax]
          obtain ⟨A9, n9, c9, hv9, hl9, ow9⟩ := k3
          injection hv9 with q1 q2 q3
          subst q1 q2 q3
          go_wp2_with (at_builtin; refine wpList_app _ rfl _ _ 35 rfl 46 i0 _ 5 40 Try.underlying35 hi0 hz0 hz1e hz2e rfl (by omega) w1.heap.size w2.heap.size (.slice A5 n2 c5) n2 _ rfl (((Ext.refl w5).alloc _).own ow9 (by omega)) (by simp; omega) (by simp; omega) (w5.heap.size + 1) (some ⟨w5.heap.size, 0, none⟩) 1 1 (eEntry ⟨p, q, ⟨kind, key, value⟩⟩) rfl (own_made w5 #[.int .i64 p, .int .i64 q, .int .i64 kind, .int .i64 key, .int .i64 value] 1 46 5 (by unfold maxLen; omega) rfl).rd.2.2.2 (fun u hu => oneCell_Entry [⟨p, q, ⟨kind, key, value⟩⟩] u (by simpa using hu)) (by unfold maxLen; omega) (by omega) ?_)
          intro A6 c6 w6 o6 hg6
          have hFr : Fr _ _ _ w6 := Fr.of_grown hg6 (fun g h => ow9.lt g h)
          have hX6 : Ext w w6 := (hX5.alloc _).grown hg6 (fun g h => by have := (ow9.lt g h).1; omega)
          have hz6 := hX6.size
          have hs6 := hg6.size
          simp only [World.size_alloc] at hs6
          replace k1 := (k1.keep (keepE ((Ext.refl w5).alloc (.cells #[.int .i64 p, .int .i64 q, .int .i64 kind, .int .i64 key, .int .i64 value] 46)) (by omega))).apart (OwnS.of (((Ext.refl w5).alloc _).own ow9 (by omega)) hl9) (by decide) hg6
          replace k2 := (k2.keep (keepE ((Ext.refl w5).alloc (.cells #[.int .i64 p, .int .i64 q, .int .i64 kind, .int .i64 key, .int .i64 value] 46)) (by omega))).apart (OwnS.of (((Ext.refl w5).alloc _).own ow9 (by omega)) hl9) (by decide) hg6
          clear p00 f00 p01 f01 p02 f02 p03 f03 p10 f10 p11 f11 p12 f12 p13 f13 p14 f14 r0 g0 r1 g1 r2 g2 r3 g3 a0 b0 a1 b1 a2 b2 a3 b3
          replace x00 := Bx.fr (Bx.alloc x00 _) hFr (by omega)
          replace x01 := Bx.fr (Bx.alloc x01 _) hFr (by omega)
          replace x02 := Bx.fr (Bx.alloc x02 _) hFr (by omega)
          replace x03 := Bx.fr (Bx.alloc x03 _) hFr (by omega)
          replace x10 := Bx.fr (Bx.alloc x10 _) hFr (by omega)
          replace x11 := Bx.fr (Bx.alloc x11 _) hFr (by omega)
          replace x12 := Bx.fr (Bx.alloc x12 _) hFr (by omega)
          replace x13 := Bx.fr (Bx.alloc x13 _) hFr (by omega)
          replace x14 := Bx.fr (Bx.alloc x14 _) hFr (by omega)
          replace y0 := Bx.fr (Bx.alloc y0 _) hFr (by omega)
          replace y1 := Bx.fr (Bx.alloc y1 _) hFr (by omega)
          replace y2 := Bx.fr (Bx.alloc y2 _) hFr (by omega)
          replace y3 := Bx.fr (Bx.alloc y3 _) hFr (by omega)
          replace z0 := Bx.fr (Bx.alloc z0 _) hFr (by omega)
          replace z1 := Bx.fr (Bx.alloc z1 _) hFr (by omega)
          replace z2 := Bx.fr (Bx.alloc z2 _) hFr (by omega)
          replace z3 := Bx.fr (Bx.alloc z3 _) hFr (by omega)
          obtain ⟨p00, f00⟩ := id x00
          obtain ⟨p01, f01⟩ := id x01
          obtain ⟨p02, f02⟩ := id x02
          obtain ⟨p03, f03⟩ := id x03
          obtain ⟨p10, f10⟩ := id x10
          obtain ⟨p11, f11⟩ := id x11
          obtain ⟨p12, f12⟩ := id x12
          obtain ⟨p13, f13⟩ := id x13
          obtain ⟨p14, f14⟩ := id x14
          obtain ⟨r0, g0⟩ := id y0
          obtain ⟨r1, g1⟩ := id y1
          obtain ⟨r2, g2⟩ := id y2
          obtain ⟨r3, g3⟩ := id y3
          obtain ⟨a0, b0⟩ := id z0
          obtain ⟨a1, b1⟩ := id z1
          obtain ⟨a2, b2⟩ := id z2
          obtain ⟨a3, b3⟩ := id z3
          replace o6 : Own w6 w1.heap.size w6.heap.size 46 5 (.slice A6 (n2 + 1) c6) (n2 + 1) ((l.entries ++ [(⟨p, q, ⟨kind, key, value⟩⟩ : EntryD)]).flatMap eEntry) := by rw [List.flatMap_append, List.flatMap_cons, List.flatMap_nil, List.append_nil]; exact o6
          replace zT := BT.fr (BT.ext zT ((Ext.refl _).alloc _)) hFr (by omega)
          have k6 : O_EntryS (w6.setCell ⟨w2.heap.size, 3, none⟩ (.slice A6 (n2 + 1) c6)) _ _ _ _ := OwnS.dodge (OwnS.of o6 (by rw [List.length_append, Hl2.out]; rfl)) zT (by decide) 3 (.slice A6 (n2 + 1) c6)
          have q1 : ¬ (w.heap.size + 1 + 1 = w2.heap.size) := by omega
          have q2 : ¬ (w2.heap.size = w.heap.size + 1 + 1) := by omega
          have hg6' := hg6.size
          clear o6 hg6 hFr hmax h60
          go_wp2
          rw [hf.out]
          exact bodyPost_ret (v := .tuple #[.agg #[.int .i64 l.base, .slice A3 n3 c3, .slice A4 n4 c4, .slice A6 (n2 + 1) c6], .bool true]) (by simp [results, Try.results33, go_sem, r0, r1, r2, r3]) rfl ⟨_, rfl, ⟨_, _, _, rfl, (O_CellS.keep k1 (show Kp _ _ _ _ by repeat' (first | with_reducible exact Kp.refl _ _ _ | with_reducible assumption | with_reducible refine Kp.set ?_ ?_ _ _ | with_reducible refine Kp.alloc ?_ ?_ _ | with_reducible refine Kp.drew ?_ | with_reducible refine Kp.drewN ?_ _ | with_reducible refine Kp.ext ?_ ?_ (by with_reducible assumption) | with_reducible refine Kp.fr ?_ ?_ ?_ (by with_reducible assumption) | omega | (simp; done) | (simp; omega)))).wide (by omega) (by first | (simp; done) | (simp; omega)), (O_SeatS.keep k2 (show Kp _ _ _ _ by repeat' (first | with_reducible exact Kp.refl _ _ _ | with_reducible assumption | with_reducible refine Kp.set ?_ ?_ _ _ | with_reducible refine Kp.alloc ?_ ?_ _ | with_reducible refine Kp.drew ?_ | with_reducible refine Kp.drewN ?_ _ | with_reducible refine Kp.ext ?_ ?_ (by with_reducible assumption) | with_reducible refine Kp.fr ?_ ?_ ?_ (by with_reducible assumption) | omega | (simp; done) | (simp; omega)))).wide (by omega) (by first | (simp; done) | (simp; omega)), (O_EntryS.keep k6 (show Kp _ _ _ _ by repeat' (first | with_reducible exact Kp.refl _ _ _ | with_reducible assumption | with_reducible refine Kp.set ?_ ?_ _ _ | with_reducible refine Kp.alloc ?_ ?_ _ | with_reducible refine Kp.drew ?_ | with_reducible refine Kp.drewN ?_ _ | with_reducible refine Kp.ext ?_ ?_ (by with_reducible assumption) | with_reducible refine Kp.fr ?_ ?_ ?_ (by with_reducible assumption) | omega | (simp; done) | (simp; omega)))).wide (by omega) (by first | (simp; done) | (simp; omega))⟩, by repeat' (first | with_reducible exact Ext.refl _ | with_reducible assumption | with_reducible refine Ext.set ?_ ?_ _ _ | with_reducible refine Ext.alloc ?_ _ | with_reducible refine Ext.drew ?_ | with_reducible refine Ext.drewN ?_ _ | with_reducible refine Ext.trans ?_ (by with_reducible assumption) | omega | (simp; done) | (simp; omega))⟩

set_option maxRecDepth 100000 in
set_option maxHeartbeats 8000000 in
theorem logPut_s (v : Value) (l : LogD) (p q kind key value : Int) (w : World) (B : Nat) (hr : R_Log w B v l) (hB : B ≤ w.heap.size) :
    Calls Try.prog 35 #[v, .agg #[.int .i64 p, .int .i64 q, .int .i64 kind, .int .i64 key, .int .i64 value]] w fun e w' => ∃ v', e = .returned (.tuple #[v', .bool (logPut l ⟨p, q, ⟨kind, key, value⟩⟩).2]) ∧ O_Log w' w.heap.size w'.heap.size v' (logPut l ⟨p, q, ⟨kind, key, value⟩⟩).1 ∧ Ext w w' := by
  have hr0 := hr
  obtain ⟨u, s, t, rfl, hu, hs, ht⟩ := hr
  obtain ⟨A0, n0, c0, hv0, -⟩ := id hu
  obtain ⟨A1, n1, c1, hv1, -⟩ := id hs
  obtain ⟨A2, n2, c2, hv2, hl2, hnc2, hcm2, hrd⟩ := ht
  subst hv0 hv1 hv2
  have Hl2 := Lib.hid hl2
  clear hl2 hu hs
  obtain ⟨i0, hi0, hz0, hz1e, hz2e⟩ := info_parts info_Entry
  have hX0 : Ext w (((w.alloc (.cells #[.int .i64 l.base, .slice A0 n0 c0, .slice A1 n1 c1, .slice A2 n2 c2] 37)).alloc (.cells #[.int .i64 p, .int .i64 q, .int .i64 kind, .int .i64 key, .int .i64 value] 46)).alloc (.cells #[.int .i64 0, .slice none 0 0, .slice none 0 0, .slice none 0 0] 37)) := by repeat' (first | with_reducible exact Ext.refl _ | with_reducible assumption | with_reducible refine Ext.set ?_ ?_ _ _ | with_reducible refine Ext.alloc ?_ _ | with_reducible refine Ext.drew ?_ | with_reducible refine Ext.drewN ?_ _ | with_reducible refine Ext.trans ?_ (by with_reducible assumption) | omega | (simp; done) | (simp; omega))
  have x00 : Bx (((w.alloc (.cells #[.int .i64 l.base, .slice A0 n0 c0, .slice A1 n1 c1, .slice A2 n2 c2] 37)).alloc (.cells #[.int .i64 p, .int .i64 q, .int .i64 kind, .int .i64 key, .int .i64 value] 46)).alloc (.cells #[.int .i64 0, .slice none 0 0, .slice none 0 0, .slice none 0 0] 37)) w.heap.size 0 (.int .i64 l.base) := (((Bx.new w #[.int .i64 l.base, .slice A0 n0 c0, .slice A1 n1 c1, .slice A2 n2 c2] 37 0 (.int .i64 l.base) rfl rfl).alloc _).alloc _)
  have x01 : Bx (((w.alloc (.cells #[.int .i64 l.base, .slice A0 n0 c0, .slice A1 n1 c1, .slice A2 n2 c2] 37)).alloc (.cells #[.int .i64 p, .int .i64 q, .int .i64 kind, .int .i64 key, .int .i64 value] 46)).alloc (.cells #[.int .i64 0, .slice none 0 0, .slice none 0 0, .slice none 0 0] 37)) w.heap.size 1 (.slice A0 n0 c0) := (((Bx.new w #[.int .i64 l.base, .slice A0 n0 c0, .slice A1 n1 c1, .slice A2 n2 c2] 37 1 (.slice A0 n0 c0) rfl rfl).alloc _).alloc _)
  have x02 : Bx (((w.alloc (.cells #[.int .i64 l.base, .slice A0 n0 c0, .slice A1 n1 c1, .slice A2 n2 c2] 37)).alloc (.cells #[.int .i64 p, .int .i64 q, .int .i64 kind, .int .i64 key, .int .i64 value] 46)).alloc (.cells #[.int .i64 0, .slice none 0 0, .slice none 0 0, .slice none 0 0] 37)) w.heap.size 2 (.slice A1 n1 c1) := (((Bx.new w #[.int .i64 l.base, .slice A0 n0 c0, .slice A1 n1 c1, .slice A2 n2 c2] 37 2 (.slice A1 n1 c1) rfl rfl).alloc _).alloc _)
  have x03 : Bx (((w.alloc (.cells #[.int .i64 l.base, .slice A0 n0 c0, .slice A1 n1 c1, .slice A2 n2 c2] 37)).alloc (.cells #[.int .i64 p, .int .i64 q, .int .i64 kind, .int .i64 key, .int .i64 value] 46)).alloc (.cells #[.int .i64 0, .slice none 0 0, .slice none 0 0, .slice none 0 0] 37)) w.heap.size 3 (.slice A2 n2 c2) := (((Bx.new w #[.int .i64 l.base, .slice A0 n0 c0, .slice A1 n1 c1, .slice A2 n2 c2] 37 3 (.slice A2 n2 c2) rfl rfl).alloc _).alloc _)
  have x10 : Bx (((w.alloc (.cells #[.int .i64 l.base, .slice A0 n0 c0, .slice A1 n1 c1, .slice A2 n2 c2] 37)).alloc (.cells #[.int .i64 p, .int .i64 q, .int .i64 kind, .int .i64 key, .int .i64 value] 46)).alloc (.cells #[.int .i64 0, .slice none 0 0, .slice none 0 0, .slice none 0 0] 37)) (w.heap.size + 1) 0 (.int .i64 p) := (Bx.new (w.alloc (.cells #[.int .i64 l.base, .slice A0 n0 c0, .slice A1 n1 c1, .slice A2 n2 c2] 37)) #[.int .i64 p, .int .i64 q, .int .i64 kind, .int .i64 key, .int .i64 value] 46 0 (.int .i64 p) (by simp) rfl).alloc _
  have x11 : Bx (((w.alloc (.cells #[.int .i64 l.base, .slice A0 n0 c0, .slice A1 n1 c1, .slice A2 n2 c2] 37)).alloc (.cells #[.int .i64 p, .int .i64 q, .int .i64 kind, .int .i64 key, .int .i64 value] 46)).alloc (.cells #[.int .i64 0, .slice none 0 0, .slice none 0 0, .slice none 0 0] 37)) (w.heap.size + 1) 1 (.int .i64 q) := (Bx.new (w.alloc (.cells #[.int .i64 l.base, .slice A0 n0 c0, .slice A1 n1 c1, .slice A2 n2 c2] 37)) #[.int .i64 p, .int .i64 q, .int .i64 kind, .int .i64 key, .int .i64 value] 46 1 (.int .i64 q) (by simp) rfl).alloc _
  have x12 : Bx (((w.alloc (.cells #[.int .i64 l.base, .slice A0 n0 c0, .slice A1 n1 c1, .slice A2 n2 c2] 37)).alloc (.cells #[.int .i64 p, .int .i64 q, .int .i64 kind, .int .i64 key, .int .i64 value] 46)).alloc (.cells #[.int .i64 0, .slice none 0 0, .slice none 0 0, .slice none 0 0] 37)) (w.heap.size + 1) 2 (.int .i64 kind) := (Bx.new (w.alloc (.cells #[.int .i64 l.base, .slice A0 n0 c0, .slice A1 n1 c1, .slice A2 n2 c2] 37)) #[.int .i64 p, .int .i64 q, .int .i64 kind, .int .i64 key, .int .i64 value] 46 2 (.int .i64 kind) (by simp) rfl).alloc _
  have x13 : Bx (((w.alloc (.cells #[.int .i64 l.base, .slice A0 n0 c0, .slice A1 n1 c1, .slice A2 n2 c2] 37)).alloc (.cells #[.int .i64 p, .int .i64 q, .int .i64 kind, .int .i64 key, .int .i64 value] 46)).alloc (.cells #[.int .i64 0, .slice none 0 0, .slice none 0 0, .slice none 0 0] 37)) (w.heap.size + 1) 3 (.int .i64 key) := (Bx.new (w.alloc (.cells #[.int .i64 l.base, .slice A0 n0 c0, .slice A1 n1 c1, .slice A2 n2 c2] 37)) #[.int .i64 p, .int .i64 q, .int .i64 kind, .int .i64 key, .int .i64 value] 46 3 (.int .i64 key) (by simp) rfl).alloc _
  have x14 : Bx (((w.alloc (.cells #[.int .i64 l.base, .slice A0 n0 c0, .slice A1 n1 c1, .slice A2 n2 c2] 37)).alloc (.cells #[.int .i64 p, .int .i64 q, .int .i64 kind, .int .i64 key, .int .i64 value] 46)).alloc (.cells #[.int .i64 0, .slice none 0 0, .slice none 0 0, .slice none 0 0] 37)) (w.heap.size + 1) 4 (.int .i64 value) := (Bx.new (w.alloc (.cells #[.int .i64 l.base, .slice A0 n0 c0, .slice A1 n1 c1, .slice A2 n2 c2] 37)) #[.int .i64 p, .int .i64 q, .int .i64 kind, .int .i64 key, .int .i64 value] 46 4 (.int .i64 value) (by simp) rfl).alloc _
  have y0 : Bx (((w.alloc (.cells #[.int .i64 l.base, .slice A0 n0 c0, .slice A1 n1 c1, .slice A2 n2 c2] 37)).alloc (.cells #[.int .i64 p, .int .i64 q, .int .i64 kind, .int .i64 key, .int .i64 value] 46)).alloc (.cells #[.int .i64 0, .slice none 0 0, .slice none 0 0, .slice none 0 0] 37)) (w.heap.size + 1 + 1) 0 (.int .i64 0) := Bx.new ((w.alloc (.cells #[.int .i64 l.base, .slice A0 n0 c0, .slice A1 n1 c1, .slice A2 n2 c2] 37)).alloc (.cells #[.int .i64 p, .int .i64 q, .int .i64 kind, .int .i64 key, .int .i64 value] 46)) #[.int .i64 0, .slice none 0 0, .slice none 0 0, .slice none 0 0] 37 0 (.int .i64 0) (by simp) rfl
  have y1 : Bx (((w.alloc (.cells #[.int .i64 l.base, .slice A0 n0 c0, .slice A1 n1 c1, .slice A2 n2 c2] 37)).alloc (.cells #[.int .i64 p, .int .i64 q, .int .i64 kind, .int .i64 key, .int .i64 value] 46)).alloc (.cells #[.int .i64 0, .slice none 0 0, .slice none 0 0, .slice none 0 0] 37)) (w.heap.size + 1 + 1) 1 (.slice none 0 0) := Bx.new ((w.alloc (.cells #[.int .i64 l.base, .slice A0 n0 c0, .slice A1 n1 c1, .slice A2 n2 c2] 37)).alloc (.cells #[.int .i64 p, .int .i64 q, .int .i64 kind, .int .i64 key, .int .i64 value] 46)) #[.int .i64 0, .slice none 0 0, .slice none 0 0, .slice none 0 0] 37 1 (.slice none 0 0) (by simp) rfl
  have y2 : Bx (((w.alloc (.cells #[.int .i64 l.base, .slice A0 n0 c0, .slice A1 n1 c1, .slice A2 n2 c2] 37)).alloc (.cells #[.int .i64 p, .int .i64 q, .int .i64 kind, .int .i64 key, .int .i64 value] 46)).alloc (.cells #[.int .i64 0, .slice none 0 0, .slice none 0 0, .slice none 0 0] 37)) (w.heap.size + 1 + 1) 2 (.slice none 0 0) := Bx.new ((w.alloc (.cells #[.int .i64 l.base, .slice A0 n0 c0, .slice A1 n1 c1, .slice A2 n2 c2] 37)).alloc (.cells #[.int .i64 p, .int .i64 q, .int .i64 kind, .int .i64 key, .int .i64 value] 46)) #[.int .i64 0, .slice none 0 0, .slice none 0 0, .slice none 0 0] 37 2 (.slice none 0 0) (by simp) rfl
  have y3 : Bx (((w.alloc (.cells #[.int .i64 l.base, .slice A0 n0 c0, .slice A1 n1 c1, .slice A2 n2 c2] 37)).alloc (.cells #[.int .i64 p, .int .i64 q, .int .i64 kind, .int .i64 key, .int .i64 value] 46)).alloc (.cells #[.int .i64 0, .slice none 0 0, .slice none 0 0, .slice none 0 0] 37)) (w.heap.size + 1 + 1) 3 (.slice none 0 0) := Bx.new ((w.alloc (.cells #[.int .i64 l.base, .slice A0 n0 c0, .slice A1 n1 c1, .slice A2 n2 c2] 37)).alloc (.cells #[.int .i64 p, .int .i64 q, .int .i64 kind, .int .i64 key, .int .i64 value] 46)) #[.int .i64 0, .slice none 0 0, .slice none 0 0, .slice none 0 0] 37 3 (.slice none 0 0) (by simp) rfl
  have zz0 : (((w.alloc (.cells #[.int .i64 l.base, .slice A0 n0 c0, .slice A1 n1 c1, .slice A2 n2 c2] 37)).alloc (.cells #[.int .i64 p, .int .i64 q, .int .i64 kind, .int .i64 key, .int .i64 value] 46)).alloc (.cells #[.int .i64 0, .slice none 0 0, .slice none 0 0, .slice none 0 0] 37)).heap.size = w.heap.size + 3 := by simp
  obtain ⟨ok, hok⟩ : ∃ ok, logOk l = ok := ⟨_, rfl⟩
  have Hok := Lib.hid hok
  clear hok
  obtain ⟨eok, heok⟩ : ∃ eok, entryOk ⟨p, q, ⟨kind, key, value⟩⟩ = eok := ⟨_, rfl⟩
  have Heok := Lib.hid heok
  clear heok
  go_enter Try.func35, Try.ntmps35
  go_wp2_with fail
  generalize (((w.alloc (.cells #[.int .i64 l.base, .slice A0 n0 c0, .slice A1 n1 c1, .slice A2 n2 c2] 37)).alloc (.cells #[.int .i64 p, .int .i64 q, .int .i64 kind, .int .i64 key, .int .i64 value] 46)).alloc (.cells #[.int .i64 0, .slice none 0 0, .slice none 0 0, .slice none 0 0] 37)) = W0 at *
  refine (logOk_s _ l _ B (by exact hr0.keep (keepE' hX0 hB)) (by omega)).mono ?_
  rw [Hok.out]
  rintro e w1 ⟨rfl, hE1⟩
  have hz1 := hE1.size
  have hX1 : Ext w w1 := hX0.trans hE1
  replace x00 := Bx.ext x00 hE1
  replace x01 := Bx.ext x01 hE1
  replace x02 := Bx.ext x02 hE1
  replace x03 := Bx.ext x03 hE1
  replace x10 := Bx.ext x10 hE1
  replace x11 := Bx.ext x11 hE1
  replace x12 := Bx.ext x12 hE1
  replace x13 := Bx.ext x13 hE1
  replace x14 := Bx.ext x14 hE1
  replace y0 := Bx.ext y0 hE1
  replace y1 := Bx.ext y1 hE1
  replace y2 := Bx.ext y2 hE1
  replace y3 := Bx.ext y3 hE1
  obtain ⟨p00, f00⟩ := id x00
  obtain ⟨p01, f01⟩ := id x01
  obtain ⟨p02, f02⟩ := id x02
  obtain ⟨p03, f03⟩ := id x03
  obtain ⟨p10, f10⟩ := id x10
  obtain ⟨p11, f11⟩ := id x11
  obtain ⟨p12, f12⟩ := id x12
  obtain ⟨p13, f13⟩ := id x13
  obtain ⟨p14, f14⟩ := id x14
  obtain ⟨r0, g0⟩ := id y0
  obtain ⟨r1, g1⟩ := id y1
  obtain ⟨r2, g2⟩ := id y2
  obtain ⟨r3, g3⟩ := id y3
  cases ok with
  | false =>
    have hf := Lib.hid (logPut_no (e := ⟨p, q, ⟨kind, key, value⟩⟩) Hok.out)
    go_wp2
    rw [hf.out]
    exact bodyPost_ret (v := .tuple #[.agg #[.int .i64 0, .slice none 0 0, .slice none 0 0, .slice none 0 0], .bool false]) (by simp [results, Try.results35, go_sem, r0, r1, r2, r3]) rfl ⟨_, rfl, ⟨_, _, _, rfl, OwnS.nil _, OwnS.nil _, OwnS.nil _⟩, by repeat' (first | with_reducible exact Ext.refl _ | with_reducible assumption | with_reducible refine Ext.set ?_ ?_ _ _ | with_reducible refine Ext.alloc ?_ _ | with_reducible refine Ext.drew ?_ | with_reducible refine Ext.drewN ?_ _ | with_reducible refine Ext.trans ?_ (by with_reducible assumption) | omega | (simp; done) | (simp; omega))⟩
  | true =>
    have hg := logOk_iff.1 Hok.out
    have h1 := hg.base
    have h2 := hg.many
    have h3 := hg.last
    have hsz : szL l ≤ 2097152 := Nat.le_trans (szL_ok Hok.out) (by omega)
    rw [Hl2.out] at h2 h3
    clear hg hE1
    go_wp2_with fail
    refine (copyLog_s _ l _ B (by exact hr0.keep (keepE' (by repeat' (first | with_reducible exact Ext.refl _ | with_reducible assumption | with_reducible refine Ext.set ?_ ?_ _ _ | with_reducible refine Ext.alloc ?_ _ | with_reducible refine Ext.drew ?_ | with_reducible refine Ext.drewN ?_ _ | with_reducible refine Ext.trans ?_ (by with_reducible assumption) | omega | (simp; done) | (simp; omega))) hB)) (by first | omega | (simp; omega)) hsz).mono ?_
    rintro e w2 ⟨v2, rfl, o2, hE2⟩
    have hz2 := hE2.size
    clear p00 f00 p01 f01 p02 f02 p03 f03 p10 f10 p11 f11 p12 f12 p13 f13 p14 f14 r0 g0 r1 g1 r2 g2 r3 g3
    replace x00 := Bx.ext x00 hE2
    replace x01 := Bx.ext x01 hE2
    replace x02 := Bx.ext x02 hE2
    replace x03 := Bx.ext x03 hE2
    replace x10 := Bx.ext x10 hE2
    replace x11 := Bx.ext x11 hE2
    replace x12 := Bx.ext x12 hE2
    replace x13 := Bx.ext x13 hE2
    replace x14 := Bx.ext x14 hE2
    replace y0 := Bx.ext y0 hE2
    replace y1 := Bx.ext y1 hE2
    replace y2 := Bx.ext y2 hE2
    replace y3 := Bx.ext y3 hE2
    have hX2 : Ext w w2 := hX1.trans hE2
    obtain ⟨u3, s3, t3, hv2, k1, k2, k3⟩ := o2
    obtain ⟨A3, n3, c3, hv3, -⟩ := id k1
    obtain ⟨A4, n4, c4, hv4, -⟩ := id k2
    obtain ⟨A5, n5, c5, hv5, hl5, ow3⟩ := k3
    subst hv3 hv4 hv5 hv2
    have hn5 : n2 = n5 := by rw [← Hl2.out]; exact hl5
    subst hn5
    have k3 : O_EntryS w2 _ _ (.slice A5 n2 c5) l.entries := OwnS.of ow3 hl5
    clear hl5
    have z0 := (Bx.new w2 #[.int .i64 l.base, .slice A3 n3 c3, .slice A4 n4 c4, .slice A5 n2 c5] 37 0 (.int .i64 l.base) rfl rfl)
    have z1 := (Bx.new w2 #[.int .i64 l.base, .slice A3 n3 c3, .slice A4 n4 c4, .slice A5 n2 c5] 37 1 (.slice A3 n3 c3) rfl rfl)
    have z2 := (Bx.new w2 #[.int .i64 l.base, .slice A3 n3 c3, .slice A4 n4 c4, .slice A5 n2 c5] 37 2 (.slice A4 n4 c4) rfl rfl)
    have z3 := (Bx.new w2 #[.int .i64 l.base, .slice A3 n3 c3, .slice A4 n4 c4, .slice A5 n2 c5] 37 3 (.slice A5 n2 c5) rfl rfl)
    have hlt0 := Bx.lt x00
    have hlty := Bx.lt y0
    replace x00 := Bx.alloc x00 (.cells #[.int .i64 l.base, .slice A3 n3 c3, .slice A4 n4 c4, .slice A5 n2 c5] 37)
    replace x01 := Bx.alloc x01 (.cells #[.int .i64 l.base, .slice A3 n3 c3, .slice A4 n4 c4, .slice A5 n2 c5] 37)
    replace x02 := Bx.alloc x02 (.cells #[.int .i64 l.base, .slice A3 n3 c3, .slice A4 n4 c4, .slice A5 n2 c5] 37)
    replace x03 := Bx.alloc x03 (.cells #[.int .i64 l.base, .slice A3 n3 c3, .slice A4 n4 c4, .slice A5 n2 c5] 37)
    replace x10 := Bx.alloc x10 (.cells #[.int .i64 l.base, .slice A3 n3 c3, .slice A4 n4 c4, .slice A5 n2 c5] 37)
    replace x11 := Bx.alloc x11 (.cells #[.int .i64 l.base, .slice A3 n3 c3, .slice A4 n4 c4, .slice A5 n2 c5] 37)
    replace x12 := Bx.alloc x12 (.cells #[.int .i64 l.base, .slice A3 n3 c3, .slice A4 n4 c4, .slice A5 n2 c5] 37)
    replace x13 := Bx.alloc x13 (.cells #[.int .i64 l.base, .slice A3 n3 c3, .slice A4 n4 c4, .slice A5 n2 c5] 37)
    replace x14 := Bx.alloc x14 (.cells #[.int .i64 l.base, .slice A3 n3 c3, .slice A4 n4 c4, .slice A5 n2 c5] 37)
    replace y0 := Bx.alloc y0 (.cells #[.int .i64 l.base, .slice A3 n3 c3, .slice A4 n4 c4, .slice A5 n2 c5] 37)
    replace y1 := Bx.alloc y1 (.cells #[.int .i64 l.base, .slice A3 n3 c3, .slice A4 n4 c4, .slice A5 n2 c5] 37)
    replace y2 := Bx.alloc y2 (.cells #[.int .i64 l.base, .slice A3 n3 c3, .slice A4 n4 c4, .slice A5 n2 c5] 37)
    replace y3 := Bx.alloc y3 (.cells #[.int .i64 l.base, .slice A3 n3 c3, .slice A4 n4 c4, .slice A5 n2 c5] 37)
    have hQ : Ext w2 (w2.alloc (.cells #[.int .i64 l.base, .slice A3 n3 c3, .slice A4 n4 c4, .slice A5 n2 c5] 37)) := (Ext.refl w2).alloc _
    replace k1 := k1.keep (keepE hQ (Nat.le_refl _))
    replace k2 := k2.keep (keepE hQ (Nat.le_refl _))
    replace k3 := k3.keep (keepE hQ (Nat.le_refl _))
    have hX3 := hX2.trans hQ
    have hs3 : w2.heap.size < (w2.alloc (.cells #[.int .i64 l.base, .slice A3 n3 c3, .slice A4 n4 c4, .slice A5 n2 c5] 37)).heap.size := by simp
    have zT := BT.new w2 w2.heap.size #[.int .i64 l.base, .slice A3 n3 c3, .slice A4 n4 c4, .slice A5 n2 c5] 37 rfl
    have hzW := hX0.size
    clear hE2 hQ
    obtain ⟨p00, f00⟩ := id x00
    obtain ⟨p01, f01⟩ := id x01
    obtain ⟨p02, f02⟩ := id x02
    obtain ⟨p03, f03⟩ := id x03
    obtain ⟨p10, f10⟩ := id x10
    obtain ⟨p11, f11⟩ := id x11
    obtain ⟨p12, f12⟩ := id x12
    obtain ⟨p13, f13⟩ := id x13
    obtain ⟨p14, f14⟩ := id x14
    obtain ⟨r0, g0⟩ := id y0
    obtain ⟨r1, g1⟩ := id y1
    obtain ⟨r2, g2⟩ := id y2
    obtain ⟨r3, g3⟩ := id y3
    obtain ⟨a0, b0⟩ := id z0
    obtain ⟨a1, b1⟩ := id z1
    obtain ⟨a2, b2⟩ := id z2
    obtain ⟨a3, b3⟩ := id z3
    go_upto_region 4 with (fail)
    generalize hW3 : (w2.alloc (.cells #[.int .i64 l.base, .slice A3 n3 c3, .slice A4 n4 c4, .slice A5 n2 c5] 37)) = W3 at *
    clear hW3
    go_wp2_with fail
    refine (entryOk_s p q kind key value _).mono ?_
    rw [Heok.out]
    rintro e w4 ⟨rfl, hE4⟩
    have hz4 := hE4.size
    have hX4 : Ext w w4 := hX3.trans hE4
    clear p00 f00 p01 f01 p02 f02 p03 f03 p10 f10 p11 f11 p12 f12 p13 f13 p14 f14 r0 g0 r1 g1 r2 g2 r3 g3 a0 b0 a1 b1 a2 b2 a3 b3
    replace x00 := Bx.ext x00 hE4
    replace x01 := Bx.ext x01 hE4
    replace x02 := Bx.ext x02 hE4
    replace x03 := Bx.ext x03 hE4
    replace x10 := Bx.ext x10 hE4
    replace x11 := Bx.ext x11 hE4
    replace x12 := Bx.ext x12 hE4
    replace x13 := Bx.ext x13 hE4
    replace x14 := Bx.ext x14 hE4
    replace y0 := Bx.ext y0 hE4
    replace y1 := Bx.ext y1 hE4
    replace y2 := Bx.ext y2 hE4
    replace y3 := Bx.ext y3 hE4
    replace z0 := Bx.ext z0 hE4
    replace z1 := Bx.ext z1 hE4
    replace z2 := Bx.ext z2 hE4
    replace z3 := Bx.ext z3 hE4
    obtain ⟨p00, f00⟩ := id x00
    obtain ⟨p01, f01⟩ := id x01
    obtain ⟨p02, f02⟩ := id x02
    obtain ⟨p03, f03⟩ := id x03
    obtain ⟨p10, f10⟩ := id x10
    obtain ⟨p11, f11⟩ := id x11
    obtain ⟨p12, f12⟩ := id x12
    obtain ⟨p13, f13⟩ := id x13
    obtain ⟨p14, f14⟩ := id x14
    obtain ⟨r0, g0⟩ := id y0
    obtain ⟨r1, g1⟩ := id y1
    obtain ⟨r2, g2⟩ := id y2
    obtain ⟨r3, g3⟩ := id y3
    obtain ⟨a0, b0⟩ := id z0
    obtain ⟨a1, b1⟩ := id z1
    obtain ⟨a2, b2⟩ := id z2
    obtain ⟨a3, b3⟩ := id z3
    replace k1 := k1.keep (keepE hE4 (by omega))
    replace k2 := k2.keep (keepE hE4 (by omega))
    replace k3 := k3.keep (keepE hE4 (by omega))
    replace zT := BT.ext zT hE4
    clear hE4
    cases eok with
    | false =>
      have hf : Hid (logPut l ⟨p, q, ⟨kind, key, value⟩⟩ = (l, false)) := by show _ = _; exact logPut_full Hok.out (.inl Heok.out)
      go_wp2
      rw [hf.out]
      exact bodyPost_ret (v := .tuple #[.agg #[.int .i64 l.base, .slice A3 n3 c3, .slice A4 n4 c4, .slice A5 n2 c5], .bool false]) (by simp [results, Try.results35, go_sem, r0, r1, r2, r3]) rfl ⟨_, rfl, ⟨_, _, _, rfl, (O_CellS.keep k1 (show Kp _ _ _ _ by repeat' (first | with_reducible exact Kp.refl _ _ _ | with_reducible assumption | with_reducible refine Kp.set ?_ ?_ _ _ | with_reducible refine Kp.alloc ?_ ?_ _ | with_reducible refine Kp.drew ?_ | with_reducible refine Kp.drewN ?_ _ | with_reducible refine Kp.ext ?_ ?_ (by with_reducible assumption) | with_reducible refine Kp.fr ?_ ?_ ?_ (by with_reducible assumption) | omega | (simp; done) | (simp; omega)))).wide (by omega) (by first | (simp; done) | (simp; omega)), (O_SeatS.keep k2 (show Kp _ _ _ _ by repeat' (first | with_reducible exact Kp.refl _ _ _ | with_reducible assumption | with_reducible refine Kp.set ?_ ?_ _ _ | with_reducible refine Kp.alloc ?_ ?_ _ | with_reducible refine Kp.drew ?_ | with_reducible refine Kp.drewN ?_ _ | with_reducible refine Kp.ext ?_ ?_ (by with_reducible assumption) | with_reducible refine Kp.fr ?_ ?_ ?_ (by with_reducible assumption) | omega | (simp; done) | (simp; omega)))).wide (by omega) (by first | (simp; done) | (simp; omega)), (O_EntryS.keep k3 (show Kp _ _ _ _ by repeat' (first | with_reducible exact Kp.refl _ _ _ | with_reducible assumption | with_reducible refine Kp.set ?_ ?_ _ _ | with_reducible refine Kp.alloc ?_ ?_ _ | with_reducible refine Kp.drew ?_ | with_reducible refine Kp.drewN ?_ _ | with_reducible refine Kp.ext ?_ ?_ (by with_reducible assumption) | with_reducible refine Kp.fr ?_ ?_ ?_ (by with_reducible assumption) | omega | (simp; done) | (simp; omega)))).wide (by omega) (by first | (simp; done) | (simp; omega))⟩, by repeat' (first | with_reducible exact Ext.refl _ | with_reducible assumption | with_reducible refine Ext.set ?_ ?_ _ _ | with_reducible refine Ext.alloc ?_ _ | with_reducible refine Ext.drew ?_ | with_reducible refine Ext.drewN ?_ _ | with_reducible refine Ext.trans ?_ (by with_reducible assumption) | omega | (simp; done) | (simp; omega))⟩
    | true =>
      by_cases h60 : n2 = 60
      · have e1 : ((n2 : Int) == 60) = true := by simp [h60]
        have e2 : (n2 == 60) = true := by simp [h60]
        have hl60 : l.entries.length = 60 := by rw [Hl2.out]; exact h60
        have hf : Hid (logPut l ⟨p, q, ⟨kind, key, value⟩⟩ = (l, false)) := by show _ = _; exact logPut_full Hok.out (.inr (.inl hl60))
        clear hl60 h60
        go_wp2
        rw [hf.out]
        exact bodyPost_ret (v := .tuple #[.agg #[.int .i64 l.base, .slice A3 n3 c3, .slice A4 n4 c4, .slice A5 n2 c5], .bool false]) (by simp [results, Try.results35, go_sem, r0, r1, r2, r3]) rfl ⟨_, rfl, ⟨_, _, _, rfl, (O_CellS.keep k1 (show Kp _ _ _ _ by repeat' (first | with_reducible exact Kp.refl _ _ _ | with_reducible assumption | with_reducible refine Kp.set ?_ ?_ _ _ | with_reducible refine Kp.alloc ?_ ?_ _ | with_reducible refine Kp.drew ?_ | with_reducible refine Kp.drewN ?_ _ | with_reducible refine Kp.ext ?_ ?_ (by with_reducible assumption) | with_reducible refine Kp.fr ?_ ?_ ?_ (by with_reducible assumption) | omega | (simp; done) | (simp; omega)))).wide (by omega) (by first | (simp; done) | (simp; omega)), (O_SeatS.keep k2 (show Kp _ _ _ _ by repeat' (first | with_reducible exact Kp.refl _ _ _ | with_reducible assumption | with_reducible refine Kp.set ?_ ?_ _ _ | with_reducible refine Kp.alloc ?_ ?_ _ | with_reducible refine Kp.drew ?_ | with_reducible refine Kp.drewN ?_ _ | with_reducible refine Kp.ext ?_ ?_ (by with_reducible assumption) | with_reducible refine Kp.fr ?_ ?_ ?_ (by with_reducible assumption) | omega | (simp; done) | (simp; omega)))).wide (by omega) (by first | (simp; done) | (simp; omega)), (O_EntryS.keep k3 (show Kp _ _ _ _ by repeat' (first | with_reducible exact Kp.refl _ _ _ | with_reducible assumption | with_reducible refine Kp.set ?_ ?_ _ _ | with_reducible refine Kp.alloc ?_ ?_ _ | with_reducible refine Kp.drew ?_ | with_reducible refine Kp.drewN ?_ _ | with_reducible refine Kp.ext ?_ ?_ (by with_reducible assumption) | with_reducible refine Kp.fr ?_ ?_ ?_ (by with_reducible assumption) | omega | (simp; done) | (simp; omega)))).wide (by omega) (by first | (simp; done) | (simp; omega))⟩, by repeat' (first | with_reducible exact Ext.refl _ | with_reducible assumption | with_reducible refine Ext.set ?_ ?_ _ _ | with_reducible refine Ext.alloc ?_ _ | with_reducible refine Ext.drew ?_ | with_reducible refine Ext.drewN ?_ _ | with_reducible refine Ext.trans ?_ (by with_reducible assumption) | omega | (simp; done) | (simp; omega))⟩
      · have e1 : ((n2 : Int) == 60) = false := by simp; omega
        have e2 : (n2 == 60) = false := by simp; omega
        go_wp2_with fail
        have hle : Hid (logEnd l = l.base + n2) := by show _ = _; rw [logEnd_ok Hok.out, Hl2.out]
        refine (logEnd_s _ l _ B (by exact hr0.keep (keepE' hX4 hB)) (by omega)).mono ?_
        rw [hle.out]
        rintro e w5 ⟨rfl, hE5⟩
        have hz5 := hE5.size
        have hX5 : Ext w w5 := hX4.trans hE5
        clear p00 f00 p01 f01 p02 f02 p03 f03 p10 f10 p11 f11 p12 f12 p13 f13 p14 f14 r0 g0 r1 g1 r2 g2 r3 g3 a0 b0 a1 b1 a2 b2 a3 b3
        replace x00 := Bx.ext x00 hE5
        replace x01 := Bx.ext x01 hE5
        replace x02 := Bx.ext x02 hE5
        replace x03 := Bx.ext x03 hE5
        replace x10 := Bx.ext x10 hE5
        replace x11 := Bx.ext x11 hE5
        replace x12 := Bx.ext x12 hE5
        replace x13 := Bx.ext x13 hE5
        replace x14 := Bx.ext x14 hE5
        replace y0 := Bx.ext y0 hE5
        replace y1 := Bx.ext y1 hE5
        replace y2 := Bx.ext y2 hE5
        replace y3 := Bx.ext y3 hE5
        replace z0 := Bx.ext z0 hE5
        replace z1 := Bx.ext z1 hE5
        replace z2 := Bx.ext z2 hE5
        replace z3 := Bx.ext z3 hE5
        obtain ⟨p00, f00⟩ := id x00
        obtain ⟨p01, f01⟩ := id x01
        obtain ⟨p02, f02⟩ := id x02
        obtain ⟨p03, f03⟩ := id x03
        obtain ⟨p10, f10⟩ := id x10
        obtain ⟨p11, f11⟩ := id x11
        obtain ⟨p12, f12⟩ := id x12
        obtain ⟨p13, f13⟩ := id x13
        obtain ⟨p14, f14⟩ := id x14
        obtain ⟨r0, g0⟩ := id y0
        obtain ⟨r1, g1⟩ := id y1
        obtain ⟨r2, g2⟩ := id y2
        obtain ⟨r3, g3⟩ := id y3
        obtain ⟨a0, b0⟩ := id z0
        obtain ⟨a1, b1⟩ := id z1
        obtain ⟨a2, b2⟩ := id z2
        obtain ⟨a3, b3⟩ := id z3
        replace k1 := k1.keep (keepE hE5 (by omega))
        replace k2 := k2.keep (keepE hE5 (by omega))
        replace k3 := k3.keep (keepE hE5 (by omega))
        replace zT := BT.ext zT hE5
        clear hE5
        by_cases hmax : l.base + n2 = 1000000000
        · have e3 : ((l.base + (n2 : Int)) == 1000000000) = true := by simp [hmax]
          have hlm : l.base + l.entries.length = 1000000000 := by rw [Hl2.out]; exact hmax
          have hf : Hid (logPut l ⟨p, q, ⟨kind, key, value⟩⟩ = (l, false)) := by show _ = _; exact logPut_full Hok.out (.inr (.inr hlm))
          clear hlm hmax
          go_wp2
          rw [hf.out]
          exact bodyPost_ret (v := .tuple #[.agg #[.int .i64 l.base, .slice A3 n3 c3, .slice A4 n4 c4, .slice A5 n2 c5], .bool false]) (by simp [results, Try.results35, go_sem, r0, r1, r2, r3]) rfl ⟨_, rfl, ⟨_, _, _, rfl, (O_CellS.keep k1 (show Kp _ _ _ _ by repeat' (first | with_reducible exact Kp.refl _ _ _ | with_reducible assumption | with_reducible refine Kp.set ?_ ?_ _ _ | with_reducible refine Kp.alloc ?_ ?_ _ | with_reducible refine Kp.drew ?_ | with_reducible refine Kp.drewN ?_ _ | with_reducible refine Kp.ext ?_ ?_ (by with_reducible assumption) | with_reducible refine Kp.fr ?_ ?_ ?_ (by with_reducible assumption) | omega | (simp; done) | (simp; omega)))).wide (by omega) (by first | (simp; done) | (simp; omega)), (O_SeatS.keep k2 (show Kp _ _ _ _ by repeat' (first | with_reducible exact Kp.refl _ _ _ | with_reducible assumption | with_reducible refine Kp.set ?_ ?_ _ _ | with_reducible refine Kp.alloc ?_ ?_ _ | with_reducible refine Kp.drew ?_ | with_reducible refine Kp.drewN ?_ _ | with_reducible refine Kp.ext ?_ ?_ (by with_reducible assumption) | with_reducible refine Kp.fr ?_ ?_ ?_ (by with_reducible assumption) | omega | (simp; done) | (simp; omega)))).wide (by omega) (by first | (simp; done) | (simp; omega)), (O_EntryS.keep k3 (show Kp _ _ _ _ by repeat' (first | with_reducible exact Kp.refl _ _ _ | with_reducible assumption | with_reducible refine Kp.set ?_ ?_ _ _ | with_reducible refine Kp.alloc ?_ ?_ _ | with_reducible refine Kp.drew ?_ | with_reducible refine Kp.drewN ?_ _ | with_reducible refine Kp.ext ?_ ?_ (by with_reducible assumption) | with_reducible refine Kp.fr ?_ ?_ ?_ (by with_reducible assumption) | omega | (simp; done) | (simp; omega)))).wide (by omega) (by first | (simp; done) | (simp; omega))⟩, by repeat' (first | with_reducible exact Ext.refl _ | with_reducible assumption | with_reducible refine Ext.set ?_ ?_ _ _ | with_reducible refine Ext.alloc ?_ _ | with_reducible refine Ext.drew ?_ | with_reducible refine Ext.drewN ?_ _ | with_reducible refine Ext.trans ?_ (by with_reducible assumption) | omega | (simp; done) | (simp; omega))⟩
        · have e3 : ((l.base + (n2 : Int)) == 1000000000) = false := by simpa using hmax
          have hf : Hid (logPut l ⟨p, q, ⟨kind, key, value⟩⟩ = (⟨l.base, l.image, l.entries ++ [⟨p, q, ⟨kind, key, value⟩⟩]⟩, true)) := by
            show _ = _
            refine logPut_in Hok.out ?_
            rw [Heok.out, Hl2.out]
            simp [h60, hmax]
          obtain ⟨A9, n9, c9, hv9, hl9, ow9⟩ := k3
          injection hv9 with q1 q2 q3
          subst q1 q2 q3
          go_wp2_with (at_builtin; refine wpList_app _ rfl _ _ 35 rfl 46 i0 _ 5 40 Try.underlying35 hi0 hz0 hz1e hz2e rfl (by omega) w1.heap.size w2.heap.size (.slice A5 n2 c5) n2 _ rfl (((Ext.refl w5).alloc _).own ow9 (by omega)) (by simp; omega) (by simp; omega) (w5.heap.size + 1) (some ⟨w5.heap.size, 0, none⟩) 1 1 (eEntry ⟨p, q, ⟨kind, key, value⟩⟩) rfl (own_made w5 #[.int .i64 p, .int .i64 q, .int .i64 kind, .int .i64 key, .int .i64 value] 1 46 5 (by unfold maxLen; omega) rfl).rd.2.2.2 (fun u hu => oneCell_Entry [⟨p, q, ⟨kind, key, value⟩⟩] u (by simpa using hu)) (by unfold maxLen; omega) (by omega) ?_)
          intro A6 c6 w6 o6 hg6
          have hFr : Fr _ _ _ w6 := Fr.of_grown hg6 (fun g h => ow9.lt g h)
          have hX6 : Ext w w6 := (hX5.alloc _).grown hg6 (fun g h => by have := (ow9.lt g h).1; omega)
          have hz6 := hX6.size
          have hs6 := hg6.size
          simp only [World.size_alloc] at hs6
          replace k1 := (k1.keep (keepE ((Ext.refl w5).alloc (.cells #[.int .i64 p, .int .i64 q, .int .i64 kind, .int .i64 key, .int .i64 value] 46)) (by omega))).apart (OwnS.of (((Ext.refl w5).alloc _).own ow9 (by omega)) hl9) (by decide) hg6
          replace k2 := (k2.keep (keepE ((Ext.refl w5).alloc (.cells #[.int .i64 p, .int .i64 q, .int .i64 kind, .int .i64 key, .int .i64 value] 46)) (by omega))).apart (OwnS.of (((Ext.refl w5).alloc _).own ow9 (by omega)) hl9) (by decide) hg6
          clear p00 f00 p01 f01 p02 f02 p03 f03 p10 f10 p11 f11 p12 f12 p13 f13 p14 f14 r0 g0 r1 g1 r2 g2 r3 g3 a0 b0 a1 b1 a2 b2 a3 b3
          replace x00 := Bx.fr (Bx.alloc x00 _) hFr (by omega)
          replace x01 := Bx.fr (Bx.alloc x01 _) hFr (by omega)
          replace x02 := Bx.fr (Bx.alloc x02 _) hFr (by omega)
          replace x03 := Bx.fr (Bx.alloc x03 _) hFr (by omega)
          replace x10 := Bx.fr (Bx.alloc x10 _) hFr (by omega)
          replace x11 := Bx.fr (Bx.alloc x11 _) hFr (by omega)
          replace x12 := Bx.fr (Bx.alloc x12 _) hFr (by omega)
          replace x13 := Bx.fr (Bx.alloc x13 _) hFr (by omega)
          replace x14 := Bx.fr (Bx.alloc x14 _) hFr (by omega)
          replace y0 := Bx.fr (Bx.alloc y0 _) hFr (by omega)
          replace y1 := Bx.fr (Bx.alloc y1 _) hFr (by omega)
          replace y2 := Bx.fr (Bx.alloc y2 _) hFr (by omega)
          replace y3 := Bx.fr (Bx.alloc y3 _) hFr (by omega)
          replace z0 := Bx.fr (Bx.alloc z0 _) hFr (by omega)
          replace z1 := Bx.fr (Bx.alloc z1 _) hFr (by omega)
          replace z2 := Bx.fr (Bx.alloc z2 _) hFr (by omega)
          replace z3 := Bx.fr (Bx.alloc z3 _) hFr (by omega)
          obtain ⟨p00, f00⟩ := id x00
          obtain ⟨p01, f01⟩ := id x01
          obtain ⟨p02, f02⟩ := id x02
          obtain ⟨p03, f03⟩ := id x03
          obtain ⟨p10, f10⟩ := id x10
          obtain ⟨p11, f11⟩ := id x11
          obtain ⟨p12, f12⟩ := id x12
          obtain ⟨p13, f13⟩ := id x13
          obtain ⟨p14, f14⟩ := id x14
          obtain ⟨r0, g0⟩ := id y0
          obtain ⟨r1, g1⟩ := id y1
          obtain ⟨r2, g2⟩ := id y2
          obtain ⟨r3, g3⟩ := id y3
          obtain ⟨a0, b0⟩ := id z0
          obtain ⟨a1, b1⟩ := id z1
          obtain ⟨a2, b2⟩ := id z2
          obtain ⟨a3, b3⟩ := id z3
          replace o6 : Own w6 w1.heap.size w6.heap.size 46 5 (.slice A6 (n2 + 1) c6) (n2 + 1) ((l.entries ++ [(⟨p, q, ⟨kind, key, value⟩⟩ : EntryD)]).flatMap eEntry) := by rw [List.flatMap_append, List.flatMap_cons, List.flatMap_nil, List.append_nil]; exact o6
          replace zT := BT.fr (BT.ext zT ((Ext.refl _).alloc _)) hFr (by omega)
          have k6 : O_EntryS (w6.setCell ⟨w2.heap.size, 3, none⟩ (.slice A6 (n2 + 1) c6)) _ _ _ _ := OwnS.dodge (OwnS.of o6 (by rw [List.length_append, Hl2.out]; rfl)) zT (by decide) 3 (.slice A6 (n2 + 1) c6)
          have q1 : ¬ (w.heap.size + 1 + 1 = w2.heap.size) := by omega
          have q2 : ¬ (w2.heap.size = w.heap.size + 1 + 1) := by omega
          have hg6' := hg6.size
          clear o6 hg6 hFr hmax h60
          go_wp2
          rw [hf.out]
          exact bodyPost_ret (v := .tuple #[.agg #[.int .i64 l.base, .slice A3 n3 c3, .slice A4 n4 c4, .slice A6 (n2 + 1) c6], .bool true]) (by simp [results, Try.results35, go_sem, r0, r1, r2, r3]) rfl ⟨_, rfl, ⟨_, _, _, rfl, (O_CellS.keep k1 (show Kp _ _ _ _ by repeat' (first | with_reducible exact Kp.refl _ _ _ | with_reducible assumption | with_reducible refine Kp.set ?_ ?_ _ _ | with_reducible refine Kp.alloc ?_ ?_ _ | with_reducible refine Kp.drew ?_ | with_reducible refine Kp.drewN ?_ _ | with_reducible refine Kp.ext ?_ ?_ (by with_reducible assumption) | with_reducible refine Kp.fr ?_ ?_ ?_ (by with_reducible assumption) | omega | (simp; done) | (simp; omega)))).wide (by omega) (by first | (simp; done) | (simp; omega)), (O_SeatS.keep k2 (show Kp _ _ _ _ by repeat' (first | with_reducible exact Kp.refl _ _ _ | with_reducible assumption | with_reducible refine Kp.set ?_ ?_ _ _ | with_reducible refine Kp.alloc ?_ ?_ _ | with_reducible refine Kp.drew ?_ | with_reducible refine Kp.drewN ?_ _ | with_reducible refine Kp.ext ?_ ?_ (by with_reducible assumption) | with_reducible refine Kp.fr ?_ ?_ ?_ (by with_reducible assumption) | omega | (simp; done) | (simp; omega)))).wide (by omega) (by first | (simp; done) | (simp; omega)), (O_EntryS.keep k6 (show Kp _ _ _ _ by repeat' (first | with_reducible exact Kp.refl _ _ _ | with_reducible assumption | with_reducible refine Kp.set ?_ ?_ _ _ | with_reducible refine Kp.alloc ?_ ?_ _ | with_reducible refine Kp.drew ?_ | with_reducible refine Kp.drewN ?_ _ | with_reducible refine Kp.ext ?_ ?_ (by with_reducible assumption) | with_reducible refine Kp.fr ?_ ?_ ?_ (by with_reducible assumption) | omega | (simp; done) | (simp; omega)))).wide (by omega) (by first | (simp; done) | (simp; omega))⟩, by repeat' (first | with_reducible exact Ext.refl _ | with_reducible assumption | with_reducible refine Ext.set ?_ ?_ _ _ | with_reducible refine Ext.alloc ?_ _ | with_reducible refine Ext.drew ?_ | with_reducible refine Ext.drewN ?_ _ | with_reducible refine Ext.trans ?_ (by with_reducible assumption) | omega | (simp; done) | (simp; omega))⟩

end Go.Proofs.Ytocmcfilldfdlaa
