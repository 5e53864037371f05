/-
  Unframe, the program's and the reference's, walked.
-/
import Derived.Test.YtpemnpoclahfnaaFrame2
import Derived.Test.YtpemnpoclahfnaaGet
namespace Go.Proofs.Ytpemnpoclahfnaa
open Go.RowKit

theorem unframe_none {b : List UInt8} {a : Int} (h : getNum b a = none) : unframe b a = ([], 0, 1) := by simp only [unframe, h]
theorem unframe_long {b : List UInt8} {a : Int} {n e : Nat} (h : getNum b a = some (n, e)) (hn : 4000 < n) : unframe b a = ([], 0, 1) := by simp only [unframe, h, hn, if_true]
theorem unframe_short {b : List UInt8} {a : Int} {n e : Nat} (h : getNum b a = some (n, e)) (hn : ¬ 4000 < n) (hl : b.length < e + n + 4) : unframe b a = ([], 0, 2) := by simp only [unframe, h, hn, hl, if_true, if_false]
theorem unframe_well {b : List UInt8} {a : Int} {n e : Nat} (h : getNum b a = some (n, e)) (hn : ¬ 4000 < n) (hl : ¬ b.length < e + n + 4) (hc : crc ((b.drop e).take n) = le4val ((b.drop (e + n)).take 4)) : unframe b a = ((b.drop e).take n, e + n + 4, 0) := by
  simp only [unframe, h, hn, hl, hc, if_true, if_false]
theorem unframe_bad {b : List UInt8} {a : Int} {n e : Nat} (h : getNum b a = some (n, e)) (hn : ¬ 4000 < n) (hl : ¬ b.length < e + n + 4) (hc : ¬ crc ((b.drop e).take n) = le4val ((b.drop (e + n)).take 4)) : unframe b a = ([], 0, 3) := by
  simp only [unframe, h, hn, hl, hc, if_false]

/-- A part of a slice of bytes. -/
theorem Rd.sub {w : World} {B n b off : Nat} {l : List UInt8} (h : Rd w B 1 (some ⟨b, off, none⟩) n (l.flatMap eB)) (hl : l.length = n) {e x : Nat} (he : e + x ≤ n) :
    Rd w B 1 (some ⟨b, off + e, none⟩) x (((l.drop e).take x).flatMap eB) := by
  refine ⟨by rw [flat_length eB_len, List.length_take, List.length_drop]; omega, fun hx => ?_⟩
  obtain ⟨b', off', h1, hb, hc⟩ := h.at_ (by omega)
  injection h1 with h1
  injection h1 with h1 h2 _
  subst h1 h2
  refine ⟨b, off + e, rfl, hb, fun j hj => ?_⟩
  rw [flat_length eB_len, List.length_take, List.length_drop] at hj
  have h3 := hc (e + j) (by omega)
  rw [← Nat.add_assoc] at h3
  rw [h3]
  have h4 := flat_drop eB_len l e
  have h5 := flat_take eB_len (l.drop e) x
  rw [Nat.mul_one] at h4 h5
  rw [← h5, ← h4, List.getElem?_take, if_pos (by omega), List.getElem?_drop]

theorem Rd.byteAt {w : World} {B n b off : Nat} {l : List UInt8} (h : Rd w B 1 (some ⟨b, off, none⟩) n (l.flatMap eB)) (hl : l.length = n) {k : Nat} (hk : k < n) :
    ∃ x, l[k]? = some x ∧ (x.toNat : Int) < 256 ∧ w.cell? ⟨b, off + k, none⟩ = some (.int .u8 (x.toNat : Int)) := by
  obtain ⟨b', off', x, h1, _, hx, hc⟩ := h.byte hl hk
  injection h1 with h1
  injection h1 with h1 h2 _
  subst h1 h2
  exact ⟨x, hx, by have := UInt8.toNat_lt x; omega, hc⟩
theorem le4val_at {l : List UInt8} {k : Nat} {a b c d : UInt8} (ha : l[k]? = some a) (hb : l[k + 1]? = some b) (hc : l[k + 2]? = some c) (hd : l[k + 3]? = some d) :
    le4val ((l.drop k).take 4) = a.toNat + b.toNat * 256 + c.toNat * 65536 + d.toNat * 16777216 := by
  have h : ∀ j, j < 4 → ((l.drop k).take 4).getD j 0 = (l[k + j]?).getD 0 := by
    intro j hj
    rw [List.getD_eq_getElem?_getD, List.getElem?_take, if_pos hj, List.getElem?_drop]
  simp only [le4val]
  rw [h 0 (by omega), h 1 (by omega), h 2 (by omega), h 3 (by omega), Nat.add_zero, ha, hb, hc, hd]
  rfl
theorem quietS {P : Program} {f : FuncId} {args : Array Value} {w : World} {n : Nat} {v : Value}
    (h : Calls P f args (w.drewN n) fun e w' => e = .returned v ∧ Still (w.drewN n) w') : Calls P f args (w.drewN n) fun e w'' => e = .returned v ∧ ∃ m, w'' = w.drewN m :=
  h.mono fun _ _ hh => ⟨hh.1, by
    obtain ⟨q, hq⟩ := hh.2
    exact ⟨n + q, by rw [hq, World.drewN_drewN]⟩⟩

set_option maxRecDepth 100000 in
set_option maxHeartbeats 1000000 in
theorem unframe_s (v : Value) (l : List UInt8) (a : Int) (w : World) (B : Nat) (hr : R_ByteS w B v l) (hB : B ≤ w.heap.size) (hn : l.length ≤ 1073741824) :
    Calls Try.prog 38 #[v, .int .i64 a] w fun e w' => ∃ v', e = .returned (.tuple #[v', .int .i64 (unframe l a).2.1, .int .i64 (unframe l a).2.2]) ∧ O_ByteS w' w.heap.size w'.heap.size v' (unframe l a).1 ∧ Ext w w' := by
  obtain ⟨A, n, c, rfl, hl, hnc, hcm, hr⟩ := hr
  obtain ⟨i0, hi0, hz0, hz1, hz2⟩ := info_parts info_Byte
  rw [hl] at hn
  have Hl := Lib.hid hl
  obtain ⟨o, ho⟩ : ∃ o, getNum l a = o := ⟨_, rfl⟩
  rcases o with _ | ⟨x, e⟩
  · rw [unframe_none ho]
    have Ho := Lib.hid ho
    clear ho hl
    go_enter Try.func38, Try.ntmps38
    go_wp2_with fail
    refine (getNum_s _ _ _ l _ _ _ hr Hl.out (by omega)).mono ?_
    rw [Ho.out]
    dsimp only [gnV]
    rintro e1 w1 ⟨rfl, hs1⟩
    have hE1 := hs1.ext
    go_wp2
    go_ret3
    exact ⟨_, rfl, OwnS.nil _, by repeat' (first | with_reducible exact Ext.refl _ | with_reducible assumption | with_reducible refine Ext.set ?_ ?_ _ _ | with_reducible refine Ext.alloc ?_ _ | with_reducible refine Ext.drew ?_ | with_reducible refine Ext.drewN ?_ _ | with_reducible refine Ext.trans ?_ (by with_reducible assumption) | omega | (simp; done) | (simp; omega))⟩
  by_cases hx : 4000 < x
  · rw [unframe_long ho hx]
    have Ho := Lib.hid ho
    clear ho hl
    have h1 : decide (4000 < x) = true := by simp; omega
    have h2 : decide ((4000 : Int) < x) = true := by simp; omega
    go_enter Try.func38, Try.ntmps38
    go_wp2_with fail
    refine (getNum_s _ _ _ l _ _ _ hr Hl.out (by omega)).mono ?_
    rw [Ho.out]
    dsimp only [gnV]
    rintro e1 w1 ⟨rfl, hs1⟩
    have hE1 := hs1.ext
    go_wp2
    go_ret3
    exact ⟨_, rfl, OwnS.nil _, by repeat' (first | with_reducible exact Ext.refl _ | with_reducible assumption | with_reducible refine Ext.set ?_ ?_ _ _ | with_reducible refine Ext.alloc ?_ _ | with_reducible refine Ext.drew ?_ | with_reducible refine Ext.drewN ?_ _ | with_reducible refine Ext.trans ?_ (by with_reducible assumption) | omega | (simp; done) | (simp; omega))⟩
  have hlt := getNum_lt ho
  have h1 : decide (4000 < x) = false := by simp; omega
  have h2 : decide ((4000 : Int) < x) = false := by simp; omega
  by_cases hsh : l.length < e + x + 4
  · rw [unframe_short ho hx hsh]
    rw [hl] at hsh hlt
    have Ho := Lib.hid ho
    clear ho hl
    have h3 : decide ((n : Int) - e < x + 4) = true := by simp; omega
    go_enter Try.func38, Try.ntmps38
    go_wp2_with fail
    refine (getNum_s _ _ _ l _ _ _ hr Hl.out (by omega)).mono ?_
    rw [Ho.out]
    dsimp only [gnV]
    rintro e1 w1 ⟨rfl, hs1⟩
    have hE1 := hs1.ext
    go_wp2
    go_ret3
    exact ⟨_, rfl, OwnS.nil _, by repeat' (first | with_reducible exact Ext.refl _ | with_reducible assumption | with_reducible refine Ext.set ?_ ?_ _ _ | with_reducible refine Ext.alloc ?_ _ | with_reducible refine Ext.drew ?_ | with_reducible refine Ext.drewN ?_ _ | with_reducible refine Ext.trans ?_ (by with_reducible assumption) | omega | (simp; done) | (simp; omega))⟩
  · by_cases hc : crc ((l.drop e).take x) = le4val ((l.drop (e + x)).take 4)
    · rw [unframe_well ho hx hsh hc]
      rw [hl] at hsh hlt
      have Ho := Lib.hid ho
      have Hc := Lib.hid hc
      clear ho hl hc
      have h3 : decide ((n : Int) - e < x + 4) = false := by simp; omega
      go_enter Try.func38, Try.ntmps38
      go_wp2_with fail
      refine (getNum_s _ _ _ l _ _ _ hr Hl.out (by omega)).mono ?_
      rw [Ho.out]
      dsimp only [gnV]
      rintro e1 w1 ⟨rfl, hs1⟩
      have hE1 := hs1.ext
      have z1 := hE1.size
      obtain ⟨b, off, rfl, hbB, -⟩ := hr.at_ (by omega)
      have hrb := hE1.rd (hr.sub Hl.out (e := e) (x := x) (by omega)) hB
      have hout : Hid (((l.drop e).take x).length = x) := by show _ = _; rw [List.length_take, List.length_drop, Hl.out]; omega
      go_wp2_with (at_builtin; refine wpList_app _ rfl _ _ 22 rfl 5 i0 _ 1 1 Try.underlying22 hi0 hz0 hz1 hz2 rfl (by omega) (w1.heap.size + 1) (w1.heap.size + 1) (.slice (some ⟨w1.heap.size, 0, none⟩) 0 0) 0 [] rfl (Own.nil _ _ _ _ _ _) (by simp) (by simp) B (some ⟨b, off + e, none⟩) x (c - e) _ (congrArg (fun m => Value.slice (some ⟨b, off + e, none⟩) m (c - e)) (show e + x - e = x by omega)) (((Ext.refl w1).alloc _).rd hrb (by have := hE1.size; omega)) (oneCell_B _) (by unfold maxLen; omega) (by omega) ?_)
      intro A3 c3 w3 o3 hb3
      have hE3 : Ext w w3 := (hE1.alloc _).grown hb3 (fun g h => by simp [blk] at h)
      go_wp2_with fail
      try simp only [Nat.zero_add, List.nil_append] at o3
      have hr3 := hE3.rd hr hB
      obtain ⟨y0, hy0, hb0, hc0⟩ := hr3.byteAt Hl.out (k := e + x) (by omega)
      obtain ⟨y1, hy1, hb1, hc1⟩ := hr3.byteAt Hl.out (k := e + x + 1) (by omega)
      obtain ⟨y2, hy2, hb2, hc2⟩ := hr3.byteAt Hl.out (k := e + x + 2) (by omega)
      obtain ⟨y3, hy3, hb4, hc3⟩ := hr3.byteAt Hl.out (k := e + x + 3) (by omega)
      have hle := le4val_at hy0 hy1 hy2 hy3
      replace hc1 : w3.cell? ⟨b, off + (e + x) + 1, none⟩ = some (.int .u8 (y1.toNat : Int)) := hc1
      replace hc2 : w3.cell? ⟨b, off + (e + x) + 2, none⟩ = some (.int .u8 (y2.toNat : Int)) := hc2
      replace hc3 : w3.cell? ⟨b, off + (e + x) + 3, none⟩ = some (.int .u8 (y3.toNat : Int)) := hc3
      have hcmp : ((crc ((l.drop e).take x) : Nat) : Int) = (y0.toNat : Int) + y1.toNat * 256 + y2.toNat * 65536 + y3.toNat * 16777216 := by rw [Hc.out, hle]; omega
      have Hy := Lib.hid (And.intro hy0 (And.intro hy1 (And.intro hy2 hy3)))
      have Hle := Lib.hid hle
      have h32 : ((crc ((l.drop e).take x) : Nat) : Int) < 4294967296 := by have := crc_lt ((l.drop e).take x); omega
      have ro3 := o3.rd.2.2.2
      clear hy0 hy1 hy2 hy3 hle
      go_quiet ((first | (go_at_call 51; exact quietS (crc_s _ _ _ _ _ _ (ro3.drewN _) hout.out (by omega)))))
      go_wp2
      go_ret3
      exact ⟨_, by first | rfl | (push_cast; rfl), OwnS.of (o3.wide (by omega) (Nat.le_refl _)) hout.out, by repeat' (first | with_reducible exact Ext.refl _ | with_reducible assumption | with_reducible refine Ext.set ?_ ?_ _ _ | with_reducible refine Ext.alloc ?_ _ | with_reducible refine Ext.drew ?_ | with_reducible refine Ext.drewN ?_ _ | with_reducible refine Ext.trans ?_ (by with_reducible assumption) | omega | (simp; done) | (simp; omega))⟩
    · rw [unframe_bad ho hx hsh hc]
      rw [hl] at hsh hlt
      have Ho := Lib.hid ho
      have Hc := Lib.hid hc
      clear ho hl hc
      have h3 : decide ((n : Int) - e < x + 4) = false := by simp; omega
      go_enter Try.func38, Try.ntmps38
      go_wp2_with fail
      refine (getNum_s _ _ _ l _ _ _ hr Hl.out (by omega)).mono ?_
      rw [Ho.out]
      dsimp only [gnV]
      rintro e1 w1 ⟨rfl, hs1⟩
      have hE1 := hs1.ext
      have z1 := hE1.size
      obtain ⟨b, off, rfl, hbB, -⟩ := hr.at_ (by omega)
      have hrb := hE1.rd (hr.sub Hl.out (e := e) (x := x) (by omega)) hB
      have hout : Hid (((l.drop e).take x).length = x) := by show _ = _; rw [List.length_take, List.length_drop, Hl.out]; omega
      go_wp2_with (at_builtin; refine wpList_app _ rfl _ _ 22 rfl 5 i0 _ 1 1 Try.underlying22 hi0 hz0 hz1 hz2 rfl (by omega) (w1.heap.size + 1) (w1.heap.size + 1) (.slice (some ⟨w1.heap.size, 0, none⟩) 0 0) 0 [] rfl (Own.nil _ _ _ _ _ _) (by simp) (by simp) B (some ⟨b, off + e, none⟩) x (c - e) _ (congrArg (fun m => Value.slice (some ⟨b, off + e, none⟩) m (c - e)) (show e + x - e = x by omega)) (((Ext.refl w1).alloc _).rd hrb (by have := hE1.size; omega)) (oneCell_B _) (by unfold maxLen; omega) (by omega) ?_)
      intro A3 c3 w3 o3 hb3
      have hE3 : Ext w w3 := (hE1.alloc _).grown hb3 (fun g h => by simp [blk] at h)
      go_wp2_with fail
      try simp only [Nat.zero_add, List.nil_append] at o3
      have hr3 := hE3.rd hr hB
      obtain ⟨y0, hy0, hb0, hc0⟩ := hr3.byteAt Hl.out (k := e + x) (by omega)
      obtain ⟨y1, hy1, hb1, hc1⟩ := hr3.byteAt Hl.out (k := e + x + 1) (by omega)
      obtain ⟨y2, hy2, hb2, hc2⟩ := hr3.byteAt Hl.out (k := e + x + 2) (by omega)
      obtain ⟨y3, hy3, hb4, hc3⟩ := hr3.byteAt Hl.out (k := e + x + 3) (by omega)
      have hle := le4val_at hy0 hy1 hy2 hy3
      replace hc1 : w3.cell? ⟨b, off + (e + x) + 1, none⟩ = some (.int .u8 (y1.toNat : Int)) := hc1
      replace hc2 : w3.cell? ⟨b, off + (e + x) + 2, none⟩ = some (.int .u8 (y2.toNat : Int)) := hc2
      replace hc3 : w3.cell? ⟨b, off + (e + x) + 3, none⟩ = some (.int .u8 (y3.toNat : Int)) := hc3
      have hcmp : ((((crc ((l.drop e).take x) : Nat) : Int)) != (y0.toNat : Int) + y1.toNat * 256 + y2.toNat * 65536 + y3.toNat * 16777216) = true := by rw [bne_iff_ne]; intro h; apply Hc.out; rw [hle]; omega
      have Hy := Lib.hid (And.intro hy0 (And.intro hy1 (And.intro hy2 hy3)))
      have Hle := Lib.hid hle
      have h32 : ((crc ((l.drop e).take x) : Nat) : Int) < 4294967296 := by have := crc_lt ((l.drop e).take x); omega
      have ro3 := o3.rd.2.2.2
      clear hy0 hy1 hy2 hy3 hle
      go_quiet ((first | (go_at_call 51; exact quietS (crc_s _ _ _ _ _ _ (ro3.drewN _) hout.out (by omega)))))
      clear h32 hb0 hb1 hb2 hb4
      generalize ((y0.toNat : Int) + y1.toNat * 256 + y2.toNat * 65536 + y3.toNat * 16777216) = s at hcmp ⊢
      generalize ((crc ((l.drop e).take x) : Nat) : Int) = cr at hcmp ⊢
      rw [bne_iff_ne] at hcmp
      go_wp2
      go_ret3
      exact ⟨_, rfl, OwnS.nil _, by repeat' (first | with_reducible exact Ext.refl _ | with_reducible assumption | with_reducible refine Ext.set ?_ ?_ _ _ | with_reducible refine Ext.alloc ?_ _ | with_reducible refine Ext.drew ?_ | with_reducible refine Ext.drewN ?_ _ | with_reducible refine Ext.trans ?_ (by with_reducible assumption) | omega | (simp; done) | (simp; omega))⟩

end Go.Proofs.Ytpemnpoclahfnaa
