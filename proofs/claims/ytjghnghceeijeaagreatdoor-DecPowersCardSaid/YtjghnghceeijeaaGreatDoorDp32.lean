/-
  Contracts of the walks below.
-/
import Derived.Test.YtjghnghceeijeaaGreatDoorDp31
set_option maxRecDepth 100000
set_option maxHeartbeats 4000000
set_option linter.unusedVariables false
set_option linter.unusedSimpArgs false
namespace Go.Proofs.YtjghnghceeijeaaGreatDoor
namespace Dc
open Go.RowKit Go.Shelf Go.BigFrame Go.Proofs.YtjghnghceeijeaaGreatDoor.Nm
attribute [local go_sem] Oper.semAt_some
theorem wcells_no {e : Int} {s : Bool} {A : Option Addr} {n c : Nat} (i x : Nat) : ((#[.bool s, .slice A n c, .int .i64 e] : Array Value))[i]? ≠ some (.int .u32 (x : Int)) := by
 intro h
 rcases i with _ | _ | _ | i <;> simp at h
theorem storeW {W : World} {g : Nat} {t : TypeId} {e e' : Int} {s s' : Bool} {A A' : Option Addr} {n c n' c' : Nat} (h : Blk W g #[.bool s, .slice A n c, .int .i64 e] t) :
 ∃ X, (((W.setCell ⟨g, 0, none⟩ (.bool s')).setCell ⟨g, 1, none⟩ (.slice A' n' c')).setCell ⟨g, 2, none⟩ (.int .i64 e')) = X ∧ Blk X g #[.bool s', .slice A' n' c', .int .i64 e'] t ∧ Nudge g W X ∧ Off (fun k => k = g) W X := by
 have h0 : Blk (W.setCell ⟨g, 0, none⟩ (.bool s')) g #[.bool s', .slice A n c, .int .i64 e] t := ⟨set_blk h.h 0 _⟩
 have q0 : Nudge g W (W.setCell ⟨g, 0, none⟩ (.bool s')) := (Nudge.of_below (.refl _ W) (Nat.le_of_lt (blk_lt h))).set (Nat.le_refl _) h wcells_no 0 _
 have o0 : Off (fun k => k = g) W (W.setCell ⟨g, 0, none⟩ (.bool s')) := (Off.refl (fun k => k = g) W).set (.inl rfl) 0 _
 generalize W.setCell ⟨g, 0, none⟩ (.bool s') = X0 at *
 have h1 : Blk (X0.setCell ⟨g, 1, none⟩ (.slice A' n' c')) g #[.bool s', .slice A' n' c', .int .i64 e] t := ⟨set_blk h0.h 1 _⟩
 have q1 : Nudge g W (X0.setCell ⟨g, 1, none⟩ (.slice A' n' c')) := q0.set (Nat.le_refl _) h0 wcells_no 1 _
 have o1 : Off (fun k => k = g) W (X0.setCell ⟨g, 1, none⟩ (.slice A' n' c')) := o0.set (.inl rfl) 1 _
 generalize X0.setCell ⟨g, 1, none⟩ (.slice A' n' c') = X1 at *
 have h2 : Blk (X1.setCell ⟨g, 2, none⟩ (.int .i64 e')) g #[.bool s', .slice A' n' c', .int .i64 e'] t := ⟨set_blk h1.h 2 _⟩
 have q2 : Nudge g W (X1.setCell ⟨g, 2, none⟩ (.int .i64 e')) := q1.set (Nat.le_refl _) h1 wcells_no 2 _
 have o2 : Off (fun k => k = g) W (X1.setCell ⟨g, 2, none⟩ (.int .i64 e')) := o1.set (.inl rfl) 2 _
 generalize X1.setCell ⟨g, 2, none⟩ (.int .i64 e') = X2 at *
 exact ⟨_, rfl, h2, q2, o2⟩
theorem rwhole_size : (Tryz.prog.info? 68).map (·.size) = some 3 := by kernel_rfl
def RetWh (x : Int × Int) (w : World) (e : Ending) (w' : World) : Prop := ∃ s A c l, e = .returned (.agg #[.bool s, .slice A l.length c, .int .i64 x.2]) ∧ IV w' s A c l x.1 ∧ Below w.heap.size w w'
theorem retWh_end {x : Int × Int} {w X : World} {s : Bool} {A : Option Addr} {c : Nat} {l : List Nat} {e : Int} (he : e = x.2) (I : IV X s A c l x.1) (hb : Below w.heap.size w X) :
 RetWh x w (.returned (.agg #[.bool s, .slice A l.length c, .int .i64 e])) X := ⟨s, A, c, l, by rw [he], I, hb⟩
def powW (z : Int) (n : Nat) : Int × Int := if (lim (z ^ n).natAbs).length ≤ 300 then (z ^ n, 0) else (0, 3)
theorem lz_pow {z : Int} {i n : Nat} (h0 : 0 < i) (hi : i ≤ n) (h : Lz 300 (z ^ n)) : Lz 300 (z ^ i) := by
 by_cases hz : z = 0
 · subst hz
   rw [Int.zero_pow (by omega)]
   exact Lz.small (k := 1) (by decide) (by decide) |>.mono (by decide)
 · refine h.le ?_
   rw [Int.natAbs_pow, Int.natAbs_pow]
   exact Nat.pow_le_pow_right (by omega) hi
theorem power_i (n1 : Bool) (A1 : Option Addr) (c1 : Nat) (l1 : List Nat) (z1 : Int) (n : Nat) (hn : n ≤ 100000) (w : World) (I1 : IV w n1 A1 c1 l1 z1) (f1 : Lz 300 z1) :
 Calls Tryz.prog 94 #[iv n1 A1 l1.length c1, .int .i64 (n : Int)] w (RetWh (powW z1 n) w) := by
 obtain ⟨W, hW, hbW, K0, K1, hszW⟩ := box2 w #[.bool n1, .slice A1 l1.length c1] 24 #[.bool false, .slice none 0 0, .int .i64 0] 68
 have J1 := I1.on hbW
 have hof := rof_i 1 W (by decide) (by decide)
 obtain ⟨E, hE⟩ : ∃ E, powW z1 n = E := ⟨_, rfl⟩
 rw [hE]
 replace hE := Lib.hid hE
 replace hszW := Lib.hid hszW
 clear I1
 go_enter Tryz.func94, Tryz.ntmps94
 go_upto_region 2 with (go_at_call 45; refine hof.mono ?_; rintro e w5 ⟨s5, A5, c5, l5, rfl, I5, b5⟩)
 obtain ⟨W6, hW6, hbW6, Q0, hszW6⟩ := box1 w5 #[.bool s5, .slice A5 l5.length c5] 24
 rw [hW6]
 have b6 := b5.trans (hbW6.mono b5.size)
 have hb6 := hbW.trans (b6.mono hbW.size)
 have M0 := K0.on b6
 have M1 := K1.on b6
 have J5 := I5.on hbW6
 have J6 := J1.on b6
 have lw5 : w.heap.size + 1 + 1 ≤ w5.heap.size := by have := b5.size; have := hszW.out; omega
 have lW6 := blk_lt Q0
 clear hof hW hW6 I5 K0 K1 J1
 go_wp2_with fail
 go_loopw [6] (fun iv Wl => ∃ (i : Nat) (s : Bool) (A : Option Addr) (c : Nat) (l : List Nat), iv = .int .i64 (i : Int) ∧ i ≤ n ∧ Blk Wl w5.heap.size #[.bool s, .slice A l.length c] 24 ∧ IV Wl s A c l (z1 ^ i) ∧ Lz 300 (z1 ^ i) ∧ Below w.heap.size w Wl ∧ Blk Wl w.heap.size #[.bool n1, .slice A1 l1.length c1] 24 ∧ Blk Wl (w.heap.size + 1) #[.bool false, .slice none 0 0, .int .i64 0] 68 ∧ IV Wl n1 A1 c1 l1 z1) (fun iv _ => n - (intOf iv).toNat)
 case atStart => exact ⟨0, s5, A5, c5, l5, rfl, Nat.zero_le _, Q0, by rw [Int.pow_zero]; exact J5, by rw [Int.pow_zero]; exact Lz.small (k := 1) (by decide) (by decide) |>.mono (by decide), hb6, M0, M1, J6⟩
 case round =>
  obtain ⟨i, s, A, c, l, rfl, hi, KI, II, fi, hbl, KA, KR, IA⟩ := hrel
  have lwr := blk_lt KI
  clear Q0 J5 J6 M0 M1
  by_cases hin : i < n
  · have hiI : decide ((i : Int) < (n : Int)) = true := decide_eq_true (by omega)
    have M1 := rtimes_i s n1 A A1 c c1 l l1 (z1 ^ i) z1 wr II IA fi f1 (by decide) (by decide)
    have e1 : z1 ^ i * z1 = z1 ^ (i + 1) := (Int.pow_succ ..).symm
    rw [e1] at M1
    clear e1
    have hpw := fun (h : Lz 300 (z1 ^ n)) => lz_pow (Nat.succ_pos i) (Nat.succ_le_of_lt hin) h
    obtain ⟨t1, ht1⟩ : ∃ t1, z1 ^ (i + 1) = t1 := ⟨_, rfl⟩
    have hpw' : Lz 300 (z1 ^ n) → Lz 300 t1 := fun h => by rw [← ht1]; exact hpw h
    clear hpw
    rw [ht1] at M1
    replace ht1 := Lib.hid ht1
    replace hpw' := Lib.hid hpw'
    obtain ⟨g0, g1⟩ := cL2 KI.h
    obtain ⟨a0, a1⟩ := cL2 KA.h
    go_upto_region 6 with (go_at_call 34; refine M1.mono ?_; rintro e w8 ⟨s8, A8, c8, l8, rfl, I8, b8⟩; clear g0 g1 a0 a1; obtain ⟨g0, g1⟩ := cL2 (KI.on b8).h; obtain ⟨j0, j1⟩ := fZ2 (KI.on b8).h)
    obtain ⟨X, hX, KX, NX, OX⟩ := storeI (s' := s8) (A' := A8) (n' := l8.length) (c' := c8) (KI.on b8)
    rw [hX]
    have RX := OX.one (KR.on b8) (by omega)
    have AX := OX.one (KA.on b8) (by omega)
    have hbX := (hbl.trans (b8.mono hbl.size)).trans (NX.low.mono (by omega))
    have I8X := I8.nudge NX
    have IAX := (IA.on b8).nudge NX
    clear hX M1 g0 g1 j0 j1 I8 KI KR KA
    have g1 := cell_at KX.h 1 _ rfl
    by_cases h3 : l8.length ≤ 300
    · have hc3 : decide ((300 : Int) < (l8.length : Int)) = false := decide_eq_false (by omega)
      have f8 : Lz 300 t1 := (len_le_iff I8X).1 h3
      clear h3
      go_wp2_with fail
      go_roundw
      case rel => exact ⟨i + 1, s8, A8, c8, l8, by simp, by omega, KX, by rw [ht1.out]; exact I8X, by rw [ht1.out]; exact f8, hbX, AX, RX, IAX⟩
      case measure => simp only [intOf]; omega
    · have hc3 : decide ((300 : Int) < (l8.length : Int)) = true := decide_eq_true (by omega)
      have hE2 : E = (0, 3) := hE.out.symm.trans (if_neg (fun h => h3 ((len_le_iff I8X).2 (hpw'.out ⟨h⟩))))
      replace hE2 := Lib.hid hE2
      obtain ⟨e0, e1, e2⟩ := cL3 RX.h
      obtain ⟨q0, q1, q2⟩ := fZ3 RX.h
      clear h3 hE hpw'
      go_wp2_with fail
      obtain ⟨Y, hY, KY, NY, OY⟩ := storeW (s' := false) (A' := none) (n' := 0) (c' := 0) (e' := 3) RX
      rw [hY]
      exact ret_cellT rfl Tryz.underlying68 rwhole_size rfl rfl KY.h rfl (by rw [hE2.out]; exact retWh_end (l := []) rfl (IV.zero _) (hbX.trans (NY.low.mono (by omega))))
  · obtain rfl : i = n := by omega
    have hiI : decide ((i : Int) < (i : Int)) = false := decide_eq_false (by omega)
    have hE2 : E = (z1 ^ i, 0) := hE.out.symm.trans (if_pos fi.len)
    replace hE2 := Lib.hid hE2
    obtain ⟨g0, g1⟩ := cL2 KI.h
    obtain ⟨e0, e1, e2⟩ := cL3 KR.h
    obtain ⟨q0, q1, q2⟩ := fZ3 KR.h
    clear hE
    go_wp2_with fail
    obtain ⟨Y, hY, KY, NY, OY⟩ := storeW (s' := s) (A' := A) (n' := l.length) (c' := c) (e' := 0) KR
    rw [hY]
    exact ret_cellT rfl Tryz.underlying68 rwhole_size rfl rfl KY.h rfl (by rw [hE2.out]; exact retWh_end rfl (II.nudge NY) (hbl.trans (NY.low.mono (by omega))))
theorem RPow_no (a : VA) (n : Int) (w : World) (ha : a.At w) (hno : a.ok = false) :
 Calls Tryz.prog 21 #[.agg #[.int .i64 a.k, .int .i64 a.p, .bool a.s, .slice a.A a.l.length a.c, .string a.S, .slice a.B a.m a.d], .int .i64 n] w (RetG (err 2) w) := by
 obtain ⟨W, hW, hbW, K0, K1, hszW⟩ := box2 w #[.int .i64 a.k, .int .i64 a.p, .bool a.s, .slice a.A a.l.length a.c, .string a.S, .slice a.B a.m a.d] 27 #[.int .i64 0, .int .i64 0, .bool false, .slice none 0 0, .string ⟨#[]⟩, .slice none 0 0, .int .i64 0] 36
 obtain ⟨x0, x1, x2, x3, x4, x5⟩ := cL6 K0.h
 obtain ⟨e0, e1, e2, e3, e4, e5, e6⟩ := cL7 K1.h
 obtain ⟨f0, f1, f2, f3, f4, f5, f6⟩ := fZ7 K1.h
 have his := is_c a W (ha.on hbW)
 rw [hno] at his
 clear hno
 go_enter Tryz.func21, Tryz.ntmps21
 go_wp2_with (go_at_call 31; refine his.mono ?_; rintro e w5 ⟨rfl, b5⟩; clear x0 x1 x2 x3 x4 x5 e0 e1 e2 e3 e4 e5 e6 f0 f1 f2 f3 f4 f5 f6; obtain ⟨x0, x1, x2, x3, x4, x5⟩ := cL6 (K0.on b5).h; obtain ⟨e0, e1, e2, e3, e4, e5, e6⟩ := cL7 (K1.on b5).h; obtain ⟨f0, f1, f2, f3, f4, f5, f6⟩ := fZ7 (K1.on b5).h)
 have hb8 := hbW.trans (b5.mono hbW.size)
 obtain ⟨X, hX, KX, NX, OX⟩ := storeG (k' := 0) (p' := 0) (s' := false) (A' := none) (n' := 0) (c' := 0) (S' := ⟨#[]⟩) (B' := none) (m' := 0) (d' := 0) (e' := 2) (K1.on b5)
 rw [hX]
 exact ret_cellT rfl Tryz.underlying36 rgot_size rfl rfl KX.h rfl (retG_err 2 (by decide) ((hb8).trans (NX.low.mono (by omega))))
theorem RPow_z (n1 : Bool) (A1 : Option Addr) (c1 : Nat) (l1 : List Nat) (z1 : Int) (p : Nat) (n : Int) (hn1 : -9223372036854775808 ≤ n) (hn2 : n < 9223372036854775808) (B1 : Option Addr) (d1 : Nat) (w : World) (I1 : IV w n1 A1 c1 l1 z1) (D1 : IsD z1 p) :
 Calls Tryz.prog 21 #[(vv 3 (p : Int) n1 A1 l1.length c1 ⟨#[]⟩ B1 0 d1), .int .i64 n] w (RetG (if n < -9600 ∨ 9600 < n then err 1 else if n < 0 ∧ z1 = 0 then err 20 else if 2800 < p * n.natAbs then err 3 else if (lim (z1 ^ n.natAbs).natAbs).length ≤ 300 then (if n < 0 then stripE (nearZ (10 ^ (p * n.natAbs + 20)) (z1 ^ n.natAbs)) else stripE (nearZ (z1 ^ n.natAbs * 10 ^ 20) (10 ^ (p * n.natAbs)))) else err 3) w) := by
 obtain ⟨W, hW, hbW, K0, K1, hszW⟩ := box2 w #[.int .i64 3, .int .i64 (p : Int), .bool n1, .slice A1 l1.length c1, .string ⟨#[]⟩, .slice B1 0 d1] 27 #[.int .i64 0, .int .i64 0, .bool false, .slice none 0 0, .string ⟨#[]⟩, .slice none 0 0, .int .i64 0] 36
 obtain ⟨x0, x1, x2, x3, x4, x5⟩ := cL6 K0.h
 obtain ⟨e0, e1, e2, e3, e4, e5, e6⟩ := cL7 K1.h
 obtain ⟨f0, f1, f2, f3, f4, f5, f6⟩ := fZ7 K1.h
 have J1 := I1.on hbW
 have his : Calls Tryz.prog 31 #[(vv 3 (p : Int) n1 A1 l1.length c1 ⟨#[]⟩ B1 0 d1)] W (fun e w' => e = .returned (.bool true) ∧ Below W.heap.size W w') := by
  have := is_c (VA.mk 3 (p : Int) n1 A1 c1 l1 ⟨#[]⟩ B1 0 d1) W ⟨J1.rd, J1.cap⟩
  rwa [VA.ok_made I1.isZ D1] at this
 obtain ⟨E, hE⟩ : ∃ E, (if n < -9600 ∨ 9600 < n then err 1 else if n < 0 ∧ z1 = 0 then err 20 else if 2800 < p * n.natAbs then err 3 else if (lim (z1 ^ n.natAbs).natAbs).length ≤ 300 then (if n < 0 then stripE (nearZ (10 ^ (p * n.natAbs + 20)) (z1 ^ n.natAbs)) else stripE (nearZ (z1 ^ n.natAbs * 10 ^ 20) (10 ^ (p * n.natAbs)))) else err 3) = E := ⟨_, rfl⟩
 rw [hE]
 replace hE := Lib.hid hE
 replace hszW := Lib.hid hszW
 have HD := Lib.hid D1
 have hzc := fun W' (h : Below W.heap.size W W') => rzero_c n1 A1 c1 l1 z1 W' (J1.on h)
 replace hn1 := Lib.hid hn1
 replace hn2 := Lib.hid hn2
 clear D1 I1
 by_cases hk0 : n < -9600
 · have kb : decide (n < -9600) = true := decide_eq_true hk0
   have hE2 := hE.out
   rw [if_pos (.inl hk0)] at hE2
   replace hE2 := Lib.hid hE2.symm
   clear hE hzc
   go_enter Tryz.func21, Tryz.ntmps21
   go_wp2_with (go_at_call 31; refine his.mono ?_; rintro e w5 ⟨rfl, b5⟩; clear x0 x1 x2 x3 x4 x5 e0 e1 e2 e3 e4 e5 e6 f0 f1 f2 f3 f4 f5 f6; obtain ⟨x0, x1, x2, x3, x4, x5⟩ := cL6 (K0.on b5).h; obtain ⟨e0, e1, e2, e3, e4, e5, e6⟩ := cL7 (K1.on b5).h; obtain ⟨f0, f1, f2, f3, f4, f5, f6⟩ := fZ7 (K1.on b5).h)
   have hb8 := hbW.trans (b5.mono hbW.size)
   obtain ⟨X, hX, KX, NX, OX⟩ := storeG (k' := 0) (p' := 0) (s' := false) (A' := none) (n' := 0) (c' := 0) (S' := ⟨#[]⟩) (B' := none) (m' := 0) (d' := 0) (e' := 1) (K1.on b5)
   rw [hX]
   exact ret_cellT rfl Tryz.underlying36 rgot_size rfl rfl KX.h rfl (by rw [hE2.out]; exact retG_err 1 (by decide) ((hb8).trans (NX.low.mono (by omega))))
 · by_cases hk1 : 9600 < n
   · have kb : decide (n < -9600) = false := decide_eq_false hk0
     have kc : decide (9600 < n) = true := decide_eq_true hk1
     have hE2 := hE.out
     rw [if_pos (.inr hk1)] at hE2
     replace hE2 := Lib.hid hE2.symm
     clear hE hzc hk0
     go_enter Tryz.func21, Tryz.ntmps21
     go_wp2_with (go_at_call 31; refine his.mono ?_; rintro e w5 ⟨rfl, b5⟩; clear x0 x1 x2 x3 x4 x5 e0 e1 e2 e3 e4 e5 e6 f0 f1 f2 f3 f4 f5 f6; obtain ⟨x0, x1, x2, x3, x4, x5⟩ := cL6 (K0.on b5).h; obtain ⟨e0, e1, e2, e3, e4, e5, e6⟩ := cL7 (K1.on b5).h; obtain ⟨f0, f1, f2, f3, f4, f5, f6⟩ := fZ7 (K1.on b5).h)
     have hb8 := hbW.trans (b5.mono hbW.size)
     obtain ⟨X, hX, KX, NX, OX⟩ := storeG (k' := 0) (p' := 0) (s' := false) (A' := none) (n' := 0) (c' := 0) (S' := ⟨#[]⟩) (B' := none) (m' := 0) (d' := 0) (e' := 1) (K1.on b5)
     rw [hX]
     exact ret_cellT rfl Tryz.underlying36 rgot_size rfl rfl KX.h rfl (by rw [hE2.out]; exact retG_err 1 (by decide) ((hb8).trans (NX.low.mono (by omega))))
   · have hE1 := hE.out
     rw [if_neg (by omega)] at hE1
     have kb : decide (n < -9600) = false := decide_eq_false hk0
     have kc : decide (9600 < n) = false := decide_eq_false hk1
     obtain ⟨t, ht⟩ : ∃ t, n.natAbs = t := ⟨_, rfl⟩
     obtain ⟨m, hm⟩ : ∃ m, p * t = m := ⟨_, rfl⟩
     have ht96 : t ≤ 9600 := by omega
     have hm0 : m ≤ 20 * 9600 := by rw [← hm]; exact Nat.mul_le_mul HD.out.hi ht96
     rw [ht, hm] at hE1
     have hpt : IntKind.i64.wrap ((p : Int) * (t : Int)) = (m : Int) := by
      have : (p : Int) * (t : Int) = (m : Int) := by rw [← hm]; rfl
      rw [this, IntKind.wrap_i64]; omega
     replace hE := Lib.hid hE1
     have hPow := fun W' (h : Below W.heap.size W W') => power_i n1 A1 c1 l1 z1 t (Nat.le_trans ht96 (by decide)) W' (J1.on h) (HD.out.lz.mono (by decide))
     clear hE1 hm
     by_cases hn0 : n < 0
     · have kd' : decide (n < 0) = true := decide_eq_true hn0
       have hwn : IntKind.i64.wrap (-n) = (t : Int) := by rw [IntKind.wrap_i64]; omega
       by_cases hz : z1 = 0
       · rw [decide_eq_true hz] at hzc
         have hE2 := hE.out
         rw [if_pos ⟨hn0, hz⟩] at hE2
         replace hE2 := Lib.hid hE2.symm
         clear hE hk0 hk1 hpt hz hPow
         go_enter Tryz.func21, Tryz.ntmps21
         go_wp2_with first
          | (go_at_call 93; have hmark := b5; refine (hzc _ b5).mono ?_; rintro e w6 ⟨rfl, b6⟩; have q6 := b5.trans (b6.mono b5.size); clear x0 x1 x2 x3 x4 x5 e0 e1 e2 e3 e4 e5 e6 f0 f1 f2 f3 f4 f5 f6; obtain ⟨x0, x1, x2, x3, x4, x5⟩ := cL6 (K0.on q6).h; obtain ⟨e0, e1, e2, e3, e4, e5, e6⟩ := cL7 (K1.on q6).h; obtain ⟨f0, f1, f2, f3, f4, f5, f6⟩ := fZ7 (K1.on q6).h)
          | (go_at_call 31; refine his.mono ?_; rintro e w5 ⟨rfl, b5⟩; clear x0 x1 x2 x3 x4 x5 e0 e1 e2 e3 e4 e5 e6 f0 f1 f2 f3 f4 f5 f6; obtain ⟨x0, x1, x2, x3, x4, x5⟩ := cL6 (K0.on b5).h; obtain ⟨e0, e1, e2, e3, e4, e5, e6⟩ := cL7 (K1.on b5).h; obtain ⟨f0, f1, f2, f3, f4, f5, f6⟩ := fZ7 (K1.on b5).h)
         have hb8 := hbW.trans (q6.mono hbW.size)
         obtain ⟨X, hX, KX, NX, OX⟩ := storeG (k' := 0) (p' := 0) (s' := false) (A' := none) (n' := 0) (c' := 0) (S' := ⟨#[]⟩) (B' := none) (m' := 0) (d' := 0) (e' := 20) (K1.on q6)
         rw [hX]
         exact ret_cellT rfl Tryz.underlying36 rgot_size rfl rfl KX.h rfl (by rw [hE2.out]; exact retG_err 20 (by decide) ((hb8).trans (NX.low.mono (by omega))))
       · rw [decide_eq_false hz] at hzc
         have hE1 := hE.out
         rw [if_neg (fun h => hz h.2)] at hE1
         clear hE
         have hE := Lib.hid hE1
         clear hE1
         by_cases hm28 : 2800 < m
         · have ke : decide ((2800 : Int) < (m : Int)) = true := decide_eq_true (by omega)
           have hE2 := hE.out
           rw [if_pos hm28] at hE2
           replace hE2 := Lib.hid hE2.symm
           clear hE hk0 hk1 hm0 ht96 hPow
           go_enter Tryz.func21, Tryz.ntmps21
           go_wp2_with first
            | (go_at_call 93; have hmark := b5; refine (hzc _ b5).mono ?_; rintro e w6 ⟨rfl, b6⟩; have q6 := b5.trans (b6.mono b5.size); clear x0 x1 x2 x3 x4 x5 e0 e1 e2 e3 e4 e5 e6 f0 f1 f2 f3 f4 f5 f6; obtain ⟨x0, x1, x2, x3, x4, x5⟩ := cL6 (K0.on q6).h; obtain ⟨e0, e1, e2, e3, e4, e5, e6⟩ := cL7 (K1.on q6).h; obtain ⟨f0, f1, f2, f3, f4, f5, f6⟩ := fZ7 (K1.on q6).h)
            | (go_at_call 31; refine his.mono ?_; rintro e w5 ⟨rfl, b5⟩; clear x0 x1 x2 x3 x4 x5 e0 e1 e2 e3 e4 e5 e6 f0 f1 f2 f3 f4 f5 f6; obtain ⟨x0, x1, x2, x3, x4, x5⟩ := cL6 (K0.on b5).h; obtain ⟨e0, e1, e2, e3, e4, e5, e6⟩ := cL7 (K1.on b5).h; obtain ⟨f0, f1, f2, f3, f4, f5, f6⟩ := fZ7 (K1.on b5).h)
           have hb8 := hbW.trans (q6.mono hbW.size)
           obtain ⟨X, hX, KX, NX, OX⟩ := storeG (k' := 0) (p' := 0) (s' := false) (A' := none) (n' := 0) (c' := 0) (S' := ⟨#[]⟩) (B' := none) (m' := 0) (d' := 0) (e' := 3) (K1.on q6)
           rw [hX]
           exact ret_cellT rfl Tryz.underlying36 rgot_size rfl rfl KX.h rfl (by rw [hE2.out]; exact retG_err 3 (by decide) ((hb8).trans (NX.low.mono (by omega))))
         · have ke : decide ((2800 : Int) < (m : Int)) = false := decide_eq_false (by omega)
           have hE1 := hE.out
           rw [if_neg hm28] at hE1
           obtain ⟨pw, hpw⟩ : ∃ pw, z1 ^ t = pw := ⟨_, rfl⟩
           rw [hpw] at hE1
           have hpw0 : Hid (pw ≠ 0) := by show pw ≠ 0; rw [← hpw]; exact pow_ne hz t
           unfold powW at hPow
           rw [hpw] at hPow
           clear hE hpw
           by_cases hfit : (lim pw.natAbs).length ≤ 300
           · rw [if_pos hfit] at hPow hE1
             replace hPow : ∀ W', Below W.heap.size W W' → Calls Tryz.prog 94 #[iv n1 A1 l1.length c1, .int .i64 (t : Int)] W' (fun e w' => ∃ s A c l, e = .returned (.agg #[.bool s, .slice A (List.length l) c, .int .i64 0]) ∧ IV w' s A c l pw ∧ Below W'.heap.size W' w') := hPow
             have lpw : Lz 300 pw := ⟨hfit⟩
             clear hfit
             rw [if_pos hn0, show (10 : Int) ^ (m + 20) = 10 ^ m * 10 ^ 20 from Int.pow_add ..] at hE1
             have hT := fun W' => Ten_i m (by omega) W'
             have tb := lz_ten_big m (by omega)
             have hU := fun W' s A c l s' A' c' l' (I : IV W' s A c l (10 ^ m)) (I' : IV W' s' A' c' l' pw) => units_i s s' A A' c c' l l' (10 ^ m) pw W' I I' tb lpw (by decide) (by decide) hpw0.out
             rw [hE1] at hU
             clear hE1 tb lpw hpw0
             generalize (10 : Int) ^ m = tp at *
             clear hk0 hk1 hm28
             go_enter Tryz.func21, Tryz.ntmps21
             go_upto_region 13 with first
              | (go_at_call 94; have hmark := q6; refine (hPow _ q6).mono ?_; rintro e w7 ⟨s7, A7, c7, l7, rfl, I7, b7⟩; have q7 := q6.trans (b7.mono q6.size); clear x0 x1 x2 x3 x4 x5 e0 e1 e2 e3 e4 e5 e6 f0 f1 f2 f3 f4 f5 f6; obtain ⟨x0, x1, x2, x3, x4, x5⟩ := cL6 (K0.on q7).h; obtain ⟨e0, e1, e2, e3, e4, e5, e6⟩ := cL7 (K1.on q7).h; obtain ⟨f0, f1, f2, f3, f4, f5, f6⟩ := fZ7 (K1.on q7).h)
              | (go_at_call 93; have hmark := b5; refine (hzc _ b5).mono ?_; rintro e w6 ⟨rfl, b6⟩; have q6 := b5.trans (b6.mono b5.size); clear x0 x1 x2 x3 x4 x5 e0 e1 e2 e3 e4 e5 e6 f0 f1 f2 f3 f4 f5 f6; obtain ⟨x0, x1, x2, x3, x4, x5⟩ := cL6 (K0.on q6).h; obtain ⟨e0, e1, e2, e3, e4, e5, e6⟩ := cL7 (K1.on q6).h; obtain ⟨f0, f1, f2, f3, f4, f5, f6⟩ := fZ7 (K1.on q6).h)
              | (go_at_call 31; refine his.mono ?_; rintro e w5 ⟨rfl, b5⟩; clear x0 x1 x2 x3 x4 x5 e0 e1 e2 e3 e4 e5 e6 f0 f1 f2 f3 f4 f5 f6; obtain ⟨x0, x1, x2, x3, x4, x5⟩ := cL6 (K0.on b5).h; obtain ⟨e0, e1, e2, e3, e4, e5, e6⟩ := cL7 (K1.on b5).h; obtain ⟨f0, f1, f2, f3, f4, f5, f6⟩ := fZ7 (K1.on b5).h)
             obtain ⟨W8, hW8, hbW8, Q0, hszW8⟩ := box1 w7 #[.bool s7, .slice A7 l7.length c7, .int .i64 0] 68
             rw [hW8]
             have b8 := q7.trans (hbW8.mono q7.size)
             have hb8 := hbW.trans (b8.mono hbW.size)
             have I8 := I7.on hbW8
             have lw8 := q7.size
             have lw9 := hszW.out
             replace K0 := K0.on b8
             replace K1 := K1.on b8
             have lw10 := blk_lt K1
             clear x0 x1 x2 x3 x4 x5 e0 e1 e2 e3 e4 e5 e6 f0 f1 f2 f3 f4 f5 f6 hszW8 hW8 hW hPow his hzc J1
             obtain ⟨g0, g1, g2⟩ := cL3 Q0.h
             go_upto_region 16 with fail
             clear g0 g1 g2
             have r0 : W8.cell? ⟨w.heap.size, 1, none⟩ = some (.int .i64 (p : Int)) := cell_at K0.h 1 _ rfl
             have r1 : W8.cell? ⟨w7.heap.size, 0, none⟩ = some (.bool s7) := cell_at Q0.h 0 _ rfl
             have r2 : W8.cell? ⟨w7.heap.size, 1, none⟩ = some (.slice A7 l7.length c7) := cell_at Q0.h 1 _ rfl
             have hne0 : w.heap.size ≠ w.heap.size + 1 := by omega
             have hne1 : w7.heap.size ≠ w.heap.size + 1 := by omega
             go_region_held3 (fun w'' => w''.cell? ⟨w.heap.size, 1, none⟩ = some (.int .i64 (p : Int)) ∧ w''.cell? ⟨w7.heap.size, 0, none⟩ = some (.bool s7) ∧ w''.cell? ⟨w7.heap.size, 1, none⟩ = some (.slice A7 l7.length c7)) ((first | (with_reducible exact ⟨r0, r1, r2⟩) | (with_reducible exact rd5 ⟨r0, r1, r2⟩) | (with_reducible exact ⟨set7_ne r0 hne0, set7_ne r1 hne1, set7_ne r2 hne1⟩)))
              ((first
               | (go_at_call 95; have hmark := q9; refine (hU _ _ _ _ _ _ _ _ _ I9 (I8.on q9)).mono ?_; rintro e w10 ⟨s10, A10, c10, l10, B10, d10, rfl, I10, b10⟩; have q10 := q9.trans (b10.mono q9.size); clear r0 r1 r2; have r0 : w10.cell? ⟨w.heap.size, 1, none⟩ = some (.int .i64 (p : Int)) := cell_at (K0.on q10).h 1 _ rfl; have r1 : w10.cell? ⟨w7.heap.size, 0, none⟩ = some (.bool s7) := cell_at (Q0.on q10).h 0 _ rfl; have r2 : w10.cell? ⟨w7.heap.size, 1, none⟩ = some (.slice A7 l7.length c7) := cell_at (Q0.on q10).h 1 _ rfl; obtain ⟨e0, e1, e2, e3, e4, e5, e6⟩ := cL7 (K1.on q10).h; obtain ⟨f0, f1, f2, f3, f4, f5, f6⟩ := fZ7 (K1.on q10).h)
               | (go_at_call 35; refine (hT _).mono ?_; rintro e w9 ⟨s9, A9, c9, l9, rfl, I9, b9⟩; have q9 := (below_drew (Below.refl W8.heap.size W8)).trans b9; clear r0 r1 r2; have r0 : w9.cell? ⟨w.heap.size, 1, none⟩ = some (.int .i64 (p : Int)) := cell_at (K0.on q9).h 1 _ rfl; have r1 : w9.cell? ⟨w7.heap.size, 0, none⟩ = some (.bool s7) := cell_at (Q0.on q9).h 0 _ rfl; have r2 : w9.cell? ⟨w7.heap.size, 1, none⟩ = some (.slice A7 l7.length c7) := cell_at (Q0.on q9).h 1 _ rfl)))
             have hb10 := hb8.trans (q10.mono hb8.size)
             go_wp2_with fail
             obtain ⟨X, hX, KX, NX, OX⟩ := storeG (k' := kd E) (p' := (E.2.1 : Int)) (s' := s10) (A' := A10) (n' := l10.length) (c' := c10) (S' := ⟨#[]⟩) (B' := B10) (m' := 0) (d' := d10) (e' := E.2.2) (K1.on q10)
             rw [hX]
             exact ret_cellT rfl Tryz.underlying36 rgot_size rfl rfl KX.h rfl ⟨s10, A10, c10, l10, B10, d10, rfl, I10.nudge NX, (hb10).trans (NX.low.mono (by omega))⟩
           · rw [if_neg hfit] at hPow hE1
             replace hPow : ∀ W', Below W.heap.size W W' → Calls Tryz.prog 94 #[iv n1 A1 l1.length c1, .int .i64 (t : Int)] W' (fun e w' => ∃ s A c l, e = .returned (.agg #[.bool s, .slice A (List.length l) c, .int .i64 3]) ∧ IV w' s A c l 0 ∧ Below W'.heap.size W' w') := hPow
             replace hE1 := Lib.hid hE1.symm
             clear hfit hpw0
             clear hk0 hk1 hm28
             go_enter Tryz.func21, Tryz.ntmps21
             go_upto_region 13 with first
              | (go_at_call 94; have hmark := q6; refine (hPow _ q6).mono ?_; rintro e w7 ⟨s7, A7, c7, l7, rfl, I7, b7⟩; have q7 := q6.trans (b7.mono q6.size); clear x0 x1 x2 x3 x4 x5 e0 e1 e2 e3 e4 e5 e6 f0 f1 f2 f3 f4 f5 f6; obtain ⟨x0, x1, x2, x3, x4, x5⟩ := cL6 (K0.on q7).h; obtain ⟨e0, e1, e2, e3, e4, e5, e6⟩ := cL7 (K1.on q7).h; obtain ⟨f0, f1, f2, f3, f4, f5, f6⟩ := fZ7 (K1.on q7).h)
              | (go_at_call 93; have hmark := b5; refine (hzc _ b5).mono ?_; rintro e w6 ⟨rfl, b6⟩; have q6 := b5.trans (b6.mono b5.size); clear x0 x1 x2 x3 x4 x5 e0 e1 e2 e3 e4 e5 e6 f0 f1 f2 f3 f4 f5 f6; obtain ⟨x0, x1, x2, x3, x4, x5⟩ := cL6 (K0.on q6).h; obtain ⟨e0, e1, e2, e3, e4, e5, e6⟩ := cL7 (K1.on q6).h; obtain ⟨f0, f1, f2, f3, f4, f5, f6⟩ := fZ7 (K1.on q6).h)
              | (go_at_call 31; refine his.mono ?_; rintro e w5 ⟨rfl, b5⟩; clear x0 x1 x2 x3 x4 x5 e0 e1 e2 e3 e4 e5 e6 f0 f1 f2 f3 f4 f5 f6; obtain ⟨x0, x1, x2, x3, x4, x5⟩ := cL6 (K0.on b5).h; obtain ⟨e0, e1, e2, e3, e4, e5, e6⟩ := cL7 (K1.on b5).h; obtain ⟨f0, f1, f2, f3, f4, f5, f6⟩ := fZ7 (K1.on b5).h)
             obtain ⟨W8, hW8, hbW8, Q0, hszW8⟩ := box1 w7 #[.bool s7, .slice A7 l7.length c7, .int .i64 3] 68
             rw [hW8]
             have b8 := q7.trans (hbW8.mono q7.size)
             have hb8 := hbW.trans (b8.mono hbW.size)
             have I8 := I7.on hbW8
             have lw8 := q7.size
             have lw9 := hszW.out
             replace K0 := K0.on b8
             replace K1 := K1.on b8
             have lw10 := blk_lt K1
             clear x0 x1 x2 x3 x4 x5 e0 e1 e2 e3 e4 e5 e6 f0 f1 f2 f3 f4 f5 f6 hszW8 hW8 hW hPow his hzc J1
             obtain ⟨g0, g1, g2⟩ := cL3 Q0.h
             have e0 := cell_at K1.h 0 _ rfl
             have f0 := frozen_at K1.h 0
             have e1 := cell_at K1.h 1 _ rfl
             have f1 := frozen_at K1.h 1
             have e2 := cell_at K1.h 2 _ rfl
             have f2 := frozen_at K1.h 2
             have e3 := cell_at K1.h 3 _ rfl
             have f3 := frozen_at K1.h 3
             have e4 := cell_at K1.h 4 _ rfl
             have f4 := frozen_at K1.h 4
             have e5 := cell_at K1.h 5 _ rfl
             have f5 := frozen_at K1.h 5
             have e6 := cell_at K1.h 6 _ rfl
             have f6 := frozen_at K1.h 6
             go_wp2_with fail
             obtain ⟨X, hX, KX, NX, OX⟩ := storeG (k' := 0) (p' := 0) (s' := false) (A' := none) (n' := 0) (c' := 0) (S' := ⟨#[]⟩) (B' := none) (m' := 0) (d' := 0) (e' := 3) K1
             rw [hX]
             exact ret_cellT rfl Tryz.underlying36 rgot_size rfl rfl KX.h rfl (by rw [hE1.out]; exact retG_err 3 (by decide) ((hb8).trans (NX.low.mono (by omega))))
     · have kd' : decide (n < 0) = false := decide_eq_false hn0
       have hE1 := hE.out
       rw [if_neg (fun h => hn0 h.1)] at hE1
       clear hE
       obtain rfl : n = (t : Int) := by omega
       have hE := Lib.hid hE1
       clear hE1 hn1 hn2 ht
       by_cases hm28 : 2800 < m
       · have ke : decide ((2800 : Int) < (m : Int)) = true := decide_eq_true (by omega)
         have hE2 := hE.out
         rw [if_pos hm28] at hE2
         replace hE2 := Lib.hid hE2.symm
         clear hE hk0 hk1 hm0 ht96 hPow
         go_enter Tryz.func21, Tryz.ntmps21
         go_wp2_with (go_at_call 31; refine his.mono ?_; rintro e w5 ⟨rfl, b5⟩; clear x0 x1 x2 x3 x4 x5 e0 e1 e2 e3 e4 e5 e6 f0 f1 f2 f3 f4 f5 f6; obtain ⟨x0, x1, x2, x3, x4, x5⟩ := cL6 (K0.on b5).h; obtain ⟨e0, e1, e2, e3, e4, e5, e6⟩ := cL7 (K1.on b5).h; obtain ⟨f0, f1, f2, f3, f4, f5, f6⟩ := fZ7 (K1.on b5).h)
         have hb8 := hbW.trans (b5.mono hbW.size)
         obtain ⟨X, hX, KX, NX, OX⟩ := storeG (k' := 0) (p' := 0) (s' := false) (A' := none) (n' := 0) (c' := 0) (S' := ⟨#[]⟩) (B' := none) (m' := 0) (d' := 0) (e' := 3) (K1.on b5)
         rw [hX]
         exact ret_cellT rfl Tryz.underlying36 rgot_size rfl rfl KX.h rfl (by rw [hE2.out]; exact retG_err 3 (by decide) ((hb8).trans (NX.low.mono (by omega))))
       · have ke : decide ((2800 : Int) < (m : Int)) = false := decide_eq_false (by omega)
         have hE1 := hE.out
         rw [if_neg hm28] at hE1
         obtain ⟨pw, hpw⟩ : ∃ pw, z1 ^ t = pw := ⟨_, rfl⟩
         rw [hpw] at hE1
         have hpw0 : Hid (True) := trivial
         unfold powW at hPow
         rw [hpw] at hPow
         clear hE hpw
         by_cases hfit : (lim pw.natAbs).length ≤ 300
         · rw [if_pos hfit] at hPow hE1
           replace hPow : ∀ W', Below W.heap.size W W' → Calls Tryz.prog 94 #[iv n1 A1 l1.length c1, .int .i64 (t : Int)] W' (fun e w' => ∃ s A c l, e = .returned (.agg #[.bool s, .slice A (List.length l) c, .int .i64 0]) ∧ IV w' s A c l pw ∧ Below W'.heap.size W' w') := hPow
           have lpw : Lz 300 pw := ⟨hfit⟩
           clear hfit
           rw [if_neg hn0] at hE1
           have hT := fun W' => Ten_i m (by omega) W'
           have tb := lz_ten_big m (by omega)
           have t0 : (10 : Int) ^ m ≠ 0 := by have := ten_pos m; omega
           have hU := fun W' s A c l s' A' c' l' (I : IV W' s A c l pw) (I' : IV W' s' A' c' l' (10 ^ m)) => units_i s s' A A' c c' l l' pw (10 ^ m) W' I I' lpw tb (by decide) (by decide) t0
           clear t0
           rw [hE1] at hU
           clear hE1 tb lpw hpw0
           generalize (10 : Int) ^ m = tp at *
           clear hk0 hk1 hm28
           go_enter Tryz.func21, Tryz.ntmps21
           go_upto_region 13 with first
            | (go_at_call 94; have hmark := b5; refine (hPow _ b5).mono ?_; rintro e w7 ⟨s7, A7, c7, l7, rfl, I7, b7⟩; have q7 := b5.trans (b7.mono b5.size); clear x0 x1 x2 x3 x4 x5 e0 e1 e2 e3 e4 e5 e6 f0 f1 f2 f3 f4 f5 f6; obtain ⟨x0, x1, x2, x3, x4, x5⟩ := cL6 (K0.on q7).h; obtain ⟨e0, e1, e2, e3, e4, e5, e6⟩ := cL7 (K1.on q7).h; obtain ⟨f0, f1, f2, f3, f4, f5, f6⟩ := fZ7 (K1.on q7).h)
            | (go_at_call 31; refine his.mono ?_; rintro e w5 ⟨rfl, b5⟩; clear x0 x1 x2 x3 x4 x5 e0 e1 e2 e3 e4 e5 e6 f0 f1 f2 f3 f4 f5 f6; obtain ⟨x0, x1, x2, x3, x4, x5⟩ := cL6 (K0.on b5).h; obtain ⟨e0, e1, e2, e3, e4, e5, e6⟩ := cL7 (K1.on b5).h; obtain ⟨f0, f1, f2, f3, f4, f5, f6⟩ := fZ7 (K1.on b5).h)
           obtain ⟨W8, hW8, hbW8, Q0, hszW8⟩ := box1 w7 #[.bool s7, .slice A7 l7.length c7, .int .i64 0] 68
           rw [hW8]
           have b8 := q7.trans (hbW8.mono q7.size)
           have hb8 := hbW.trans (b8.mono hbW.size)
           have I8 := I7.on hbW8
           have lw8 := q7.size
           have lw9 := hszW.out
           replace K0 := K0.on b8
           replace K1 := K1.on b8
           have lw10 := blk_lt K1
           clear x0 x1 x2 x3 x4 x5 e0 e1 e2 e3 e4 e5 e6 f0 f1 f2 f3 f4 f5 f6 hszW8 hW8 hW hPow his hzc J1
           obtain ⟨g0, g1, g2⟩ := cL3 Q0.h
           go_upto_region 17 with fail
           clear g0 g1 g2
           have r0 : W8.cell? ⟨w.heap.size, 1, none⟩ = some (.int .i64 (p : Int)) := cell_at K0.h 1 _ rfl
           have r1 : W8.cell? ⟨w7.heap.size, 0, none⟩ = some (.bool s7) := cell_at Q0.h 0 _ rfl
           have r2 : W8.cell? ⟨w7.heap.size, 1, none⟩ = some (.slice A7 l7.length c7) := cell_at Q0.h 1 _ rfl
           have hne0 : w.heap.size ≠ w.heap.size + 1 := by omega
           have hne1 : w7.heap.size ≠ w.heap.size + 1 := by omega
           go_region_held3 (fun w'' => w''.cell? ⟨w.heap.size, 1, none⟩ = some (.int .i64 (p : Int)) ∧ w''.cell? ⟨w7.heap.size, 0, none⟩ = some (.bool s7) ∧ w''.cell? ⟨w7.heap.size, 1, none⟩ = some (.slice A7 l7.length c7)) ((first | (with_reducible exact ⟨r0, r1, r2⟩) | (with_reducible exact rd5 ⟨r0, r1, r2⟩) | (with_reducible exact ⟨set7_ne r0 hne0, set7_ne r1 hne1, set7_ne r2 hne1⟩)))
            ((first
             | (go_at_call 95; have hmark := q9; refine (hU _ _ _ _ _ _ _ _ _ (I8.on q9) I9).mono ?_; rintro e w10 ⟨s10, A10, c10, l10, B10, d10, rfl, I10, b10⟩; have q10 := q9.trans (b10.mono q9.size); clear r0 r1 r2; have r0 : w10.cell? ⟨w.heap.size, 1, none⟩ = some (.int .i64 (p : Int)) := cell_at (K0.on q10).h 1 _ rfl; have r1 : w10.cell? ⟨w7.heap.size, 0, none⟩ = some (.bool s7) := cell_at (Q0.on q10).h 0 _ rfl; have r2 : w10.cell? ⟨w7.heap.size, 1, none⟩ = some (.slice A7 l7.length c7) := cell_at (Q0.on q10).h 1 _ rfl; obtain ⟨e0, e1, e2, e3, e4, e5, e6⟩ := cL7 (K1.on q10).h; obtain ⟨f0, f1, f2, f3, f4, f5, f6⟩ := fZ7 (K1.on q10).h)
             | (go_at_call 35; refine (hT _).mono ?_; rintro e w9 ⟨s9, A9, c9, l9, rfl, I9, b9⟩; have q9 := (below_drew (Below.refl W8.heap.size W8)).trans b9; clear r0 r1 r2; have r0 : w9.cell? ⟨w.heap.size, 1, none⟩ = some (.int .i64 (p : Int)) := cell_at (K0.on q9).h 1 _ rfl; have r1 : w9.cell? ⟨w7.heap.size, 0, none⟩ = some (.bool s7) := cell_at (Q0.on q9).h 0 _ rfl; have r2 : w9.cell? ⟨w7.heap.size, 1, none⟩ = some (.slice A7 l7.length c7) := cell_at (Q0.on q9).h 1 _ rfl)))
           have hb10 := hb8.trans (q10.mono hb8.size)
           go_wp2_with fail
           obtain ⟨X, hX, KX, NX, OX⟩ := storeG (k' := kd E) (p' := (E.2.1 : Int)) (s' := s10) (A' := A10) (n' := l10.length) (c' := c10) (S' := ⟨#[]⟩) (B' := B10) (m' := 0) (d' := d10) (e' := E.2.2) (K1.on q10)
           rw [hX]
           exact ret_cellT rfl Tryz.underlying36 rgot_size rfl rfl KX.h rfl ⟨s10, A10, c10, l10, B10, d10, rfl, I10.nudge NX, (hb10).trans (NX.low.mono (by omega))⟩
         · rw [if_neg hfit] at hPow hE1
           replace hPow : ∀ W', Below W.heap.size W W' → Calls Tryz.prog 94 #[iv n1 A1 l1.length c1, .int .i64 (t : Int)] W' (fun e w' => ∃ s A c l, e = .returned (.agg #[.bool s, .slice A (List.length l) c, .int .i64 3]) ∧ IV w' s A c l 0 ∧ Below W'.heap.size W' w') := hPow
           replace hE1 := Lib.hid hE1.symm
           clear hfit hpw0
           clear hk0 hk1 hm28
           go_enter Tryz.func21, Tryz.ntmps21
           go_upto_region 13 with first
            | (go_at_call 94; have hmark := b5; refine (hPow _ b5).mono ?_; rintro e w7 ⟨s7, A7, c7, l7, rfl, I7, b7⟩; have q7 := b5.trans (b7.mono b5.size); clear x0 x1 x2 x3 x4 x5 e0 e1 e2 e3 e4 e5 e6 f0 f1 f2 f3 f4 f5 f6; obtain ⟨x0, x1, x2, x3, x4, x5⟩ := cL6 (K0.on q7).h; obtain ⟨e0, e1, e2, e3, e4, e5, e6⟩ := cL7 (K1.on q7).h; obtain ⟨f0, f1, f2, f3, f4, f5, f6⟩ := fZ7 (K1.on q7).h)
            | (go_at_call 31; refine his.mono ?_; rintro e w5 ⟨rfl, b5⟩; clear x0 x1 x2 x3 x4 x5 e0 e1 e2 e3 e4 e5 e6 f0 f1 f2 f3 f4 f5 f6; obtain ⟨x0, x1, x2, x3, x4, x5⟩ := cL6 (K0.on b5).h; obtain ⟨e0, e1, e2, e3, e4, e5, e6⟩ := cL7 (K1.on b5).h; obtain ⟨f0, f1, f2, f3, f4, f5, f6⟩ := fZ7 (K1.on b5).h)
           obtain ⟨W8, hW8, hbW8, Q0, hszW8⟩ := box1 w7 #[.bool s7, .slice A7 l7.length c7, .int .i64 3] 68
           rw [hW8]
           have b8 := q7.trans (hbW8.mono q7.size)
           have hb8 := hbW.trans (b8.mono hbW.size)
           have I8 := I7.on hbW8
           have lw8 := q7.size
           have lw9 := hszW.out
           replace K0 := K0.on b8
           replace K1 := K1.on b8
           have lw10 := blk_lt K1
           clear x0 x1 x2 x3 x4 x5 e0 e1 e2 e3 e4 e5 e6 f0 f1 f2 f3 f4 f5 f6 hszW8 hW8 hW hPow his hzc J1
           obtain ⟨g0, g1, g2⟩ := cL3 Q0.h
           have e0 := cell_at K1.h 0 _ rfl
           have f0 := frozen_at K1.h 0
           have e1 := cell_at K1.h 1 _ rfl
           have f1 := frozen_at K1.h 1
           have e2 := cell_at K1.h 2 _ rfl
           have f2 := frozen_at K1.h 2
           have e3 := cell_at K1.h 3 _ rfl
           have f3 := frozen_at K1.h 3
           have e4 := cell_at K1.h 4 _ rfl
           have f4 := frozen_at K1.h 4
           have e5 := cell_at K1.h 5 _ rfl
           have f5 := frozen_at K1.h 5
           have e6 := cell_at K1.h 6 _ rfl
           have f6 := frozen_at K1.h 6
           go_wp2_with fail
           obtain ⟨X, hX, KX, NX, OX⟩ := storeG (k' := 0) (p' := 0) (s' := false) (A' := none) (n' := 0) (c' := 0) (S' := ⟨#[]⟩) (B' := none) (m' := 0) (d' := 0) (e' := 3) K1
           rw [hX]
           exact ret_cellT rfl Tryz.underlying36 rgot_size rfl rfl KX.h rfl (by rw [hE1.out]; exact retG_err 3 (by decide) ((hb8).trans (NX.low.mono (by omega))))
theorem RPow_calls (a : VA) (n : Int) (hn1 : -9223372036854775808 ≤ n) (hn2 : n < 9223372036854775808) (w : World) (ha : a.At w) :
 Calls Tryz.prog 21 #[a.val, .int .i64 n] w (RetG (powX a n) w) := by
 unfold powX
 cases hok : a.ok
 · rw [one_no hok]
   exact RPow_no a n w ha hok
 · rw [one_ok hok]
   obtain ⟨p, s1, A1, c1, l1, B1, d1, e1, i1, D1, -, q1⟩ := VA.destruct ha.rd.words hok
   rw [q1]
   generalize a.z = za at *
   subst e1
   exact RPow_z s1 A1 c1 l1 za p n hn1 hn2 B1 d1 w ⟨ha.rd, ha.cap, i1⟩ D1
end Dc
end Go.Proofs.YtjghnghceeijeaaGreatDoor
