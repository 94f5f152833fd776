/-
  Contracts of the walks below.
-/
import Derived.Test.YtjghnghceeijeaaGreatDoorDb31
import Derived.Test.YtjghnghceeijeaaGreatDoorDr2
import Derived.Test.YtjghnghceeijeaaGreatDoorTie
import Derived.ChangeMaps5
import Derived.Test.YtjghnghceeijeaaGreatDoorCards
import Derived.SevenTiedAt
import Derived.Lay
import Derived.HandedShaped
import Derived.Shelf.Vars
set_option maxRecDepth 100000
set_option maxHeartbeats 4000000
set_option linter.unusedVariables false
set_option linter.unusedSimpArgs false
namespace Go.Proofs.YtjghnghceeijeaaGreatDoor
namespace Dc
open Go.RowKit Go.Shelf Go.BigFrame Go.Proofs.YtjghnghceeijeaaGreatDoor.Nm
attribute [local go_sem] Oper.semAt_some
theorem rodd_z (n1 : Bool) (A1 : Option Addr) (c1 : Nat) (l1 : List Nat) (z1 : Int) (w : World) (I1 : IV w n1 A1 c1 l1 z1) :
 Calls Tryz.prog 143 #[iv n1 A1 l1.length c1] w fun e w' => e = .returned (.bool (decide (z1 % 2 = 1))) ∧ Below w.heap.size w w' := by
 obtain ⟨W, hW, hbW, K0, hszW⟩ := box1 w #[.bool n1, .slice A1 l1.length c1] 24
 have hv := I1.isZ.val
 rcases l1 with _ | ⟨x, l1⟩
 · have hz0 : z1 = 0 := by
    have : val [] = 0 := rfl
    omega
   rw [show decide (z1 % 2 = 1) = false by rw [hz0]; rfl]
   obtain ⟨x0, x1⟩ := cL2 K0.h
   clear hv hz0 I1
   simp only [List.length_nil] at hW x1
   go_enter Tryz.func143, Tryz.ntmps143
   go_wp2_with fail
   go_ret
   exact ⟨rfl, hbW⟩
 · obtain ⟨b, o, rfl⟩ := I1.rd.head (Nat.succ_pos _)
   have hcc : W.cell? ⟨b, o, none⟩ = some (.int .u32 (x : Int)) := by
    obtain ⟨b', o', e, hc⟩ := (I1.on hbW).rd.cell 0 (Nat.succ_pos _)
    cases e
    rwa [Nat.add_zero, List.getD_cons_zero] at hc
   have hx32 : x < 4294967296 := (words_cons.1 I1.rd.words).1
   have hq : (((x : Int) % 2) == 1) = decide (z1 % 2 = 1) := by
    have h1 := val_odd x l1
    rw [hv] at h1
    by_cases h2 : z1 % 2 = 1
    · rw [decide_eq_true h2, beq_iff_eq]; omega
    · rw [decide_eq_false h2, beq_eq_false_iff_ne]; omega
   obtain ⟨r, r1, r2, r3⟩ : ∃ r : Nat, (x : Int) % 2 = (r : Int) ∧ Hid (r = x % 2) ∧ r < 2 := ⟨x % 2, by omega, rfl, by omega⟩
   have r4 : (x : Int).tmod 2 = (r : Int) := by rw [Int.tmod_eq_emod_of_nonneg (by omega)]; exact r1
   rw [r1] at hq
   generalize decide (z1 % 2 = 1) = q at *
   have hl : 0 < (x :: l1).length := Nat.succ_pos _
   clear hv I1
   generalize (x :: l1).length = n at *
   have hlI : decide ((0 : Int) < (n : Int)) = true := decide_eq_true (by omega)
   obtain ⟨x0, x1⟩ := cL2 K0.h
   go_enter Tryz.func143, Tryz.ntmps143
   go_wp2_with fail
   go_ret
   exact ⟨rfl, hbW⟩
theorem Near_i (n1 n2 : Bool) (A1 A2 : Option Addr) (c1 c2 : Nat) (l1 l2 : List Nat) (z1 z2 : Int) (w : World) (I1 : IV w n1 A1 c1 l1 z1) (I2 : IV w n2 A2 c2 l2 z2) {k j : Nat} (f1 : Lz k z1) (f2 : Lz j z2) (hk : k ≤ 50000) (hj : j ≤ 50000) (h0 : z2 ≠ 0) :
 Calls Tryz.prog 133 #[iv n1 A1 l1.length c1, iv n2 A2 l2.length c2] w (RetI (nearZ z1 z2) w) := by
 obtain ⟨W, hW, hbW, K0, K1, K2, hszW⟩ := box3 w #[.bool n1, .slice A1 l1.length c1] 24 #[.bool n2, .slice A2 l2.length c2] 24 #[.bool false, .slice none 0 0] 24
 obtain ⟨x0, x1⟩ := cL2 K0.h
 obtain ⟨y0, y1⟩ := cL2 K1.h
 obtain ⟨a, ha⟩ : ∃ a, (if z2 < 0 then -z1 else z1) = a := ⟨_, rfl⟩
 obtain ⟨b, hb⟩ : ∃ b, (if z2 < 0 then -z2 else z2) = b := ⟨_, rfl⟩
 have Hsg := Lib.hid I2.sgn
 obtain ⟨Z, hZ⟩ : ∃ Z, nearZ z1 z2 = Z := ⟨_, rfl⟩
 rw [hZ]
 replace hZ : Z = nearP a b := by rw [← hZ]; unfold nearZ; rw [← ha, ← hb]; split <;> rfl
 replace hZ := Lib.hid hZ
 replace hk := Lib.hid hk
 replace hj := Lib.hid hj
 go_enter Tryz.func133, Tryz.ntmps133
 go_upto_if 8 with fail
 go_cut [] from 9 to 12 (fun wx => TwoIn w w.heap.size a b wx)
 case first =>
  by_cases hz : z2 < 0
  · rw [if_pos hz] at ha hb
    obtain rfl : n2 = true := by rw [Hsg.out, decide_eq_true hz]
    subst ha hb
    clear Hsg hz
    have q1 := rminus_i n1 A1 c1 l1 z1 W (I1.on hbW)
    have f0' := frozen_at K0.h 0
    go_upto_region 3 with (go_at_call 37; refine q1.mono ?_; rintro e w5 ⟨s5, A5, c5, l5, rfl, I5, b5⟩; obtain ⟨u0, u1⟩ := cL2 (K0.on b5).h; obtain ⟨f0, f1⟩ := fZ2 (K0.on b5).h)
    obtain ⟨X, hX, KX, NX, OX⟩ := storeI (s' := s5) (A' := A5) (n' := l5.length) (c' := c5) (K0.on b5)
    rw [hX]
    have K1X := OX.one (K1.on b5) (by omega)
    have K2X := OX.one (K2.on b5) (by omega)
    have q2 := rminus_i true A2 c2 l2 z2 X (((I2.on hbW).on b5).nudge NX)
    have I5X := I5.nudge NX
    have hbX := (hbW.trans (b5.mono hbW.size)).trans (NX.low.mono (Nat.le_refl _))
    clear hX u0 u1 f0 f1 f0'
    obtain ⟨v0, v1⟩ := cL2 K1X.h
    go_wp2_with (go_at_call 37; refine q2.mono ?_; rintro e w6 ⟨s6, A6, c6, l6, rfl, I6, b6⟩; obtain ⟨u0, u1⟩ := cL2 (K1X.on b6).h; obtain ⟨f0, f1⟩ := fZ2 (K1X.on b6).h)
    obtain ⟨Y, hY, KY, NY, OY⟩ := storeI (s' := s6) (A' := A6) (n' := l6.length) (c' := c6) (K1X.on b6)
    go_meet
    rw [hY]
    exact ⟨s5, A5, c5, l5, s6, A6, c6, l6, OY.one (KX.on b6) (by omega), KY, OY.one (K2X.on b6) (by omega), (I5X.on b6).nudge NY, I6.nudge NY, (hbX.trans (b6.mono (by have := hbX.size; omega))).trans (NY.low.mono (by omega))⟩
  · rw [if_neg hz] at ha hb
    obtain rfl : n2 = false := by rw [Hsg.out, decide_eq_false hz]
    subst ha hb
    clear Hsg hz
    go_wp2_with fail
    go_meet
    exact ⟨n1, A1, c1, l1, false, A2, c2, l2, K0, K1, K2, I1.on hbW, I2.on hbW, hbW⟩
 case rest =>
  obtain ⟨s3, A3, c3, l3, s4, A4, c4, l4, H0, H1, H2, I3, I4, hb3⟩ := hcut
  obtain ⟨u0, u1⟩ := cL2 H0.h
  obtain ⟨v0, v1⟩ := cL2 H1.h
  have hbp : 0 < b := by rw [← hb]; split <;> omega
  have fa : Lz k a := by rw [← ha]; split <;> first | exact f1.neg | exact f1
  have fb : Lz j b := by rw [← hb]; split <;> first | exact f2.neg | exact f2
  clear ha hb I1 I2 f1 f2 h0 Hsg K0 K1 K2 x0 x1 y0 y1 hW hbW hszW
  have hsp := rdiv_i s3 s4 A3 A4 c3 c4 l3 l4 a b wc I3 I4 fa fb (Nat.le_trans hk.out (by decide)) (Nat.le_trans hj.out (by decide)) hbp
  have hN : Z = if 0 < cmpZ (a % b * 2) b ∨ cmpZ (a % b * 2) b = 0 ∧ (a / b) % 2 = 1 then a / b + 1 else a / b := by
   rw [hZ.out]
   unfold nearP
   have e1 : (b < 2 * (a % b)) ↔ 0 < cmpZ (a % b * 2) b := by
    unfold cmpZ
    split
    · omega
    · split <;> omega
   have e2 : (2 * (a % b) = b) ↔ cmpZ (a % b * 2) b = 0 := by
    unfold cmpZ
    split
    · omega
    · split <;> omega
   simp only [e1, e2]
  clear hZ
  have hr1 := Int.emod_nonneg a (show b ≠ 0 by omega)
  have hr2 := Int.emod_lt_of_pos a hbp
  have fr : Lz j (a % b) := fb.le (by omega)
  have fq : Lz k (a / b) := fa.le (Int.natAbs_ediv_le_natAbs a b)
  generalize a % b = r at *
  generalize a / b = q at *
  have HN := Lib.hid hN
  replace fr := Lib.hid fr
  replace fq := Lib.hid fq
  replace fb := Lib.hid fb
  clear hN hbp hr1 hr2 fa
  go_upto_region 5 with first
   | (go_at_call 103; refine hsp.mono ?_; rintro e w5 ⟨s5, A5, c5, l5, s6, A6, c6, l6, rfl, I5, I6, b5⟩)
  obtain ⟨W7, hW7⟩ : ∃ W7, w5.alloc (.cells #[.bool s5, .slice A5 l5.length c5, .bool s6, .slice A6 l6.length c6] 111) = W7 := ⟨_, rfl⟩
  have hbW7 : Below w5.heap.size w5 W7 := by rw [← hW7]; exact al1 _ _
  have Q0 : Blk W7 w5.heap.size #[.bool s5, .slice A5 l5.length c5, .bool s6, .slice A6 l6.length c6] 111 := by rw [← hW7]; exact blk_new _ _ _
  rw [hW7]
  have hb7 := hb3.trans ((b5.trans (hbW7.mono b5.size)).mono hb3.size)
  have J4 := ((I4.on b5).on hbW7)
  have J5 := I5.on hbW7
  have J6 := I6.on hbW7
  have G1 := (H1.on b5).on hbW7
  have G2 := (H2.on b5).on hbW7
  have lw := blk_lt H2
  have lw5 := b5.size
  have a0 : W7.cell? ⟨w5.heap.size, 2, none⟩ = some (.bool s6) := cell_at Q0.h 2 _ rfl
  have a1 : W7.cell? ⟨w5.heap.size, 3, none⟩ = some (.slice A6 l6.length c6) := cell_at Q0.h 3 _ rfl
  have a2 : W7.cell? ⟨w.heap.size + 1, 0, none⟩ = some (.bool s4) := cell_at G1.h 0 _ rfl
  have a3 : W7.cell? ⟨w.heap.size + 1, 1, none⟩ = some (.slice A4 l4.length c4) := cell_at G1.h 1 _ rfl
  have htm := fun W' (h : Below W7.heap.size W7 W') s A c l (I : IV W' s A c l 2) => rtimes_i s6 s A6 A c6 c l6 l r 2 W' (J6.on h) I fr.out (Lz.small (k := 1) (by decide) (by decide)) (Nat.le_trans hj.out (by decide)) (by decide)
  have hcm := fun W' (h : Below W7.heap.size W7 W') s A c l (I : IV W' s A c l (r * 2)) => rcmp_i s s4 A A4 c c4 l l4 (r * 2) b W' I (J4.on h)
  clear hW7 hsp H0 H1 H2 I3 I4 I5 I6 u0 u1 v0 v1
  generalize cmpZ (r * 2) b = c at *
  generalize r * 2 = r2 at *
  go_region_held3 (fun w'' => w''.cell? ⟨w5.heap.size, 2, none⟩ = some (.bool s6) ∧ w''.cell? ⟨w5.heap.size, 3, none⟩ = some (.slice A6 l6.length c6) ∧ w''.cell? ⟨w.heap.size + 1, 0, none⟩ = some (.bool s4) ∧ w''.cell? ⟨w.heap.size + 1, 1, none⟩ = some (.slice A4 l4.length c4)) ((first | (with_reducible exact ⟨a0, a1, a2, a3⟩) | exact ⟨a0, a1, a2, a3⟩))
   ((first
    | (go_at_call 47; have hmark := q9; refine (hcm _ q9 _ _ _ _ I9).mono ?_; rintro e w12 ⟨rfl, b12⟩; have q12 := q9.trans (b12.mono q9.size); clear a0 a1 a2 a3; have a0 : w12.cell? ⟨w5.heap.size, 2, none⟩ = some (.bool s6) := cell_at (Q0.on q12).h 2 _ rfl; have a1 : w12.cell? ⟨w5.heap.size, 3, none⟩ = some (.slice A6 l6.length c6) := cell_at (Q0.on q12).h 3 _ rfl; have a2 : w12.cell? ⟨w.heap.size + 1, 0, none⟩ = some (.bool s4) := cell_at (G1.on q12).h 0 _ rfl; have a3 : w12.cell? ⟨w.heap.size + 1, 1, none⟩ = some (.slice A4 l4.length c4) := cell_at (G1.on q12).h 1 _ rfl)
    | (go_at_call 34; have hmark := q8; refine (htm _ q8 _ _ _ _ I8).mono ?_; rintro e w9 ⟨s9, A9, c9, l9, rfl, I9, b9⟩; have q9 := q8.trans (b9.mono q8.size); clear a0 a1 a2 a3; have a0 : w9.cell? ⟨w5.heap.size, 2, none⟩ = some (.bool s6) := cell_at (Q0.on q9).h 2 _ rfl; have a1 : w9.cell? ⟨w5.heap.size, 3, none⟩ = some (.slice A6 l6.length c6) := cell_at (Q0.on q9).h 3 _ rfl; have a2 : w9.cell? ⟨w.heap.size + 1, 0, none⟩ = some (.bool s4) := cell_at (G1.on q9).h 0 _ rfl; have a3 : w9.cell? ⟨w.heap.size + 1, 1, none⟩ = some (.slice A4 l4.length c4) := cell_at (G1.on q9).h 1 _ rfl)
    | (go_at_call 45; refine (rof_i 2 _ (by decide) (by decide)).mono ?_; rintro e w8 ⟨s8, A8, c8, l8, rfl, I8, b8⟩; have q8 := (below_drew (Below.refl W7.heap.size W7)).trans b8; clear a0 a1 a2 a3; have a0 : w8.cell? ⟨w5.heap.size, 2, none⟩ = some (.bool s6) := cell_at (Q0.on q8).h 2 _ rfl; have a1 : w8.cell? ⟨w5.heap.size, 3, none⟩ = some (.slice A6 l6.length c6) := cell_at (Q0.on q8).h 3 _ rfl; have a2 : w8.cell? ⟨w.heap.size + 1, 0, none⟩ = some (.bool s4) := cell_at (G1.on q8).h 0 _ rfl; have a3 : w8.cell? ⟨w.heap.size + 1, 1, none⟩ = some (.slice A4 l4.length c4) := cell_at (G1.on q8).h 1 _ rfl)))
  clear a0 a1 a2 a3 htm hcm
  have hb9 := hb7.trans (q12.mono hb7.size)
  have L0 := Q0.on q12
  have L2 := G2.on q12
  have M5 := J5.on q12
  have hne : w5.heap.size ≠ w.heap.size + 1 + 1 := by omega
  clear G1 G2 J4 J5 J6 Q0 I8 I9 q8 q9 b8 b9 b12 fr fb
  by_cases c0 : 0 < c
  · have hZ : Z = q + 1 := by rw [HN.out, if_pos (.inl c0)]
    have cb : decide (0 < c) = true := decide_eq_true c0
    subst hZ
    clear HN
    have d0 : w12.cell? ⟨w5.heap.size, 0, none⟩ = some (.bool s5) := cell_at L0.h 0 _ rfl
    have d1 : w12.cell? ⟨w5.heap.size, 1, none⟩ = some (.slice A5 l5.length c5) := cell_at L0.h 1 _ rfl
    have hadd := fun W' (h : Below w12.heap.size w12 W') s A c l (I : IV W' s A c l 1) => rsum_i s5 s A5 A c5 c l5 l q 1 W' (M5.on h) I fq.out (Lz.small (k := 1) (by decide) (by decide)) (Nat.le_trans hk.out (by decide)) (by decide)
    go_wp2_with fail
    go_region_held3 (fun w'' => w''.cell? ⟨w5.heap.size, 0, none⟩ = some (.bool s5) ∧ w''.cell? ⟨w5.heap.size, 1, none⟩ = some (.slice A5 l5.length c5)) ((first | (with_reducible exact ⟨d0, d1⟩) | exact ⟨d0, d1⟩ | exact ⟨cell_set_ne (cell_set_ne d0 hne) hne, cell_set_ne (cell_set_ne d1 hne) hne⟩))
     ((first
      | (go_at_call 46; have hmark := q10; refine (hadd _ q10 _ _ _ _ I10).mono ?_; rintro e w11 ⟨s11, A11, c11, l11, rfl, I11, b11⟩; clear d0 d1; have q11 := q10.trans (b11.mono q10.size); have d0 : w11.cell? ⟨w5.heap.size, 0, none⟩ = some (.bool s5) := cell_at (L0.on q11).h 0 _ rfl; have d1 : w11.cell? ⟨w5.heap.size, 1, none⟩ = some (.slice A5 l5.length c5) := cell_at (L0.on q11).h 1 _ rfl; obtain ⟨e0, e1⟩ := cL2 (L2.on q11).h; obtain ⟨f0, f1⟩ := fZ2 (L2.on q11).h)
      | (go_at_call 45; refine (rof_i 1 _ (by decide) (by decide)).mono ?_; rintro e w10 ⟨s10, A10, c10, l10, rfl, I10, b10⟩; clear d0 d1; have q10 := (below_drew (Below.refl w12.heap.size w12)).trans b10; have d0 : w10.cell? ⟨w5.heap.size, 0, none⟩ = some (.bool s5) := cell_at (L0.on q10).h 0 _ rfl; have d1 : w10.cell? ⟨w5.heap.size, 1, none⟩ = some (.slice A5 l5.length c5) := cell_at (L0.on q10).h 1 _ rfl)))
    go_wp2_with fail
    exact ret_cell rfl rfl rfl (set_blk (set_blk (L2.on q11).h 0 _) 1 _) (retI_end I11 (L2.on q11) (hb9.trans (q11.mono hb9.size)) (by omega))
  · have cb : decide (0 < c) = false := decide_eq_false c0
    by_cases c1 : c = 0
    · subst c1
      have d0 : w12.cell? ⟨w5.heap.size, 0, none⟩ = some (.bool s5) := cell_at L0.h 0 _ rfl
      have d1 : w12.cell? ⟨w5.heap.size, 1, none⟩ = some (.slice A5 l5.length c5) := cell_at L0.h 1 _ rfl
      have hod := rodd_z s5 A5 c5 l5 q w12 M5
      by_cases hq : q % 2 = 1
      · have hZ : Z = q + 1 := by rw [HN.out, if_pos (.inr ⟨rfl, hq⟩)]
        subst hZ
        rw [decide_eq_true hq] at hod
        clear HN hq
        go_upto_region 7 with first
         | (go_at_call 143; refine hod.mono ?_; rintro e w13 ⟨rfl, b13⟩; replace L0 := L0.on b13; replace L2 := L2.on b13; replace M5 := M5.on b13; replace hb9 := hb9.trans (b13.mono hb9.size))
        clear d0 d1
        have d0 : w13.cell? ⟨w5.heap.size, 0, none⟩ = some (.bool s5) := cell_at L0.h 0 _ rfl
        have d1 : w13.cell? ⟨w5.heap.size, 1, none⟩ = some (.slice A5 l5.length c5) := cell_at L0.h 1 _ rfl
        have hadd := fun W' (h : Below w13.heap.size w13 W') s A c l (I : IV W' s A c l 1) => rsum_i s5 s A5 A c5 c l5 l q 1 W' (M5.on h) I fq.out (Lz.small (k := 1) (by decide) (by decide)) (Nat.le_trans hk.out (by decide)) (by decide)
        go_wp2_with fail
        go_region_held3 (fun w'' => w''.cell? ⟨w5.heap.size, 0, none⟩ = some (.bool s5) ∧ w''.cell? ⟨w5.heap.size, 1, none⟩ = some (.slice A5 l5.length c5)) ((first | (with_reducible exact ⟨d0, d1⟩) | exact ⟨d0, d1⟩ | exact ⟨cell_set_ne (cell_set_ne d0 hne) hne, cell_set_ne (cell_set_ne d1 hne) hne⟩))
         ((first
          | (go_at_call 46; have hmark := q10; refine (hadd _ q10 _ _ _ _ I10).mono ?_; rintro e w11 ⟨s11, A11, c11, l11, rfl, I11, b11⟩; clear d0 d1; have q11 := q10.trans (b11.mono q10.size); have d0 : w11.cell? ⟨w5.heap.size, 0, none⟩ = some (.bool s5) := cell_at (L0.on q11).h 0 _ rfl; have d1 : w11.cell? ⟨w5.heap.size, 1, none⟩ = some (.slice A5 l5.length c5) := cell_at (L0.on q11).h 1 _ rfl; obtain ⟨e0, e1⟩ := cL2 (L2.on q11).h; obtain ⟨f0, f1⟩ := fZ2 (L2.on q11).h)
          | (go_at_call 45; refine (rof_i 1 _ (by decide) (by decide)).mono ?_; rintro e w10 ⟨s10, A10, c10, l10, rfl, I10, b10⟩; clear d0 d1; have q10 := (below_drew (Below.refl w13.heap.size w13)).trans b10; have d0 : w10.cell? ⟨w5.heap.size, 0, none⟩ = some (.bool s5) := cell_at (L0.on q10).h 0 _ rfl; have d1 : w10.cell? ⟨w5.heap.size, 1, none⟩ = some (.slice A5 l5.length c5) := cell_at (L0.on q10).h 1 _ rfl)))
        go_wp2_with fail
        exact ret_cell rfl rfl rfl (set_blk (set_blk (L2.on q11).h 0 _) 1 _) (retI_end I11 (L2.on q11) (hb9.trans (q11.mono hb9.size)) (by omega))
      · have hZ : Z = q := by rw [HN.out, if_neg (by omega)]
        subst hZ
        rw [decide_eq_false hq] at hod
        clear HN hq
        go_wp2_with first
         | (go_at_call 143; refine hod.mono ?_; rintro e w13 ⟨rfl, b13⟩; replace L0 := L0.on b13; replace L2 := L2.on b13; replace M5 := M5.on b13; replace hb9 := hb9.trans (b13.mono hb9.size); obtain ⟨i0, i1⟩ := cL2 L0.h; obtain ⟨e0, e1⟩ := cL2 L2.h; obtain ⟨f0, f1⟩ := fZ2 L2.h)
        exact ret_cell rfl rfl rfl (set_blk (set_blk L2.h 0 _) 1 _) (retI_end M5 L2 hb9 (by omega))
    · have hZ : Z = q := by rw [HN.out, if_neg (by omega)]
      have cc : (c == 0) = false := beq_eq_false_iff_ne.2 c1
      subst hZ
      clear HN c1
      obtain ⟨i0, i1⟩ := cL2 L0.h
      obtain ⟨e0, e1⟩ := cL2 L2.h
      obtain ⟨f0, f1⟩ := fZ2 L2.h
      go_wp2_with fail
      exact ret_cell rfl rfl rfl (set_blk (set_blk L2.h 0 _) 1 _) (retI_end M5 L2 hb9 (by omega))
theorem set2_ne {W : World} {a i g : Nat} {x0 x1 : Value} {v : Value} (h : W.cell? ⟨a, i, none⟩ = some v) (hne : a ≠ g) : ((W.setCell ⟨g, 0, none⟩ x0).setCell ⟨g, 1, none⟩ x1).cell? ⟨a, i, none⟩ = some v := cell_set_ne (cell_set_ne h hne) hne
theorem set7_ne {W : World} {a i g : Nat} {x0 x1 x2 x3 x4 x5 x6 : Value} {v : Value} (h : W.cell? ⟨a, i, none⟩ = some v) (hne : a ≠ g) : (((((((W.setCell ⟨g, 0, none⟩ x0).setCell ⟨g, 1, none⟩ x1).setCell ⟨g, 2, none⟩ x2).setCell ⟨g, 3, none⟩ x3).setCell ⟨g, 4, none⟩ x4).setCell ⟨g, 5, none⟩ x5).setCell ⟨g, 6, none⟩ x6).cell? ⟨a, i, none⟩ = some v := cell_set_ne (cell_set_ne (cell_set_ne (cell_set_ne (cell_set_ne (cell_set_ne (cell_set_ne h hne) hne) hne) hne) hne) hne) hne
theorem wcells_no {e : Int} {s : Bool} {A : Option Addr} {n c : Nat} (i x : Nat) : ((#[.bool s, .slice A n c, .int .i64 e] : Array Value))[i]? ≠ some (.int .u32 (x : Int)) := by
 intro h
 rcases i with _ | _ | _ | i <;> simp at h
theorem storeW {W : World} {g : Nat} {t : TypeId} {e e' : Int} {s s' : Bool} {A A' : Option Addr} {n c n' c' : Nat} (h : Blk W g #[.bool s, .slice A n c, .int .i64 e] t) :
 ∃ X, (((W.setCell ⟨g, 0, none⟩ (.bool s')).setCell ⟨g, 1, none⟩ (.slice A' n' c')).setCell ⟨g, 2, none⟩ (.int .i64 e')) = X ∧ Blk X g #[.bool s', .slice A' n' c', .int .i64 e'] t ∧ Nudge g W X ∧ Off (fun k => k = g) W X := by
 have h0 : Blk (W.setCell ⟨g, 0, none⟩ (.bool s')) g #[.bool s', .slice A n c, .int .i64 e] t := ⟨set_blk h.h 0 _⟩
 have q0 : Nudge g W (W.setCell ⟨g, 0, none⟩ (.bool s')) := (Nudge.of_below (.refl _ W) (Nat.le_of_lt (blk_lt h))).set (Nat.le_refl _) h wcells_no 0 _
 have o0 : Off (fun k => k = g) W (W.setCell ⟨g, 0, none⟩ (.bool s')) := (Off.refl (fun k => k = g) W).set (.inl rfl) 0 _
 generalize W.setCell ⟨g, 0, none⟩ (.bool s') = X0 at *
 have h1 : Blk (X0.setCell ⟨g, 1, none⟩ (.slice A' n' c')) g #[.bool s', .slice A' n' c', .int .i64 e] t := ⟨set_blk h0.h 1 _⟩
 have q1 : Nudge g W (X0.setCell ⟨g, 1, none⟩ (.slice A' n' c')) := q0.set (Nat.le_refl _) h0 wcells_no 1 _
 have o1 : Off (fun k => k = g) W (X0.setCell ⟨g, 1, none⟩ (.slice A' n' c')) := o0.set (.inl rfl) 1 _
 generalize X0.setCell ⟨g, 1, none⟩ (.slice A' n' c') = X1 at *
 have h2 : Blk (X1.setCell ⟨g, 2, none⟩ (.int .i64 e')) g #[.bool s', .slice A' n' c', .int .i64 e'] t := ⟨set_blk h1.h 2 _⟩
 have q2 : Nudge g W (X1.setCell ⟨g, 2, none⟩ (.int .i64 e')) := q1.set (Nat.le_refl _) h1 wcells_no 2 _
 have o2 : Off (fun k => k = g) W (X1.setCell ⟨g, 2, none⟩ (.int .i64 e')) := o1.set (.inl rfl) 2 _
 generalize X1.setCell ⟨g, 2, none⟩ (.int .i64 e') = X2 at *
 exact ⟨_, rfl, h2, q2, o2⟩
theorem rwhole_size : (Tryz.prog.info? 68).map (·.size) = some 3 := by kernel_rfl
def RetWh (x : Int × Int) (w : World) (e : Ending) (w' : World) : Prop := ∃ s A c l, e = .returned (.agg #[.bool s, .slice A l.length c, .int .i64 x.2]) ∧ IV w' s A c l x.1 ∧ Below w.heap.size w w'
theorem retWh_end {x : Int × Int} {w X : World} {s : Bool} {A : Option Addr} {c : Nat} {l : List Nat} {e : Int} (he : e = x.2) (I : IV X s A c l x.1) (hb : Below w.heap.size w X) :
 RetWh x w (.returned (.agg #[.bool s, .slice A l.length c, .int .i64 e])) X := ⟨s, A, c, l, by rw [he], I, hb⟩
abbrev VK (w : World) (g : Nat) (k p : Int) (s : Bool) (A : Option Addr) (n c : Nat) (S : ByteArray) (B : Option Addr) (m d : Nat) : Prop :=
 w.cell? ⟨g, 0, none⟩ = some (.int .i64 k) ∧ w.cell? ⟨g, 1, none⟩ = some (.int .i64 p) ∧ w.cell? ⟨g, 2, none⟩ = some (.bool s) ∧ w.cell? ⟨g, 3, none⟩ = some (.slice A n c) ∧ w.cell? ⟨g, 4, none⟩ = some (.string S) ∧ w.cell? ⟨g, 5, none⟩ = some (.slice B m d)
theorem vk_of {W W' : World} {g : Nat} {k p : Int} {s : Bool} {A : Option Addr} {n c : Nat} {S : ByteArray} {B : Option Addr} {m d : Nat} {t : TypeId} (h : Blk W g #[.int .i64 k, .int .i64 p, .bool s, .slice A n c, .string S, .slice B m d] t) (hb : Below W.heap.size W W') : VK W' g k p s A n c S B m d :=
 cL6 (h.on hb).h
end Dc
end Go.Proofs.YtjghnghceeijeaaGreatDoor
namespace Go.Proofs.YtjghnghceeijeaaGreatDoor
namespace Dc
open Go.ChangeShapes Go.WideShapes Go.ChangeAt Go.WideMaps Go.WideElems Go.RowKit Go.Shelf Go.Proofs.YtjghnghceeijeaaGreatDoor.Nm
theorem laidOut : laidOutB Tryz.prog = true := by kernel_rfl
theorem gDigits : Tryz.prog.globalNamed "zermelo/num.digits" = some 0 := by kernel_rfl
theorem tDigits : (Tryz.prog.globals[0]?).map (·.type) = some 168 := by kernel_rfl
theorem uDigits : Tryz.prog.underlying 168 = some (.array 36 5) := by kernel_rfl
theorem uByte : Tryz.prog.underlying 5 = some (.int .u8) := by kernel_rfl
def tabZ : List Int := [48, 49, 50, 51, 52, 53, 54, 55, 56, 57, 97, 98, 99, 100, 101, 102, 103, 104, 105, 106, 107, 108, 109, 110, 111, 112, 113, 114, 115, 116, 117, 118, 119, 120, 121, 122]
abbrev laidZ : List (String × DataW Unit) := [("unicode/utf8.acceptRanges", Rows.laid_unicode_utf8_acceptRanges), ("zermelo/num.digits", Rows.laid_zermelo_num_digits), ("unicode/utf8.first", Rows.laid_unicode_utf8_first)]
theorem tab_second {P : Program} {W : World} {x : String × DataW Unit} {name : String} {k : IntKind} {zs : List Int} {rest : List (String × DataW Unit)} {g : Nat} {t e : TypeId} {n : Nat}
 (hg : P.globalNamed name = some g) (hty : (P.globals[g]?).map (·.type) = some t) (ht : P.underlying t = some (.array n e)) (he : P.underlying e = some (.int k)) (hce : P.cellsOf e = 1) (hct : P.cellsOf t = n)
 (h : laidMet P (x :: (name, Lib.tabData k zs) :: rest) W) : Lib.TabIs P W name k zs := by
 obtain ⟨ps, ⟨_, _, _, _, _, _, _, _, _, _, ⟨g', t', cs, fuel, p, q, hg', ht', hvar, hd, _, _⟩, _⟩, _⟩ := h
 obtain rfl := Option.some.inj (hg.symm.trans hg')
 obtain rfl := Option.some.inj (hty.symm.trans ht')
 unfold Lib.TabIs
 rw [hvar, ← Lib.cells_of_tab ht he hce hct hd]
theorem dig_of_laidZ {W : World} (h : laidMetH Tryz.prog laidZ W) : DigW W := by
 rw [MakeChecks.laidMetH_plain _ _ _ (by kernel_rfl), show laidZ = ("unicode/utf8.acceptRanges", Rows.laid_unicode_utf8_acceptRanges) :: ("zermelo/num.digits", Lib.tabData .u8 tabZ) :: [("unicode/utf8.first", Rows.laid_unicode_utf8_first)] from rfl] at h
 have hT := tab_second gDigits tDigits uDigits uByte (by kernel_rfl) (by kernel_rfl) h
 intro i hi
 have hc := hT.cell gDigits i hi
 have e : ∀ i : Fin 36, tabZ.getD i.val 0 = ((chr i.val : Nat) : Int) := by decide
 rw [hc, e ⟨i, hi⟩]
end Dc
end Go.Proofs.YtjghnghceeijeaaGreatDoor
namespace Go.Proofs.YtjghnghceeijeaaGreatDoor
namespace Dc
open Go.RowKit Go.Shelf Go.BigFrame Go.Proofs.YtjghnghceeijeaaGreatDoor.Nm
attribute [local go_sem] Oper.semAt_some
theorem scaled_i (n1 : Bool) (A1 : Option Addr) (c1 : Nat) (l1 : List Nat) (z1 : Int) (p : Nat) (hp : p ≤ 20) (B1 : Option Addr) (d1 : Nat) (w : World) (I1 : IV w n1 A1 c1 l1 z1) {k : Nat} (f1 : Lz k z1) (hk : k ≤ 2000) :
 Calls Tryz.prog 121 #[(vv 3 (p : Int) n1 A1 l1.length c1 ⟨#[]⟩ B1 0 d1)] w (RetI (unitsZ z1 p) w) := by
 obtain ⟨W, hW, hbW, K0, K1, hszW⟩ := box2 w #[.int .i64 3, .int .i64 (p : Int), .bool n1, .slice A1 l1.length c1, .string ⟨#[]⟩, .slice B1 0 d1] 27 #[.bool false, .slice none 0 0] 24
 have J1 := I1.on hbW
 have hx : IntKind.i64.wrap (20 - (p : Int)) = ((20 - p : Nat) : Int) := by rw [IntKind.wrap_i64]; omega
 have hT : ∀ W' (x : Int), x = ((20 - p : Nat) : Int) → Calls Tryz.prog 35 #[.int .i64 x] W' (RetI (10 ^ (20 - p)) W') := fun W' x hx => by rw [hx]; exact Ten_i (20 - p) (by omega) W'
 have ft : Lz 3 ((10 : Int) ^ (20 - p)) := lz_ten (20 - p) (by omega)
 have hM := fun W' (h : Below W.heap.size W W') s A c l (I : IV W' s A c l (10 ^ (20 - p))) => rtimes_i n1 s A1 A c1 c l1 l z1 (10 ^ (20 - p)) W' (J1.on h) I f1 ft (by omega) (by decide)
 unfold unitsZ
 generalize (10 : Int) ^ (20 - p) = t at *
 obtain ⟨q, hq⟩ : ∃ q, 20 - p = q := ⟨_, rfl⟩
 rw [hq] at hx hT
 generalize z1 * t = m at *
 clear hq ft f1 hk I1 J1
 replace hszW := Lib.hid hszW
 go_enter Tryz.func121, Tryz.ntmps121
 go_upto_region 1 with fail
 have x1 : W.cell? ⟨w.heap.size, 1, none⟩ = some (.int .i64 (p : Int)) := cell_at K0.h 1 _ rfl
 have x2 : W.cell? ⟨w.heap.size, 2, none⟩ = some (.bool n1) := cell_at K0.h 2 _ rfl
 have x3 : W.cell? ⟨w.heap.size, 3, none⟩ = some (.slice A1 l1.length c1) := cell_at K0.h 3 _ rfl
 have hne0 : w.heap.size ≠ w.heap.size + 1 := by omega
 go_region_held3 (fun w'' => w''.cell? ⟨w.heap.size, 1, none⟩ = some (.int .i64 (p : Int)) ∧ w''.cell? ⟨w.heap.size, 2, none⟩ = some (.bool n1) ∧ w''.cell? ⟨w.heap.size, 3, none⟩ = some (.slice A1 l1.length c1)) ((first | (with_reducible exact ⟨x1, x2, x3⟩) | (with_reducible exact rd5 ⟨x1, x2, x3⟩) | (with_reducible exact ⟨set2_ne x1 hne0, set2_ne x2 hne0, set2_ne x3 hne0⟩)))
  ((first
   | (go_at_call 34; have hmark := q5; refine (hM _ q5 _ _ _ _ I5).mono ?_; rintro e w6 ⟨s6, A6, c6, l6, rfl, I6, b6⟩; have q6 := q5.trans (b6.mono q5.size); clear x1 x2 x3; have x1 : w6.cell? ⟨w.heap.size, 1, none⟩ = some (.int .i64 (p : Int)) := cell_at (K0.on q6).h 1 _ rfl; have x2 : w6.cell? ⟨w.heap.size, 2, none⟩ = some (.bool n1) := cell_at (K0.on q6).h 2 _ rfl; have x3 : w6.cell? ⟨w.heap.size, 3, none⟩ = some (.slice A1 l1.length c1) := cell_at (K0.on q6).h 3 _ rfl; obtain ⟨u0, u1⟩ := cL2 (K1.on q6).h; obtain ⟨g0, g1⟩ := fZ2 (K1.on q6).h)
   | (go_at_call 35; refine (hT _ _ rfl).mono ?_; rintro e w5 ⟨s5, A5, c5, l5, rfl, I5, b5⟩; have q5 := (below_drew (Below.refl W.heap.size W)).trans b5; clear x1 x2 x3; have x1 : w5.cell? ⟨w.heap.size, 1, none⟩ = some (.int .i64 (p : Int)) := cell_at (K0.on q5).h 1 _ rfl; have x2 : w5.cell? ⟨w.heap.size, 2, none⟩ = some (.bool n1) := cell_at (K0.on q5).h 2 _ rfl; have x3 : w5.cell? ⟨w.heap.size, 3, none⟩ = some (.slice A1 l1.length c1) := cell_at (K0.on q5).h 3 _ rfl)))
 go_wp2_with fail
 have hb6 := hbW.trans (q6.mono hbW.size)
 exact ret_cell rfl rfl rfl (set_blk (set_blk (K1.on q6).h 0 _) 1 _) (retI_end I6 (K1.on q6) hb6 (by omega))
theorem vk_drew {W : World} {a : Nat} {k p : Int} {s : Bool} {A : Option Addr} {n c : Nat} {S : ByteArray} {B : Option Addr} {m d : Nat} (h : VK W a k p s A n c S B m d) : VK W.drew a k p s A n c S B m d := h
end Dc
end Go.Proofs.YtjghnghceeijeaaGreatDoor
