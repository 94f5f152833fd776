/-
  Contracts of the walks below.
-/
import Derived.Test.YtjghnghceeijeaaGreatDoorDb31
import Derived.Test.YtjghnghceeijeaaGreatDoorDn1
import Derived.Test.YtjghnghceeijeaaGreatDoorTie
import Derived.ChangeMaps5
import Derived.Test.YtjghnghceeijeaaGreatDoorCards
import Derived.SevenTiedAt
import Derived.Lay
import Derived.HandedShaped
import Derived.Shelf.Vars
set_option maxRecDepth 100000
set_option maxHeartbeats 4000000
set_option linter.unusedVariables false
set_option linter.unusedSimpArgs false
namespace Go.Proofs.YtjghnghceeijeaaGreatDoor
namespace Dc
theorem strip_pos (z : Int) (p : Nat) (hp : 1 ≤ p) : 1 ≤ (strip z p).2 ∧ (strip z p).2 ≤ p ∧ z = (strip z p).1 * 10 ^ (p - (strip z p).2) ∧ (1 < (strip z p).2 → (strip z p).1 % 10 ≠ 0) := by
 induction p generalizing z with
 | zero => omega
 | succ p ih =>
  rcases p with _ | p
  · refine ⟨Nat.le_refl _, Nat.le_refl _, ?_, fun h => absurd h (by show ¬ 1 < 1; omega)⟩
    show z = z * 10 ^ 0
    rw [Int.pow_zero, Int.mul_one]
  · rw [strip]
    by_cases h : z % 10 = 0
    · rw [if_pos h]
      obtain ⟨h1, h2, h3, h4⟩ := ih (z / 10) (by omega)
      refine ⟨h1, by omega, ?_, h4⟩
      have e : p + 1 + 1 - (strip (z / 10) (p + 1)).2 = (p + 1 - (strip (z / 10) (p + 1)).2) + 1 := by omega
      rw [e, Int.pow_succ, ← Int.mul_assoc, ← h3]
      omega
    · rw [if_neg h]
      refine ⟨by show 1 ≤ p + 2; omega, Nat.le_refl _, ?_, fun _ => h⟩
      show z = z * 10 ^ (p + 2 - (p + 2))
      rw [Nat.sub_self, Int.pow_zero, Int.mul_one]
end Dc
end Go.Proofs.YtjghnghceeijeaaGreatDoor
namespace Go.Proofs.YtjghnghceeijeaaGreatDoor
namespace Dc
open Go.RowKit Go.Shelf Go.BigFrame Go.Proofs.YtjghnghceeijeaaGreatDoor.Nm

end Dc
end Go.Proofs.YtjghnghceeijeaaGreatDoor
namespace Go.Proofs.YtjghnghceeijeaaGreatDoor
namespace Dc
theorem mul_units (a b : Int) {p q : Nat} (hp : p ≤ 20) (hq : q ≤ 20) : nearZ (a * b * 10 ^ 20) (10 ^ p * 10 ^ q) = nearZ (unitsZ a p * unitsZ b q) (10 ^ 20) := by
 have h := nearZ_scale (n := unitsZ a p * unitsZ b q) (d := 10 ^ 20) (k := 10 ^ 20) (ten_pos 20)
 rw [← h, ← nearZ_scale (n := a * b * 10 ^ 20) (d := 10 ^ p * 10 ^ q) (k := 10 ^ (20 - p) * 10 ^ (20 - q)) (Int.mul_pos (ten_pos _) (ten_pos _))]
 have e1 : a * b * 10 ^ 20 * (10 ^ (20 - p) * 10 ^ (20 - q)) = unitsZ a p * unitsZ b q * 10 ^ 20 := by
  unfold unitsZ
  generalize (10 : Int) ^ 20 = T
  generalize (10 : Int) ^ (20 - p) = P
  generalize (10 : Int) ^ (20 - q) = Q
  simp only [Int.mul_assoc, Int.mul_comm, Int.mul_left_comm]
 have e2 : (10 : Int) ^ p * 10 ^ q * (10 ^ (20 - p) * 10 ^ (20 - q)) = 10 ^ 20 * 10 ^ 20 := by
  have h1 := ten_split hp
  have h2 := ten_split hq
  generalize (10 : Int) ^ (20 - p) = P at *
  generalize (10 : Int) ^ (20 - q) = Q at *
  generalize (10 : Int) ^ p = p1 at *
  generalize (10 : Int) ^ q = q1 at *
  calc p1 * q1 * (P * Q) = (p1 * P) * (q1 * Q) := by simp only [Int.mul_assoc, Int.mul_comm, Int.mul_left_comm]
   _ = 10 ^ 20 * 10 ^ 20 := by rw [← h1, ← h2]
 rw [e1, e2]
end Dc
end Go.Proofs.YtjghnghceeijeaaGreatDoor
namespace Go.Proofs.YtjghnghceeijeaaGreatDoor
namespace Dc
open Go.RowKit Go.Shelf Go.BigFrame Go.Proofs.YtjghnghceeijeaaGreatDoor.Nm
attribute [local go_sem] Oper.semAt_some
def mulX (a b : VA) : DR := two a b (stripE (nearZ (a.u * b.u) (10 ^ 20)))
theorem mul1_z (n1 n2 : Bool) (A1 A2 : Option Addr) (c1 c2 : Nat) (l1 l2 : List Nat) (z1 z2 : Int) (p q : Nat) (B1 B2 : Option Addr) (d1 d2 g : Nat) (hp : p ≤ 20) (hq : q ≤ 20) (w : World) (I1 : IV w n1 A1 c1 l1 z1) (I2 : IV w n2 A2 c2 l2 z2) (f1 : Lz 40 z1) (f2 : Lz 40 z2) (hP : Pows w g) :
 Calls Tryz.prog 117 #[(vv 3 (p : Int) n1 A1 l1.length c1 ⟨#[]⟩ B1 0 d1), (vv 3 (q : Int) n2 A2 l2.length c2 ⟨#[]⟩ B2 0 d2), Value.func (.func 150) #[] #[.pointer (some ⟨g, 0, none⟩)]] w (RetI2 (z1 * z2) (10 ^ p * 10 ^ q) w) := by
 obtain ⟨W, hW, hbW, K0, K1, K2, K3, hszW⟩ := box4 w #[.int .i64 3, .int .i64 (p : Int), .bool n1, .slice A1 l1.length c1, .string ⟨#[]⟩, .slice B1 0 d1] 27 #[.int .i64 3, .int .i64 (q : Int), .bool n2, .slice A2 l2.length c2, .string ⟨#[]⟩, .slice B2 0 d2] 27 #[.bool false, .slice none 0 0] 24 #[.bool false, .slice none 0 0] 24
 have P0 := hP.on hbW
 have J1 := I1.on hbW
 have J2 := I2.on hbW
 have T1 := fun W' (h : Below W.heap.size W W') => powers1_z g p (by omega) W' (P0.on h)
 have T2 := fun W' (h : Below W.heap.size W W') => powers1_z g q (by omega) W' (P0.on h)
 have t1 := lz_ten p (by omega)
 have t2 := lz_ten q (by omega)
 have M1 := fun W' (h : Below W.heap.size W W') => mul_z n1 n2 A1 A2 c1 c2 l1 l2 z1 z2 W' (J1.on h) (J2.on h) (f1.mono (by decide)) (f2.mono (by decide)) ((f1.mul f2).mono (by decide))
 have M2 := fun W' s A c l s' A' c' l' (I : IV W' s A c l (10 ^ p)) (I' : IV W' s' A' c' l' (10 ^ q)) => mul_z s s' A A' c c' l l' (10 ^ p) (10 ^ q) W' I I' (t1.mono (by decide)) (t2.mono (by decide)) ((t1.mul t2).mono (by decide))
 have r0 : W.cell? ⟨w.heap.size, 1, none⟩ = some (.int .i64 (p : Int)) := cell_at (K0.on (Below.refl W.heap.size W)).h 1 _ rfl
 have r1 : W.cell? ⟨w.heap.size, 2, none⟩ = some (.bool n1) := cell_at (K0.on (Below.refl W.heap.size W)).h 2 _ rfl
 have r2 : W.cell? ⟨w.heap.size, 3, none⟩ = some (.slice A1 l1.length c1) := cell_at (K0.on (Below.refl W.heap.size W)).h 3 _ rfl
 have r3 : W.cell? ⟨w.heap.size + 1, 1, none⟩ = some (.int .i64 (q : Int)) := cell_at (K1.on (Below.refl W.heap.size W)).h 1 _ rfl
 have r4 : W.cell? ⟨w.heap.size + 1, 2, none⟩ = some (.bool n2) := cell_at (K1.on (Below.refl W.heap.size W)).h 2 _ rfl
 have r5 : W.cell? ⟨w.heap.size + 1, 3, none⟩ = some (.slice A2 l2.length c2) := cell_at (K1.on (Below.refl W.heap.size W)).h 3 _ rfl
 generalize z1 * z2 = zz at *
 generalize (10 : Int) ^ p * 10 ^ q = tt at *
 generalize (10 : Int) ^ p = tp at *
 generalize (10 : Int) ^ q = tq at *
 clear t1 t2 f1 f2 hP P0 J1 J2 I1 I2
 replace hp := Lib.hid hp
 replace hq := Lib.hid hq
 go_enter Tryz.func117, Tryz.ntmps117
 go_upto_region 1 with fail
 go_region_held3 (fun w'' => w''.cell? ⟨w.heap.size, 1, none⟩ = some (.int .i64 (p : Int)) ∧ w''.cell? ⟨w.heap.size, 2, none⟩ = some (.bool n1) ∧ w''.cell? ⟨w.heap.size, 3, none⟩ = some (.slice A1 l1.length c1) ∧ w''.cell? ⟨w.heap.size + 1, 1, none⟩ = some (.int .i64 (q : Int)) ∧ w''.cell? ⟨w.heap.size + 1, 2, none⟩ = some (.bool n2) ∧ w''.cell? ⟨w.heap.size + 1, 3, none⟩ = some (.slice A2 l2.length c2)) ((first | (with_reducible exact ⟨r0, r1, r2, r3, r4, r5⟩) | (with_reducible exact drew6 ⟨r0, r1, r2, r3, r4, r5⟩) | (refine ⟨?_, ?_, ?_, ?_, ?_, ?_⟩ <;> (repeat' (with_reducible first | exact r0 | exact r1 | exact r2 | exact r3 | exact r4 | exact r5 | (apply cell_ne (by omega)))))))
  ((first
   | (go_at_call 87; have hmark := q12; refine (M2 _ _ _ _ _ _ _ _ _ (I11.on b12) I12).mono ?_; rintro e w13 ⟨s13, A13, c13, l13, rfl, I13, b13⟩; clear r0 r1 r2 r3 r4 r5; have q13 := q12.trans (b13.mono q12.size); have r0 : w13.cell? ⟨w.heap.size, 1, none⟩ = some (.int .i64 (p : Int)) := cell_at (K0.on q13).h 1 _ rfl; have r1 : w13.cell? ⟨w.heap.size, 2, none⟩ = some (.bool n1) := cell_at (K0.on q13).h 2 _ rfl; have r2 : w13.cell? ⟨w.heap.size, 3, none⟩ = some (.slice A1 l1.length c1) := cell_at (K0.on q13).h 3 _ rfl; have r3 : w13.cell? ⟨w.heap.size + 1, 1, none⟩ = some (.int .i64 (q : Int)) := cell_at (K1.on q13).h 1 _ rfl; have r4 : w13.cell? ⟨w.heap.size + 1, 2, none⟩ = some (.bool n2) := cell_at (K1.on q13).h 2 _ rfl; have r5 : w13.cell? ⟨w.heap.size + 1, 3, none⟩ = some (.slice A2 l2.length c2) := cell_at (K1.on q13).h 3 _ rfl; obtain ⟨u0, u1⟩ := cL2 (K2.on q13).h; obtain ⟨v0, v1⟩ := cL2 (K3.on q13).h; obtain ⟨f0, f1⟩ := fZ2 (K2.on q13).h; obtain ⟨e0, e1⟩ := fZ2 (K3.on q13).h)
   | (go_at_call 150; have hmark := q11; refine (T2 _ q11).mono ?_; rintro e w12 ⟨s12, A12, c12, l12, rfl, I12, b12⟩; clear r0 r1 r2 r3 r4 r5; have q12 := q11.trans (b12.mono q11.size); have r0 : w12.cell? ⟨w.heap.size, 1, none⟩ = some (.int .i64 (p : Int)) := cell_at (K0.on q12).h 1 _ rfl; have r1 : w12.cell? ⟨w.heap.size, 2, none⟩ = some (.bool n1) := cell_at (K0.on q12).h 2 _ rfl; have r2 : w12.cell? ⟨w.heap.size, 3, none⟩ = some (.slice A1 l1.length c1) := cell_at (K0.on q12).h 3 _ rfl; have r3 : w12.cell? ⟨w.heap.size + 1, 1, none⟩ = some (.int .i64 (q : Int)) := cell_at (K1.on q12).h 1 _ rfl; have r4 : w12.cell? ⟨w.heap.size + 1, 2, none⟩ = some (.bool n2) := cell_at (K1.on q12).h 2 _ rfl; have r5 : w12.cell? ⟨w.heap.size + 1, 3, none⟩ = some (.slice A2 l2.length c2) := cell_at (K1.on q12).h 3 _ rfl)
   | (go_at_call 150; have hmark := q10; refine (T1 _ q10).mono ?_; rintro e w11 ⟨s11, A11, c11, l11, rfl, I11, b11⟩; clear r0 r1 r2 r3 r4 r5; have q11 := q10.trans (b11.mono q10.size); have r0 : w11.cell? ⟨w.heap.size, 1, none⟩ = some (.int .i64 (p : Int)) := cell_at (K0.on q11).h 1 _ rfl; have r1 : w11.cell? ⟨w.heap.size, 2, none⟩ = some (.bool n1) := cell_at (K0.on q11).h 2 _ rfl; have r2 : w11.cell? ⟨w.heap.size, 3, none⟩ = some (.slice A1 l1.length c1) := cell_at (K0.on q11).h 3 _ rfl; have r3 : w11.cell? ⟨w.heap.size + 1, 1, none⟩ = some (.int .i64 (q : Int)) := cell_at (K1.on q11).h 1 _ rfl; have r4 : w11.cell? ⟨w.heap.size + 1, 2, none⟩ = some (.bool n2) := cell_at (K1.on q11).h 2 _ rfl; have r5 : w11.cell? ⟨w.heap.size + 1, 3, none⟩ = some (.slice A2 l2.length c2) := cell_at (K1.on q11).h 3 _ rfl)
   | (go_at_call 87; refine (M1 _ (below_drew (Below.refl W.heap.size W))).mono ?_; rintro e w10 ⟨s10, A10, c10, l10, rfl, I10, b10⟩; clear r0 r1 r2 r3 r4 r5; have q10 := (below_drew (Below.refl W.heap.size W)).trans b10; have r0 : w10.cell? ⟨w.heap.size, 1, none⟩ = some (.int .i64 (p : Int)) := cell_at (K0.on q10).h 1 _ rfl; have r1 : w10.cell? ⟨w.heap.size, 2, none⟩ = some (.bool n1) := cell_at (K0.on q10).h 2 _ rfl; have r2 : w10.cell? ⟨w.heap.size, 3, none⟩ = some (.slice A1 l1.length c1) := cell_at (K0.on q10).h 3 _ rfl; have r3 : w10.cell? ⟨w.heap.size + 1, 1, none⟩ = some (.int .i64 (q : Int)) := cell_at (K1.on q10).h 1 _ rfl; have r4 : w10.cell? ⟨w.heap.size + 1, 2, none⟩ = some (.bool n2) := cell_at (K1.on q10).h 2 _ rfl; have r5 : w10.cell? ⟨w.heap.size + 1, 3, none⟩ = some (.slice A2 l2.length c2) := cell_at (K1.on q10).h 3 _ rfl)))
 obtain ⟨X, hX, KX, NX, OX⟩ := storeI (s' := s10) (A' := A10) (n' := l10.length) (c' := c10) (K2.on q13)
 obtain ⟨Y, hY, KY, NY, OY⟩ := storeI (s' := s13) (A' := A13) (n' := l13.length) (c' := c13) (OX.one (K3.on q13) (by omega))
 rw [hX, hY]
 have N := NX.trans (NY.mono (by omega))
 have Jx := ((I10.on b11).on b12).on b13
 clear r0 r1 r2 r3 r4 r5 u0 u1 v0 v1 f0 f1 e0 e1
 go_wp2_with fail
 exact ret_cc rfl rfl rfl rfl (OY.one KX (by omega)) KY ⟨s10, A10, c10, l10, s13, A13, c13, l13, rfl, Jx.nudge N, I13.nudge N, (hbW.trans (q13.mono hbW.size)).trans (N.low.mono (by omega))⟩
theorem frac1_mul (n1 n2 : Bool) (A1 A2 : Option Addr) (c1 c2 : Nat) (l1 l2 : List Nat) (z1 z2 : Int) (p q : Nat) (B1 B2 : Option Addr) (d1 d2 ga gb go : Nat) (w : World) (Ka : Blk w ga #[.int .i64 3, .int .i64 (p : Int), .bool n1, .slice A1 l1.length c1, .string ⟨#[]⟩, .slice B1 0 d1] 27) (Kb : Blk w gb #[.int .i64 3, .int .i64 (q : Int), .bool n2, .slice A2 l2.length c2, .string ⟨#[]⟩, .slice B2 0 d2] 27) (Ko : Blk w go #[Value.func (.func 117) #[] #[]] 126) (I1 : IV w n1 A1 c1 l1 z1) (I2 : IV w n2 A2 c2 l2 z2) (D1 : IsD z1 p) (D2 : IsD z2 q) :
 Calls Tryz.prog 195 #[.pointer (some ⟨ga, 0, none⟩), .pointer (some ⟨gb, 0, none⟩), .pointer (some ⟨go, 0, none⟩)] w (PostV (fun _ => False) (if (10 : Int) ^ p * 10 ^ q = 0 then err 20 else stripE (nearZ (z1 * z2 * 10 ^ 20) ((10 : Int) ^ p * 10 ^ q))) w) := by
 obtain ⟨W, hW, hbW, K0, hszW⟩ := box1 w (vcells 0 0 false none 0 0 ⟨#[]⟩ none 0 0) 27
 have ha : (VA.mk 3 (p : Int) n1 A1 c1 l1 ⟨#[]⟩ B1 0 d1).At W := ⟨(I1.on hbW).rd, I1.cap⟩
 have hb : (VA.mk 3 (q : Int) n2 A2 c2 l2 ⟨#[]⟩ B2 0 d2).At W := ⟨(I2.on hbW).rd, I2.cap⟩
 have hdc := decimals_c W.heap.size [(VA.mk 3 (p : Int) n1 A1 c1 l1 ⟨#[]⟩ B1 0 d1), (VA.mk 3 (q : Int) n2 A2 c2 l2 ⟨#[]⟩ B2 0 d2)] (W.alloc (.cells #[.int .i64 3, .int .i64 (p : Int), .bool n1, .slice A1 l1.length c1, .string ⟨#[]⟩, .slice B1 0 d1, .int .i64 3, .int .i64 (q : Int), .bool n2, .slice A2 l2.length c2, .string ⟨#[]⟩, .slice B2 0 d2] 27)) (by simp) (vals_two (VA.mk 3 (p : Int) n1 A1 c1 l1 ⟨#[]⟩ B1 0 d1) (VA.mk 3 (q : Int) n2 A2 c2 l2 ⟨#[]⟩ B2 0 d2) _ _ ⟨World.alloc_heap_new W _⟩ (ha.on (al1 W _)) (hb.on (al1 W _))) (by simp)
 rw [decE_two, VA.ok_made I1.isZ D1, VA.ok_made I2.isZ D2, Bool.and_self, if_pos rfl] at hdc
 have hpw := fun W' => powers_z W'
 have hof := fun W' (h : Below W.heap.size W W') g (hP : Pows W' g) => mul1_z n1 n2 A1 A2 c1 c2 l1 l2 z1 z2 p q B1 B2 d1 d2 g D1.hi D2.hi W' ((I1.on hbW).on h) ((I2.on hbW).on h) D1.lz D2.lz hP
 have eN : Lz 80 (z1 * z2) := (D1.lz.mul D2.lz).mono (by decide)
 have eD : Lz 43 ((10 : Int) ^ p * 10 ^ q) := ((lz_ten p (by have := D1.hi; omega)).mul (lz_ten q (by have := D2.hi; omega))).mono (by decide)
 generalize z1 * z2 = x at *
 generalize (10 : Int) ^ p * 10 ^ q = y at *
 obtain ⟨E, hE⟩ : ∃ E, (if y = 0 then err 20 else stripE (nearZ (x * 10 ^ 20) y)) = E := ⟨_, rfl⟩
 rw [hE]
 replace hE := Lib.hid hE
 replace eN := Lib.hid eN
 replace eD := Lib.hid eD
 clear D1 D2 ha hb
 obtain ⟨x0, x1, x2, x3, x4, x5⟩ := cL6 (Ka.on hbW).h
 obtain ⟨y0, y1, y2, y3, y4, y5⟩ := cL6 (Kb.on hbW).h
 have o0 := cell_at (Ko.on hbW).h 0 _ rfl
 have a1 := al1 W (.cells #[.int .i64 3, .int .i64 (p : Int), .bool n1, .slice A1 l1.length c1, .string ⟨#[]⟩, .slice B1 0 d1, .int .i64 3, .int .i64 (q : Int), .bool n2, .slice A2 l2.length c2, .string ⟨#[]⟩, .slice B2 0 d2] 27)
 replace hszW := Lib.hid hszW
 go_enter Tryz.func195, Tryz.ntmps195
 go_upto_region 4 with first
  | (go_at_call 117; have hmark := q6; refine (hof _ q6 g P6).mono ?_; rintro e w7 ⟨s7, A7, c7, l7, s8, A8, c8, l8, rfl, I7, I8, b7⟩)
  | (go_at_call 80; have hmark := q5; refine (hpw _).mono ?_; rintro e w6 ⟨g, rfl, P6, b6, hg6⟩; have q6 := q5.trans (b6.mono q5.size); obtain ⟨x0, x1, x2, x3, x4, x5⟩ := cL6 ((Ka.on hbW).on q6).h; obtain ⟨y0, y1, y2, y3, y4, y5⟩ := cL6 ((Kb.on hbW).on q6).h; have o0 := cell_at ((Ko.on hbW).on q6).h 0 _ rfl)
  | (go_at_call 77; refine hdc.mono ?_; rintro e w5 ⟨hw, b5⟩; obtain rfl := hw.1 rfl; have q5 := a1.trans (b5.mono a1.size); obtain ⟨x0, x1, x2, x3, x4, x5⟩ := cL6 ((Ka.on hbW).on q5).h; obtain ⟨y0, y1, y2, y3, y4, y5⟩ := cL6 ((Kb.on hbW).on q5).h; have o0 := cell_at ((Ko.on hbW).on q5).h 0 _ rfl)
 obtain ⟨W8, hW8, hbW8, R0, R1, hszW8⟩ := box2 w7 #[.bool s7, .slice A7 l7.length c7] 24 #[.bool s8, .slice A8 l8.length c8] 24
 rw [hW8]
 have q7 := q6.trans (b7.mono q6.size)
 have q8 := q7.trans (hbW8.mono q7.size)
 have P8 := (P6.on b7).on hbW8
 have J7 := I7.on hbW8
 have J8 := I8.on hbW8
 have L0 := K0.on q8
 have hb8 := hbW.trans (q8.mono hbW.size)
 have lt8 : w.heap.size + 1 ≤ w7.heap.size := by have := q7.size; have := hszW.out; omega
 clear x0 x1 x2 x3 x4 x5 y0 y1 y2 y3 y4 y5 o0 hW hW8 Ka Kb Ko K0 I1 I2 I7 I8 hdc hpw hof a1 P6
 obtain ⟨u0, u1⟩ := cL2 R0.h
 obtain ⟨v0, v1⟩ := cL2 R1.h
 have hzc := zero_c s8 A8 c8 l8 y W8 J8
 by_cases hy : y = 0
 · have hE2 := hE.out
   rw [if_pos hy] at hE2
   replace hE2 := Lib.hid hE2.symm
   rw [decide_eq_true hy] at hzc
   clear hy hE
   go_wp2_with first
    | (go_at_call 78; have hmark := b9; refine (need_no 20 (by decide) _).mono ?_; rintro e w10 ⟨rfl, rfl⟩)
    | (go_at_call 79; refine hzc.mono ?_; rintro e w9 ⟨rfl, b9⟩)
   exact ⟨rfl, PostV.no hE2.out (by decide) (.of_below (hb8.trans (b9.mono hb8.size)))⟩
 · have hE2 := hE.out
   rw [if_neg hy] at hE2
   rw [decide_eq_false hy] at hzc
   have t20 := lz_ten 20 (by decide)
   have T1 := fun W' (h : Below W8.heap.size W8 W') => powers1_z g 20 (by decide) W' (P8.on h)
   have M1 := fun W' (h : Below W8.heap.size W8 W') s A c l (I : IV W' s A c l (10 ^ 20)) => mul_z s7 s A7 A c7 c l7 l x (10 ^ 20) W' (J7.on h) I (eN.out.mono (by decide)) (t20.mono (by decide)) ((eN.out.mul t20).mono (by decide))
   have e3 := eN.out.mul t20
   have N1 := fun W' (h : Below W8.heap.size W8 W') s A c l (I : IV W' s A c l (x * 10 ^ 20)) => nearest_z s s8 A A8 c c8 l l8 (x * 10 ^ 20) y W' I (J8.on h) (e3.mono (by decide)) (eD.out.mono (by decide)) hy
   have e4 := e3.near hy
   have U1 := fun W' s A c l (I : IV W' s A c l (nearZ (x * 10 ^ 20) y)) => units_z s A c l (nearZ (x * 10 ^ 20) y) W' I (e4.mono (by decide))
   rw [hE2] at U1
   clear hE2 hE e3 e4 t20 hy
   generalize nearZ (x * 10 ^ 20) y = nz at *
   generalize x * 10 ^ 20 = xt at *
   generalize (10 : Int) ^ 20 = tt at *
   go_upto_region 6 with first
    | (go_at_call 79; refine hzc.mono ?_; rintro e w9 ⟨rfl, b9⟩)
   replace u0 := cell_at (R0.on b9).h 0 _ rfl
   replace u1 := cell_at (R0.on b9).h 1 _ rfl
   replace v0 := cell_at (R1.on b9).h 0 _ rfl
   replace v1 := cell_at (R1.on b9).h 1 _ rfl
   refine wp_region_any (by kernel_rfl) ?_
   refine pT 1 (Value.func (Fn.func 150) #[] #[Value.pointer (some ⟨g, 0, none⟩)]) ?_
   try simp only [Act.put, aQ, bQ, cQ]
   refine wpAny_of_F (S := fun w'' => w''.cell? ⟨w7.heap.size, 0, none⟩ = some (.bool s7) ∧ w''.cell? ⟨w7.heap.size, 1, none⟩ = some (.slice A7 l7.length c7) ∧ w''.cell? ⟨w7.heap.size + 1, 0, none⟩ = some (.bool s8) ∧ w''.cell? ⟨w7.heap.size + 1, 1, none⟩ = some (.slice A8 l8.length c8)) (late := [7]) _ _ _ _ ?_
   refine fT 0 6 (Value.agg #[.bool s7, .slice A7 l7.length c7]) ⟨u0, u1, v0, v1⟩ ?_
   try simp only [Act.put, aQ, bQ, cQ]
   refine fT 4 6 (Value.agg #[.bool s8, .slice A8 l8.length c8]) ⟨u0, u1, v0, v1⟩ ?_
   try simp only [Act.put, aQ, bQ, cQ]
   refine wpAnyF_one (i := 2) (by kernel_rfl) rfl (fun K hK => ?_)
   go_simp
   go_at_call 150; refine (T1 _ (b9.trans (below_drew (Below.refl _ w9)))).mono ?_; rintro e w10 ⟨s10, A10, c10, l10, rfl, I10, b10⟩; have q10 := (b9.trans (below_drew (Below.refl _ w9))).trans (b10.mono b9.size); replace u0 := cell_at (R0.on q10).h 0 _ rfl; replace u1 := cell_at (R0.on q10).h 1 _ rfl; replace v0 := cell_at (R1.on q10).h 0 _ rfl; replace v1 := cell_at (R1.on q10).h 1 _ rfl
   go_wp2_with fail
   refine hK.out _ _ (Or.inr ⟨u0, u1, v0, v1⟩) ?_
   clear hK K
   try simp only [Act.put, aQ, bQ, cQ]
   refine wpAnyF_one (i := 3) (by kernel_rfl) rfl (fun K hK => ?_)
   go_simp
   go_at_call 87; refine (M1 _ q10 _ _ _ _ I10).mono ?_; rintro e w11 ⟨s11, A11, c11, l11, rfl, I11, b11⟩; have q11 := q10.trans (b11.mono q10.size); replace u0 := cell_at (R0.on q11).h 0 _ rfl; replace u1 := cell_at (R0.on q11).h 1 _ rfl; replace v0 := cell_at (R1.on q11).h 0 _ rfl; replace v1 := cell_at (R1.on q11).h 1 _ rfl
   go_wp2_with fail
   refine hK.out _ _ (Or.inr ⟨u0, u1, v0, v1⟩) ?_
   clear hK K
   try simp only [Act.put, aQ, bQ, cQ]
   refine wpAnyF_one (i := 5) (by kernel_rfl) rfl (fun K hK => ?_)
   go_simp
   go_at_call 84; refine (N1 _ q11 _ _ _ _ I11).mono ?_; rintro e w12 ⟨s12, A12, c12, l12, rfl, I12, b12⟩; have q12 := q11.trans (b12.mono q11.size); replace u0 := cell_at (R0.on q12).h 0 _ rfl; replace u1 := cell_at (R0.on q12).h 1 _ rfl; replace v0 := cell_at (R1.on q12).h 0 _ rfl; replace v1 := cell_at (R1.on q12).h 1 _ rfl
   go_wp2_with fail
   refine hK.out _ _ (Or.inr ⟨u0, u1, v0, v1⟩) ?_
   clear hK K
   try simp only [Act.put, aQ, bQ, cQ]
   refine wpAnyF_one (i := 6) (by kernel_rfl) rfl (fun K hK => ?_)
   go_simp
   go_at_call 83; refine (U1 _ _ _ _ _ I12).mono ?_; rintro e w13 ⟨o13, p13, p13'⟩; have q13 := q12.trans (o13.full.mono q12.size)
   have hb13 := hb8.trans (q13.mono hb8.size)
   by_cases h0 : E.2.2 = 0
   · obtain ⟨v, rfl, s13, A13, c13, l13, rfl, I13⟩ := p13 h0
     rw [kd_ok h0]
     have K13 := L0.on q13
     replace u0 := cell_at (R0.on q13).h 0 _ rfl; replace u1 := cell_at (R0.on q13).h 1 _ rfl; replace v0 := cell_at (R1.on q13).h 0 _ rfl; replace v1 := cell_at (R1.on q13).h 1 _ rfl
     go_wp2_with fail
     refine hK.out _ _ (Or.inr ⟨u0, u1, v0, v1⟩) ?_
     clear hK K
     try simp only [Act.put, aQ, bQ, cQ]
     obtain ⟨i0, i1, i2, i3, i4, i5⟩ := cL6 K13.h
     obtain ⟨j0, j1, j2, j3, j4, j5⟩ := fZ6 K13.h
     refine wpAnyF_one (i := 7) (by kernel_rfl) rfl (fun K hK => ?_)
     go_simp
     refine hK.out _ _ (Or.inl (by decide)) ?_
     clear hK K
     try simp only [Act.put, aQ, bQ, cQ]
     refine wpAnyF_done (by kernel_rfl) ?_ _
     obtain ⟨X, hX, KX, NX, OX⟩ := storeV (k' := 3) (p' := (E.2.1 : Int)) (s' := s13) (A' := A13) (n' := l13.length) (c' := c13) (S' := ⟨#[]⟩) (B' := none) (m' := 0) (d' := 0) K13
     rw [hX]
     go_wp2_with fail
     exact ret_cellT rfl Tryz.underlying27 val_size rfl rfl KX.h rfl ⟨.of_below (hb13.trans (NX.low.mono (by omega))), fun _ => ⟨_, rfl, s13, A13, c13, l13, by rw [kd_ok h0], I13.nudge NX⟩, fun h => absurd h0 h⟩
   · obtain rfl := p13' h0
     go_wp2_with fail
     exact ⟨rfl, .of_below hb13, fun h => absurd h h0, fun _ => rfl⟩
theorem frac1_mul_all (a b : VA) (ga gb go : Nat) (w : World) (Ka : Blk w ga #[.int .i64 a.k, .int .i64 a.p, .bool a.s, .slice a.A a.l.length a.c, .string a.S, .slice a.B a.m a.d] 27) (Kb : Blk w gb #[.int .i64 b.k, .int .i64 b.p, .bool b.s, .slice b.A b.l.length b.c, .string b.S, .slice b.B b.m b.d] 27) (Ko : Blk w go #[Value.func (.func 117) #[] #[]] 126) (ha : a.At w) (hb : b.At w) :
 Calls Tryz.prog 195 #[.pointer (some ⟨ga, 0, none⟩), .pointer (some ⟨gb, 0, none⟩), .pointer (some ⟨go, 0, none⟩)] w (PostV (fun _ => False) (mulX a b) w) := by
 unfold mulX
 cases hok : (a.ok && b.ok)
 · rw [two_no hok]
   exact frac1_no a b ga gb go w Ka Kb ha hb hok
 · rw [two_ok hok]
   rw [Bool.and_eq_true] at hok
   obtain ⟨p, s1, A1, c1, l1, B1, d1, e1, i1, D1, u1, -⟩ := VA.destruct ha.rd.words hok.1
   obtain ⟨q, s2, A2, c2, l2, B2, d2, e2, i2, D2, u2, -⟩ := VA.destruct hb.rd.words hok.2
   rw [u1, u2]
   generalize a.z = za at *
   generalize b.z = zb at *
   subst e1 e2
   have h := frac1_mul s1 s2 A1 A2 c1 c2 l1 l2 za zb p q B1 B2 d1 d2 ga gb go w Ka Kb Ko ⟨ha.rd, ha.cap, i1⟩ ⟨hb.rd, hb.cap, i2⟩ D1 D2
   rw [if_neg (by have := Int.mul_pos (ten_pos p) (ten_pos q); omega), mul_units za zb D1.hi D2.hi] at h
   exact h
theorem fraction_mul (a b : VA) (w : World) (ha : a.At w) (hb : b.At w) :
 Calls Tryz.prog 116 #[a.val, b.val, Value.func (.func 117) #[] #[]] w (RetV (mulX a b) w) := by
 have hmf := mkf
 obtain ⟨W, hW, hbW, K0, K1, K2, K3, hszW⟩ := box4 w #[.int .i64 a.k, .int .i64 a.p, .bool a.s, .slice a.A a.l.length a.c, .string a.S, .slice a.B a.m a.d] 27 #[.int .i64 b.k, .int .i64 b.p, .bool b.s, .slice b.A b.l.length b.c, .string b.S, .slice b.B b.m b.d] 27 #[Value.func (.func 117) #[] #[]] 126 (vcells 0 0 false none 0 0 ⟨#[]⟩ none 0 0) 27
 have hv := value_calls (fun _ => False) 195 #[.pointer (some ⟨w.heap.size, 0, none⟩), .pointer (some ⟨w.heap.size + 1, 0, none⟩), .pointer (some ⟨w.heap.size + 1 + 1, 0, none⟩)] (enters_of Tryz.func195 (by kernel_rfl) rfl) (mulX a b) (bare_two (bare_strip _)) W (fun _ h => h.elim) (fun _ => True) (fun W' h => Calls.mono (frac1_mul_all a b _ _ _ W' (K0.on h) (K1.on h) (K2.on h) ((ha.on hbW).on h) ((hb.on hbW).on h)) fun _ _ h => ⟨h, trivial⟩)
 obtain ⟨x, hx⟩ : ∃ x, mulX a b = x := ⟨_, rfl⟩
 rw [hx] at hv ⊢
 obtain ⟨z, p, er⟩ := x
 dsimp only at hv
 clear hx
 replace hszW := Lib.hid hszW
 go_enter Tryz.func116, Tryz.ntmps116
 go_wp2_with (go_at_call 75; refine hv.mono ?_; rintro e w5 ⟨⟨v, rfl, s5, A5, c5, l5, rfl, I5⟩, o5, -⟩; have K5 := K3.on o5.full; obtain ⟨u0, u1, u2, u3, u4, u5⟩ := cL6 K5.h; obtain ⟨f0, f1, f2, f3, f4, f5⟩ := fZ6 K5.h)
 obtain ⟨X, hX, KX, NX, OX⟩ := storeV (k' := kd (z, p, er)) (p' := (p : Int)) (s' := s5) (A' := A5) (n' := l5.length) (c' := c5) (S' := ⟨#[]⟩) (B' := none) (m' := 0) (d' := 0) K5
 rw [hX]
 have hb5 := hbW.trans (o5.full.mono hbW.size)
 exact ret_cellT_tmp rfl Tryz.underlying27 val_size rfl rfl KX.h rfl ⟨_, rfl, ⟨s5, A5, c5, l5, rfl, I5.nudge NX⟩, hb5.trans (NX.low.mono (by omega))⟩
theorem DMul_calls (a b : VA) (w : World) (ha : a.At w) (hb : b.At w) :
 Calls Tryz.prog 30 #[a.val, b.val] w (RetV (mulX a b) w) := by
 obtain ⟨W, hW, hbW, K0, K1, K2, hszW⟩ := box3 w #[.int .i64 a.k, .int .i64 a.p, .bool a.s, .slice a.A a.l.length a.c, .string a.S, .slice a.B a.m a.d] 27 #[.int .i64 b.k, .int .i64 b.p, .bool b.s, .slice b.A b.l.length b.c, .string b.S, .slice b.B b.m b.d] 27 (vcells 0 0 false none 0 0 ⟨#[]⟩ none 0 0) 27
 obtain ⟨x0_0, x0_1, x0_2, x0_3, x0_4, x0_5⟩ := cL6 K0.h
 obtain ⟨x1_0, x1_1, x1_2, x1_3, x1_4, x1_5⟩ := cL6 K1.h
 have hv := fraction_mul a b W (ha.on hbW) (hb.on hbW)
 obtain ⟨x, hx⟩ : ∃ x, mulX a b = x := ⟨_, rfl⟩
 rw [hx] at hv ⊢
 obtain ⟨z, p, er⟩ := x
 clear hx
 replace hszW := Lib.hid hszW
 go_enter Tryz.func30, Tryz.ntmps30
 go_wp2_with (go_at_call 116; refine hv.mono ?_; rintro e w5 ⟨v, rfl, ⟨s5, A5, c5, l5, rfl, I5⟩, b5⟩; have o5 : Off (fun _ => False) W w5 := .of_below b5; have K5 := K2.on b5; obtain ⟨u0, u1, u2, u3, u4, u5⟩ := cL6 K5.h; obtain ⟨f0, f1, f2, f3, f4, f5⟩ := fZ6 K5.h)
 obtain ⟨X, hX, KX, NX, OX⟩ := storeV (k' := kd (z, p, er)) (p' := (p : Int)) (s' := s5) (A' := A5) (n' := l5.length) (c' := c5) (S' := ⟨#[]⟩) (B' := none) (m' := 0) (d' := 0) K5
 rw [hX]
 have hb5 := hbW.trans (o5.full.mono hbW.size)
 exact ret_cellT_tmp rfl Tryz.underlying27 val_size rfl rfl KX.h rfl ⟨_, rfl, ⟨s5, A5, c5, l5, rfl, I5.nudge NX⟩, hb5.trans (NX.low.mono (by omega))⟩
theorem rsum_i (n1 n2 : Bool) (A1 A2 : Option Addr) (c1 c2 : Nat) (l1 l2 : List Nat) (z1 z2 : Int) (w : World) (I1 : IV w n1 A1 c1 l1 z1) (I2 : IV w n2 A2 c2 l2 z2) {k j : Nat} (f1 : Lz k z1) (f2 : Lz j z2) (hk : k ≤ 60000) (hj : j ≤ 60000) :
 Calls Tryz.prog 46 #[iv n1 A1 l1.length c1, iv n2 A2 l2.length c2] w (RetI (z1 + z2) w) :=
 (Sum_calls n1 n2 A1 A2 c1 c2 l1 l2 z1 z2 w I1.rd I2.rd I1.cap I2.cap I1.isZ I2.isZ (Nat.le_trans (I1.small f1 hk) (by decide)) (Nat.le_trans (I2.small f2 hj) (by decide))).mono fun _ _ h => .of h
theorem rminus_i (n1 : Bool) (A1 : Option Addr) (c1 : Nat) (l1 : List Nat) (z1 : Int) (w : World) (I1 : IV w n1 A1 c1 l1 z1) : Calls Tryz.prog 37 #[iv n1 A1 l1.length c1] w (RetI (-z1) w) := (Minus_calls n1 A1 c1 l1 z1 w I1.rd I1.cap I1.isZ).mono fun _ _ h => .of h
theorem rcmp_i (n1 n2 : Bool) (A1 A2 : Option Addr) (c1 c2 : Nat) (l1 l2 : List Nat) (z1 z2 : Int) (w : World) (I1 : IV w n1 A1 c1 l1 z1) (I2 : IV w n2 A2 c2 l2 z2) : Calls Tryz.prog 47 #[iv n1 A1 l1.length c1, iv n2 A2 l2.length c2] w fun e w' => e = .returned (.int .i64 (cmpZ z1 z2)) ∧ Below w.heap.size w w' := RCompare_calls n1 n2 A1 A2 c1 c2 l1 l2 z1 z2 w I1.rd I2.rd I1.cap I2.cap I1.isZ I2.isZ
theorem set2_ne {W : World} {a i g : Nat} {x0 x1 : Value} {v : Value} (h : W.cell? ⟨a, i, none⟩ = some v) (hne : a ≠ g) : ((W.setCell ⟨g, 0, none⟩ x0).setCell ⟨g, 1, none⟩ x1).cell? ⟨a, i, none⟩ = some v := cell_set_ne (cell_set_ne h hne) hne
abbrev VK (w : World) (g : Nat) (k p : Int) (s : Bool) (A : Option Addr) (n c : Nat) (S : ByteArray) (B : Option Addr) (m d : Nat) : Prop :=
 w.cell? ⟨g, 0, none⟩ = some (.int .i64 k) ∧ w.cell? ⟨g, 1, none⟩ = some (.int .i64 p) ∧ w.cell? ⟨g, 2, none⟩ = some (.bool s) ∧ w.cell? ⟨g, 3, none⟩ = some (.slice A n c) ∧ w.cell? ⟨g, 4, none⟩ = some (.string S) ∧ w.cell? ⟨g, 5, none⟩ = some (.slice B m d)
theorem vk_of {W W' : World} {g : Nat} {k p : Int} {s : Bool} {A : Option Addr} {n c : Nat} {S : ByteArray} {B : Option Addr} {m d : Nat} {t : TypeId} (h : Blk W g #[.int .i64 k, .int .i64 p, .bool s, .slice A n c, .string S, .slice B m d] t) (hb : Below W.heap.size W W') : VK W' g k p s A n c S B m d :=
 cL6 (h.on hb).h
end Dc
end Go.Proofs.YtjghnghceeijeaaGreatDoor
namespace Go.Proofs.YtjghnghceeijeaaGreatDoor
namespace Dc
open Go.ChangeShapes Go.WideShapes Go.ChangeAt Go.WideMaps Go.WideElems Go.RowKit Go.Shelf Go.Proofs.YtjghnghceeijeaaGreatDoor.Nm
theorem laidOut : laidOutB Tryz.prog = true := by kernel_rfl
theorem gDigits : Tryz.prog.globalNamed "zermelo/num.digits" = some 0 := by kernel_rfl
theorem tDigits : (Tryz.prog.globals[0]?).map (·.type) = some 168 := by kernel_rfl
theorem uDigits : Tryz.prog.underlying 168 = some (.array 36 5) := by kernel_rfl
theorem uByte : Tryz.prog.underlying 5 = some (.int .u8) := by kernel_rfl
def tabZ : List Int := [48, 49, 50, 51, 52, 53, 54, 55, 56, 57, 97, 98, 99, 100, 101, 102, 103, 104, 105, 106, 107, 108, 109, 110, 111, 112, 113, 114, 115, 116, 117, 118, 119, 120, 121, 122]
abbrev laidZ : List (String × DataW Unit) := [("unicode/utf8.acceptRanges", Rows.laid_unicode_utf8_acceptRanges), ("zermelo/num.digits", Rows.laid_zermelo_num_digits), ("unicode/utf8.first", Rows.laid_unicode_utf8_first)]
theorem tab_second {P : Program} {W : World} {x : String × DataW Unit} {name : String} {k : IntKind} {zs : List Int} {rest : List (String × DataW Unit)} {g : Nat} {t e : TypeId} {n : Nat}
 (hg : P.globalNamed name = some g) (hty : (P.globals[g]?).map (·.type) = some t) (ht : P.underlying t = some (.array n e)) (he : P.underlying e = some (.int k)) (hce : P.cellsOf e = 1) (hct : P.cellsOf t = n)
 (h : laidMet P (x :: (name, Lib.tabData k zs) :: rest) W) : Lib.TabIs P W name k zs := by
 obtain ⟨ps, ⟨_, _, _, _, _, _, _, _, _, _, ⟨g', t', cs, fuel, p, q, hg', ht', hvar, hd, _, _⟩, _⟩, _⟩ := h
 obtain rfl := Option.some.inj (hg.symm.trans hg')
 obtain rfl := Option.some.inj (hty.symm.trans ht')
 unfold Lib.TabIs
 rw [hvar, ← Lib.cells_of_tab ht he hce hct hd]
theorem dig_of_laidZ {W : World} (h : laidMetH Tryz.prog laidZ W) : DigW W := by
 rw [MakeChecks.laidMetH_plain _ _ _ (by kernel_rfl), show laidZ = ("unicode/utf8.acceptRanges", Rows.laid_unicode_utf8_acceptRanges) :: ("zermelo/num.digits", Lib.tabData .u8 tabZ) :: [("unicode/utf8.first", Rows.laid_unicode_utf8_first)] from rfl] at h
 have hT := tab_second gDigits tDigits uDigits uByte (by kernel_rfl) (by kernel_rfl) h
 intro i hi
 have hc := hT.cell gDigits i hi
 have e : ∀ i : Fin 36, tabZ.getD i.val 0 = ((chr i.val : Nat) : Int) := by decide
 rw [hc, e ⟨i, hi⟩]
end Dc
end Go.Proofs.YtjghnghceeijeaaGreatDoor
namespace Go.Proofs.YtjghnghceeijeaaGreatDoor
namespace Dc
open Go.RowKit Go.Shelf Go.BigFrame Go.Proofs.YtjghnghceeijeaaGreatDoor.Nm
attribute [local go_sem] Oper.semAt_some
theorem scaled_i (n1 : Bool) (A1 : Option Addr) (c1 : Nat) (l1 : List Nat) (z1 : Int) (p : Nat) (hp : p ≤ 20) (B1 : Option Addr) (d1 : Nat) (w : World) (I1 : IV w n1 A1 c1 l1 z1) {k : Nat} (f1 : Lz k z1) (hk : k ≤ 2000) :
 Calls Tryz.prog 121 #[(vv 3 (p : Int) n1 A1 l1.length c1 ⟨#[]⟩ B1 0 d1)] w (RetI (unitsZ z1 p) w) := by
 obtain ⟨W, hW, hbW, K0, K1, hszW⟩ := box2 w #[.int .i64 3, .int .i64 (p : Int), .bool n1, .slice A1 l1.length c1, .string ⟨#[]⟩, .slice B1 0 d1] 27 #[.bool false, .slice none 0 0] 24
 have J1 := I1.on hbW
 have hx : IntKind.i64.wrap (20 - (p : Int)) = ((20 - p : Nat) : Int) := by rw [IntKind.wrap_i64]; omega
 have hT : ∀ W' (x : Int), x = ((20 - p : Nat) : Int) → Calls Tryz.prog 35 #[.int .i64 x] W' (RetI (10 ^ (20 - p)) W') := fun W' x hx => by rw [hx]; exact Ten_i (20 - p) (by omega) W'
 have ft : Lz 3 ((10 : Int) ^ (20 - p)) := lz_ten (20 - p) (by omega)
 have hM := fun W' (h : Below W.heap.size W W') s A c l (I : IV W' s A c l (10 ^ (20 - p))) => rtimes_i n1 s A1 A c1 c l1 l z1 (10 ^ (20 - p)) W' (J1.on h) I f1 ft (by omega) (by decide)
 unfold unitsZ
 generalize (10 : Int) ^ (20 - p) = t at *
 obtain ⟨q, hq⟩ : ∃ q, 20 - p = q := ⟨_, rfl⟩
 rw [hq] at hx hT
 generalize z1 * t = m at *
 clear hq ft f1 hk I1 J1
 replace hszW := Lib.hid hszW
 go_enter Tryz.func121, Tryz.ntmps121
 go_upto_region 1 with fail
 have x1 : W.cell? ⟨w.heap.size, 1, none⟩ = some (.int .i64 (p : Int)) := cell_at K0.h 1 _ rfl
 have x2 : W.cell? ⟨w.heap.size, 2, none⟩ = some (.bool n1) := cell_at K0.h 2 _ rfl
 have x3 : W.cell? ⟨w.heap.size, 3, none⟩ = some (.slice A1 l1.length c1) := cell_at K0.h 3 _ rfl
 have hne0 : w.heap.size ≠ w.heap.size + 1 := by omega
 go_region_held3 (fun w'' => w''.cell? ⟨w.heap.size, 1, none⟩ = some (.int .i64 (p : Int)) ∧ w''.cell? ⟨w.heap.size, 2, none⟩ = some (.bool n1) ∧ w''.cell? ⟨w.heap.size, 3, none⟩ = some (.slice A1 l1.length c1)) ((first | (with_reducible exact ⟨x1, x2, x3⟩) | (with_reducible exact rd5 ⟨x1, x2, x3⟩) | (with_reducible exact ⟨set2_ne x1 hne0, set2_ne x2 hne0, set2_ne x3 hne0⟩)))
  ((first
   | (go_at_call 34; have hmark := q5; refine (hM _ q5 _ _ _ _ I5).mono ?_; rintro e w6 ⟨s6, A6, c6, l6, rfl, I6, b6⟩; have q6 := q5.trans (b6.mono q5.size); clear x1 x2 x3; have x1 : w6.cell? ⟨w.heap.size, 1, none⟩ = some (.int .i64 (p : Int)) := cell_at (K0.on q6).h 1 _ rfl; have x2 : w6.cell? ⟨w.heap.size, 2, none⟩ = some (.bool n1) := cell_at (K0.on q6).h 2 _ rfl; have x3 : w6.cell? ⟨w.heap.size, 3, none⟩ = some (.slice A1 l1.length c1) := cell_at (K0.on q6).h 3 _ rfl; obtain ⟨u0, u1⟩ := cL2 (K1.on q6).h; obtain ⟨g0, g1⟩ := fZ2 (K1.on q6).h)
   | (go_at_call 35; refine (hT _ _ rfl).mono ?_; rintro e w5 ⟨s5, A5, c5, l5, rfl, I5, b5⟩; have q5 := (below_drew (Below.refl W.heap.size W)).trans b5; clear x1 x2 x3; have x1 : w5.cell? ⟨w.heap.size, 1, none⟩ = some (.int .i64 (p : Int)) := cell_at (K0.on q5).h 1 _ rfl; have x2 : w5.cell? ⟨w.heap.size, 2, none⟩ = some (.bool n1) := cell_at (K0.on q5).h 2 _ rfl; have x3 : w5.cell? ⟨w.heap.size, 3, none⟩ = some (.slice A1 l1.length c1) := cell_at (K0.on q5).h 3 _ rfl)))
 go_wp2_with fail
 have hb6 := hbW.trans (q6.mono hbW.size)
 exact ret_cell rfl rfl rfl (set_blk (set_blk (K1.on q6).h 0 _) 1 _) (retI_end I6 (K1.on q6) hb6 (by omega))
theorem vk_drew {W : World} {a : Nat} {k p : Int} {s : Bool} {A : Option Addr} {n c : Nat} {S : ByteArray} {B : Option Addr} {m d : Nat} (h : VK W a k p s A n c S B m d) : VK W.drew a k p s A n c S B m d := h
abbrev NK (w : World) (g : Nat) (s : Bool) (A : Option Addr) (n c : Nat) : Prop := w.cell? ⟨g, 0, none⟩ = some (.bool s) ∧ w.cell? ⟨g, 1, none⟩ = some (.slice A n c)
theorem nk_of {W W' : World} {g : Nat} {s : Bool} {A : Option Addr} {n c : Nat} {t : TypeId} (h : Blk W g #[.bool s, .slice A n c] t) (hb : Below W.heap.size W W') : NK W' g s A n c := ⟨cell_at (h.on hb).h 0 _ rfl, cell_at (h.on hb).h 1 _ rfl⟩
theorem nk_drew {W : World} {g : Nat} {s : Bool} {A : Option Addr} {n c : Nat} (h : NK W g s A n c) : NK W.drew g s A n c := h
theorem RCompare_z (n1 n2 : Bool) (A1 A2 : Option Addr) (c1 c2 : Nat) (l1 l2 : List Nat) (z1 z2 : Int) (p q : Nat) (B1 B2 : Option Addr) (d1 d2 : Nat) (w : World) (I1 : IV w n1 A1 c1 l1 z1) (I2 : IV w n2 A2 c2 l2 z2) (D1 : IsD z1 p) (D2 : IsD z2 q) :
 Calls Tryz.prog 64 #[(vv 3 (p : Int) n1 A1 l1.length c1 ⟨#[]⟩ B1 0 d1), (vv 3 (q : Int) n2 A2 l2.length c2 ⟨#[]⟩ B2 0 d2)] w fun e w' => e = .returned (.int .i64 (cmpZ (unitsZ z1 p) (unitsZ z2 q))) ∧ Below w.heap.size w w' := by
 obtain ⟨W, hW, hbW, K0, K1, hszW⟩ := box2 w #[.int .i64 3, .int .i64 (p : Int), .bool n1, .slice A1 l1.length c1, .string ⟨#[]⟩, .slice B1 0 d1] 27 #[.int .i64 3, .int .i64 (q : Int), .bool n2, .slice A2 l2.length c2, .string ⟨#[]⟩, .slice B2 0 d2] 27
 have J1 := I1.on hbW
 have J2 := I2.on hbW
 have f1 := D1.lz
 have f2 := D2.lz
 have hp := D1.hi
 have hq := D2.hi
 have hs1 := fun W' (h : Below W.heap.size W W') => scaled_i n1 A1 c1 l1 z1 p hp B1 d1 W' (J1.on h) f1 (by decide)
 have hs2 := fun W' (h : Below W.heap.size W W') => scaled_i n2 A2 c2 l2 z2 q hq B2 d2 W' (J2.on h) f2 (by decide)
 generalize unitsZ z1 p = v1 at *
 generalize unitsZ z2 q = v2 at *
 have hC := fun W' s A c l s' A' c' l' (I : IV W' s A c l v1) (I' : IV W' s' A' c' l' v2) => rcmp_i s s' A A' c c' l l' v1 v2 W' I I'
 generalize cmpZ v1 v2 = cc at *
 clear I1 I2 D1 D2 f1 f2 hp hq J1 J2
 have lw := hszW
 replace hszW := Lib.hid hszW
 go_enter Tryz.func64, Tryz.ntmps64
 go_upto_region 1 with fail
 have HS : ∀ W', Below W.heap.size W W' → (fun w'' => VK w'' w.heap.size 3 (p : Int) n1 A1 l1.length c1 ⟨#[]⟩ B1 0 d1 ∧ VK w'' (w.heap.size + 1) 3 (q : Int) n2 A2 l2.length c2 ⟨#[]⟩ B2 0 d2) W' := fun W' h => ⟨vk_of K0 h, vk_of K1 h⟩
 have H0 := HS _ (Below.refl _ _)
 replace HS := Lib.hid HS
 try dsimp only at H0
 clear lw
 go_region_held3 (fun w'' => VK w'' w.heap.size 3 (p : Int) n1 A1 l1.length c1 ⟨#[]⟩ B1 0 d1 ∧ VK w'' (w.heap.size + 1) 3 (q : Int) n2 A2 l2.length c2 ⟨#[]⟩ B2 0 d2) ((first | (with_reducible exact H0) | (with_reducible exact ⟨vk_drew H0.1, vk_drew H0.2⟩)))
  ((first
   | (go_at_call 47; have hmark := q8; refine (hC _ _ _ _ _ _ _ _ _ (I7.on b8) I8).mono ?_; rintro e w9 ⟨rfl, b9⟩; have q9 := q8.trans (b9.mono q8.size); clear H0; have H0 := HS.out _ q9; (try dsimp only at H0))
   | (go_at_call 121; have hmark := q7; refine (hs2 _ q7).mono ?_; rintro e w8 ⟨s8, A8, c8, l8, rfl, I8, b8⟩; have q8 := q7.trans (b8.mono q7.size); clear H0; have H0 := HS.out _ q8; (try dsimp only at H0))
   | (go_at_call 121; refine (hs1 _ (below_drew (Below.refl W.heap.size W))).mono ?_; rintro e w7 ⟨s7, A7, c7, l7, rfl, I7, b7⟩; have q7 := (below_drew (Below.refl W.heap.size W)).trans (b7.mono (below_drew (Below.refl W.heap.size W)).size); clear H0; have H0 := HS.out _ q7; (try dsimp only at H0))))
 go_wp2_with fail
 go_ret
 exact ⟨rfl, hbW.trans (q9.mono hbW.size)⟩
theorem RCompare_calls (a b : VA) (w : World) (ha : a.At w) (hb : b.At w) (h1 : a.ok = true) (h2 : b.ok = true) : Calls Tryz.prog 64 #[a.val, b.val] w fun e w' => e = .returned (.int .i64 (cmpZ a.u b.u)) ∧ Below w.heap.size w w' := by
 obtain ⟨p, s1, A1, c1, l1, B1, d1, e1, i1, D1, -, q1⟩ := VA.destruct ha.rd.words h1
 obtain ⟨q, s2, A2, c2, l2, B2, d2, e2, i2, D2, -, q2⟩ := VA.destruct hb.rd.words h2
 unfold VA.u
 rw [q1, q2]
 generalize a.z = za at *
 generalize b.z = zb at *
 subst e1 e2
 exact RCompare_z s1 s2 A1 A2 c1 c2 l1 l2 za zb p q B1 B2 d1 d2 w ⟨ha.rd, ha.cap, i1⟩ ⟨hb.rd, hb.cap, i2⟩ D1 D2
theorem made_err (z : Int) (p : Nat) : (madeE z p).2.2 = 0 ∨ (madeE z p).2.2 = 3 := by
 unfold madeE
 split
 · exact .inl rfl
 · exact .inr rfl
theorem made_isD {z : Int} {p : Nat} (hp : p ≤ 20) (h : (madeE z p).2.2 = 0) : IsD (madeE z p).1 (madeE z p).2.1 ∧ unitsZ (madeE z p).1 (madeE z p).2.1 = z * 10 ^ (20 - p) := by
 unfold madeE at *
 split at h
 · rename_i hl
   rw [if_pos hl]
   by_cases h0 : p = 0
   · subst h0
     have hm : madeZ z 0 = (z * 10, 1) := if_pos rfl
     rw [hm] at hl ⊢
     refine ⟨⟨Nat.le_refl 1, show (1 : Nat) ≤ 20 by decide, hl, fun h => absurd (show 1 < 1 from h) (by decide)⟩, ?_⟩
     show z * 10 * 10 ^ 19 = z * 10 ^ 20
     rw [Int.mul_assoc, Int.mul_comm 10, ← Int.pow_succ]
   · have hm : madeZ z p = strip z p := if_neg h0
     rw [hm] at hl ⊢
     obtain ⟨h1, h2, h3, h4⟩ := strip_pos z p (by omega)
     refine ⟨⟨h1, Nat.le_trans h2 hp, hl, h4⟩, ?_⟩
     unfold unitsZ
     conv => rhs; rw [h3]
     rw [Int.mul_assoc, ← Int.pow_add]
     congr 2
     dsimp only
     omega
 · exact absurd h (by decide)
theorem strip_isD {u : Int} (h : (stripE u).2.2 = 0) : IsD (stripE u).1 (stripE u).2.1 ∧ unitsZ (stripE u).1 (stripE u).2.1 = u := by
 have h2 := made_isD (z := u) (Nat.le_refl 20) h
 rw [Nat.sub_self, Int.pow_zero, Int.mul_one] at h2
 exact h2
def fmB (x : VA) : Bool := lightB x && x.ok
theorem fm_not {xs : List VA} {k : Nat} {r : Bool} (hr : Hid (xs.all fmB = r)) (hlt : k < xs.length) (h : fmB xs[k] = false) : r = false := by
 have := hr.out
 cases r
 · rfl
 · have h2 := List.all_eq_true.1 this xs[k] (List.getElem_mem hlt)
   rw [h] at h2; cases h2
theorem lawformed_c (g : Nat) (xs : List VA) (w : World) (hg : g < w.heap.size) (hx : ValsAt w g xs) (hn : xs.length ≤ 8) :
 Calls Tryz.prog 28 #[.slice (some ⟨g, 0, none⟩) xs.length xs.length] w fun e w' => e = .returned (.bool (xs.all fmB)) ∧ Below w.heap.size w w' := by
 obtain ⟨r, hr⟩ : ∃ r, xs.all fmB = r := ⟨_, rfl⟩
 rw [hr]
 replace hr := Lib.hid hr
 go_enter Tryz.func28, Tryz.ntmps28
 go_wp2_with fail
 go_loopw [3] (fun i W => ∃ k : Nat, i = .int .i64 (k : Int) ∧ k ≤ xs.length ∧ Hid ((xs.take k).all fmB = true) ∧ Below w.heap.size w W) (fun i _ => xs.length - (intOf i).toNat)
 case atStart => exact ⟨0, rfl, Nat.zero_le _, rfl, Below.refl _ _⟩
 case round =>
  obtain ⟨k, rfl, hk, hall, hbl⟩ := hrel
  by_cases hlt : k < xs.length
  · have x0 := (hbl.cell (p := ⟨g, k * 6, none⟩) hg).trans (hx.c0 k hlt)
    have x1 := (hbl.cell (p := ⟨g, k * 6 + 1, none⟩) hg).trans (hx.c1 k hlt)
    have x2 := (hbl.cell (p := ⟨g, k * 6 + 2, none⟩) hg).trans (hx.c2 k hlt)
    have x3 := (hbl.cell (p := ⟨g, k * 6 + 3, none⟩) hg).trans (hx.c3 k hlt)
    have x4 := (hbl.cell (p := ⟨g, k * 6 + 4, none⟩) hg).trans (hx.c4 k hlt)
    have x5 := (hbl.cell (p := ⟨g, k * 6 + 5, none⟩) hg).trans (hx.c5 k hlt)
    have y0 := fun W' (h : Below wr.heap.size wr W') => ((h.cell (p := ⟨g, k * 6, none⟩) (Nat.lt_of_lt_of_le hg hbl.size)).trans x0)
    have y1 := fun W' (h : Below wr.heap.size wr W') => ((h.cell (p := ⟨g, k * 6 + 1, none⟩) (Nat.lt_of_lt_of_le hg hbl.size)).trans x1)
    have y2 := fun W' (h : Below wr.heap.size wr W') => ((h.cell (p := ⟨g, k * 6 + 2, none⟩) (Nat.lt_of_lt_of_le hg hbl.size)).trans x2)
    have y3 := fun W' (h : Below wr.heap.size wr W') => ((h.cell (p := ⟨g, k * 6 + 3, none⟩) (Nat.lt_of_lt_of_le hg hbl.size)).trans x3)
    have y4 := fun W' (h : Below wr.heap.size wr W') => ((h.cell (p := ⟨g, k * 6 + 4, none⟩) (Nat.lt_of_lt_of_le hg hbl.size)).trans x4)
    have y5 := fun W' (h : Below wr.heap.size wr W') => ((h.cell (p := ⟨g, k * 6 + 5, none⟩) (Nat.lt_of_lt_of_le hg hbl.size)).trans x5)
    have hat := (hx.at' k hlt).on hbl
    have hno := fm_not hr hlt
    have hyes : fmB xs[k] = true → (xs.take (k + 1)).all fmB = true := fun h => by
     rw [List.take_succ_eq_append_getElem hlt, List.all_append, hall.out]
     simp [h]
    obtain ⟨x, hxk⟩ : ∃ x, xs[k] = x := ⟨_, rfl⟩
    rw [hxk] at x0 x1 x2 x3 x4 x5 y0 y1 y2 y3 y4 y5 hat hno hyes
    have ha1 := al1 wr (.cells #[.int .i64 x.k, .int .i64 x.p, .bool x.s, .slice x.A x.l.length x.c, .string x.S, .slice x.B x.m x.d] 27)
    have hl := light_c wr.heap.size [x] (wr.alloc (.cells #[.int .i64 x.k, .int .i64 x.p, .bool x.s, .slice x.A x.l.length x.c, .string x.S, .slice x.B x.m x.d] 27)) (vals_one x _ _ ⟨World.alloc_heap_new wr _⟩ (hat.on ha1)) (by simp)
    have hi := is_c x (wr.alloc (.cells #[.int .i64 x.k, .int .i64 x.p, .bool x.s, .slice x.A x.l.length x.c, .string x.S, .slice x.B x.m x.d] 27)) (hat.on ha1)
    have y0 := y0 _ ha1
    have y1 := y1 _ ha1
    have y2 := y2 _ ha1
    have y3 := y3 _ ha1
    have y4 := y4 _ ha1
    have y5 := y5 _ ha1
    have hfb : fmB x = (lightB x && x.ok) := rfl
    have hla : [x].all lightB = lightB x := by simp
    rw [hla] at hl
    clear hx hxk hat hla
    cases hlx : lightB x
    · rw [hlx] at hl
      obtain rfl := hno (by rw [hfb, hlx]; rfl)
      clear hno hyes hfb hi hlx
      go_wp2_with (go_at_call 17; refine hl.mono ?_; rintro e w4 ⟨rfl, rfl⟩)
      go_ret
      exact ⟨rfl, hbl.trans (ha1.mono hbl.size)⟩
    · rw [hlx] at hl
      cases hok : x.ok
      · rw [hok] at hi
        obtain rfl := hno (by rw [hfb, hlx, hok]; rfl)
        clear hno hyes hfb hlx hok
        go_wp2_with first
         | (go_at_call 31; refine hi.mono ?_; rintro e w5 ⟨rfl, b5⟩)
         | (go_at_call 17; refine hl.mono ?_; rintro e w4 ⟨rfl, rfl⟩)
        go_ret
        exact ⟨rfl, hbl.trans ((ha1.trans (b5.mono ha1.size)).mono hbl.size)⟩
      · rw [hok] at hi
        have hy := Lib.hid (hyes (by rw [hfb, hlx, hok]; rfl))
        clear hno hyes hfb hlx hok
        go_wp2_with first
         | (go_at_call 31; refine hi.mono ?_; rintro e w5 ⟨rfl, b5⟩)
         | (go_at_call 17; refine hl.mono ?_; rintro e w4 ⟨rfl, rfl⟩)
        exact ⟨⟨k + 1, by simp, by omega, hy, hbl.trans ((ha1.trans (b5.mono ha1.size)).mono hbl.size)⟩, by simp only [intOf]; omega⟩
  · obtain rfl : r = true := by rw [← hr.out, ← hall.out, List.take_of_length_le (by omega)]
    go_wp2_with fail
    go_ret
    exact ⟨rfl, hbl⟩
theorem units_nonneg {z : Int} {p : Nat} : unitsZ z p < 0 ↔ z < 0 := by
 unfold unitsZ
 have := ten_pos (20 - p)
 constructor
 · intro h
   rcases Int.lt_or_le z 0 with h' | h'
   · exact h'
   · have := Int.mul_nonneg h' (Int.le_of_lt this)
     omega
 · exact fun h => Int.mul_neg_of_neg_of_pos h this
theorem xmul {n1 n2 : Bool} {A1 A2 : Option Addr} {c1 c2 : Nat} {l1 l2 : List Nat} {z1 z2 : Int} {p q : Nat} {B1 B2 : Option Addr} {d1 d2 : Nat} {w : World} (I1 : IV w n1 A1 c1 l1 z1) (I2 : IV w n2 A2 c2 l2 z2) (D1 : IsD z1 p) (D2 : IsD z2 q) {u : Int} {t : Nat} {e k : Int} (hE : stripE (nearZ (unitsZ z1 p * unitsZ z2 q) (10 ^ 20)) = (u, t, e)) (hk : kd (u, t, e) = k) :
 Calls Tryz.prog 30 #[(vv 3 (p : Int) n1 A1 l1.length c1 ⟨#[]⟩ B1 0 d1), (vv 3 (q : Int) n2 A2 l2.length c2 ⟨#[]⟩ B2 0 d2)] w (RetN k t e u w) := by
 have o : ((VA.mk 3 (p : Int) n1 A1 c1 l1 ⟨#[]⟩ B1 0 d1).ok && (VA.mk 3 (q : Int) n2 A2 c2 l2 ⟨#[]⟩ B2 0 d2).ok) = true := by rw [VA.ok_made I1.isZ D1, VA.ok_made I2.isZ D2]; rfl
 have hx : mulX (VA.mk 3 (p : Int) n1 A1 c1 l1 ⟨#[]⟩ B1 0 d1) (VA.mk 3 (q : Int) n2 A2 c2 l2 ⟨#[]⟩ B2 0 d2) = (u, ((t : Int)).toNat, e) := by
  unfold mulX
  rw [two_ok o, Int.toNat_natCast, ← hE]
  unfold VA.u
  rw [va_z I1, va_z I2]
  rfl
 exact (DMul_calls (VA.mk 3 (p : Int) n1 A1 c1 l1 ⟨#[]⟩ B1 0 d1) (VA.mk 3 (q : Int) n2 A2 c2 l2 ⟨#[]⟩ B2 0 d2) w ⟨I1.rd, I1.cap⟩ ⟨I2.rd, I2.cap⟩).mono fun _ _ h => RetN.of h hx hk (Int.natCast_nonneg t)
theorem strip_cases (u : Int) : ∃ z t e, stripE u = (z, t, e) ∧ (e = 0 ∨ e = 3) := ⟨_, _, _, rfl, made_err u 20⟩
theorem strip_of {u z : Int} {t : Nat} (h : stripE u = (z, t, 0)) : IsD z t ∧ unitsZ z t = u := by
 have h2 := strip_isD (u := u) (by rw [h])
 rw [h] at h2
 exact h2
end Dc
end Go.Proofs.YtjghnghceeijeaaGreatDoor
