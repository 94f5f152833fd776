/-
  Contracts of the walks below.
-/
import Derived.Test.YtjghnghceeijeaaGreatDoorDb27
set_option maxRecDepth 100000
set_option maxHeartbeats 4000000
set_option linter.unusedVariables false
set_option linter.unusedSimpArgs false
namespace Go.Proofs.YtjghnghceeijeaaGreatDoor
namespace Dc
theorem strip_pos (z : Int) (p : Nat) (hp : 1 ≤ p) : 1 ≤ (strip z p).2 ∧ (strip z p).2 ≤ p ∧ z = (strip z p).1 * 10 ^ (p - (strip z p).2) ∧ (1 < (strip z p).2 → (strip z p).1 % 10 ≠ 0) := by
 induction p generalizing z with
 | zero => omega
 | succ p ih =>
  rcases p with _ | p
  · refine ⟨Nat.le_refl _, Nat.le_refl _, ?_, fun h => absurd h (by show ¬ 1 < 1; omega)⟩
    show z = z * 10 ^ 0
    rw [Int.pow_zero, Int.mul_one]
  · rw [strip]
    by_cases h : z % 10 = 0
    · rw [if_pos h]
      obtain ⟨h1, h2, h3, h4⟩ := ih (z / 10) (by omega)
      refine ⟨h1, by omega, ?_, h4⟩
      have e : p + 1 + 1 - (strip (z / 10) (p + 1)).2 = (p + 1 - (strip (z / 10) (p + 1)).2) + 1 := by omega
      rw [e, Int.pow_succ, ← Int.mul_assoc, ← h3]
      omega
    · rw [if_neg h]
      refine ⟨by show 1 ≤ p + 2; omega, Nat.le_refl _, ?_, fun _ => h⟩
      show z = z * 10 ^ (p + 2 - (p + 2))
      rw [Nat.sub_self, Int.pow_zero, Int.mul_one]
theorem near_whole (n : Int) {k : Int} (hk : 0 < k) : nearZ (n * k) k = n := by
 have h := nearZ_scale (n := n) (d := 1) hk
 rwa [Int.one_mul, near_one] at h
theorem strip_units {z : Int} {p : Nat} (h1 : 1 ≤ p) (h20 : p ≤ 20) (hz : 1 < p → z % 10 ≠ 0) : strip (unitsZ z p) 20 = (z, p) := by
 have h := strip_scale z (20 - p) p h1
 rw [show p + (20 - p) = 20 by omega] at h
 unfold unitsZ
 rw [h]
 refine strip_id z p ?_
 by_cases h' : 1 < p
 · exact .inr (hz h')
 · exact .inl (by omega)
theorem units_inj {z z' : Int} {p p' : Nat} (h1 : 1 ≤ p) (h20 : p ≤ 20) (hz : 1 < p → z % 10 ≠ 0) (h1' : 1 ≤ p') (h20' : p' ≤ 20) (hz' : 1 < p' → z' % 10 ≠ 0) (h : unitsZ z p = unitsZ z' p') : z = z' ∧ p = p' := by
 have e := strip_units h1 h20 hz
 rw [h, strip_units h1' h20' hz'] at e
 exact ⟨(congrArg Prod.fst e).symm, (congrArg Prod.snd e).symm⟩
end Dc
end Go.Proofs.YtjghnghceeijeaaGreatDoor
namespace Go.Proofs.YtjghnghceeijeaaGreatDoor
namespace Dc
open Go.RowKit Go.Shelf Go.BigFrame Go.Proofs.YtjghnghceeijeaaGreatDoor.Nm

end Dc
end Go.Proofs.YtjghnghceeijeaaGreatDoor
namespace Go.Proofs.YtjghnghceeijeaaGreatDoor
namespace Dc
theorem near_mono {n m d : Int} (hd : 0 < d) (h : n ≤ m) : nearP n d ≤ nearP m d := by
 have h1 := near_spec n hd
 have h2 := near_spec m hd
 rcases Int.lt_or_le (nearP m d) (nearP n d) with h0 | h0
 · generalize nearP n d = p at *
   generalize nearP m d = q at *
   have e : (n - p * d) - (m - q * d) = (n - m) + (q - p) * d := by rw [Int.sub_mul]; omega
   generalize n - p * d = x at *
   generalize m - q * d = y at *
   have : (q - p) * d ≤ (-1) * d := Int.mul_le_mul_of_nonneg_right (by omega) (by omega)
   by_cases h4 : q - p = -1
   · rw [h4] at e
     omega
   · have : (q - p) * d ≤ (-2) * d := Int.mul_le_mul_of_nonneg_right (by omega) (by omega)
     omega
 · exact h0
theorem floor_units (z : Int) {p : Nat} (hp : p ≤ 20) : z / 10 ^ p = unitsZ z p / 10 ^ 20 := by
 unfold unitsZ
 rw [ten_split hp, Int.mul_ediv_mul_of_pos_left _ _ (ten_pos _)]
theorem mul_units (a b : Int) {p q : Nat} (hp : p ≤ 20) (hq : q ≤ 20) : nearZ (a * b * 10 ^ 20) (10 ^ p * 10 ^ q) = nearZ (unitsZ a p * unitsZ b q) (10 ^ 20) := by
 have h := nearZ_scale (n := unitsZ a p * unitsZ b q) (d := 10 ^ 20) (k := 10 ^ 20) (ten_pos 20)
 rw [← h, ← nearZ_scale (n := a * b * 10 ^ 20) (d := 10 ^ p * 10 ^ q) (k := 10 ^ (20 - p) * 10 ^ (20 - q)) (Int.mul_pos (ten_pos _) (ten_pos _))]
 have e1 : a * b * 10 ^ 20 * (10 ^ (20 - p) * 10 ^ (20 - q)) = unitsZ a p * unitsZ b q * 10 ^ 20 := by
  unfold unitsZ
  generalize (10 : Int) ^ 20 = T
  generalize (10 : Int) ^ (20 - p) = P
  generalize (10 : Int) ^ (20 - q) = Q
  simp only [Int.mul_assoc, Int.mul_comm, Int.mul_left_comm]
 have e2 : (10 : Int) ^ p * 10 ^ q * (10 ^ (20 - p) * 10 ^ (20 - q)) = 10 ^ 20 * 10 ^ 20 := by
  have h1 := ten_split hp
  have h2 := ten_split hq
  generalize (10 : Int) ^ (20 - p) = P at *
  generalize (10 : Int) ^ (20 - q) = Q at *
  generalize (10 : Int) ^ p = p1 at *
  generalize (10 : Int) ^ q = q1 at *
  calc p1 * q1 * (P * Q) = (p1 * P) * (q1 * Q) := by simp only [Int.mul_assoc, Int.mul_comm, Int.mul_left_comm]
   _ = 10 ^ 20 * 10 ^ 20 := by rw [← h1, ← h2]
 rw [e1, e2]
theorem round_units (z : Int) {p k : Nat} (hp : p ≤ 20) (hk : k ≤ p) : nearZ z (10 ^ (p - k)) = nearZ (unitsZ z p) (10 ^ (20 - k)) := by
 have h := nearZ_scale (n := z) (d := 10 ^ (p - k)) (k := 10 ^ (20 - p)) (ten_pos _)
 rw [← Int.pow_add, show p - k + (20 - p) = 20 - k by omega] at h
 exact h.symm
theorem fix_eq (z : Int) {T : Int} (h : z < 0) : -(((z.natAbs : Int)) / T) = -((-z) / T) := by
 rw [show ((z.natAbs : Nat) : Int) = -z by omega]
end Dc
end Go.Proofs.YtjghnghceeijeaaGreatDoor
namespace Go.Proofs.YtjghnghceeijeaaGreatDoor
namespace Dc
open Go.RowKit Go.Shelf Go.BigFrame Go.Proofs.YtjghnghceeijeaaGreatDoor.Nm
attribute [local go_sem] Oper.semAt_some
def mulX (a b : VA) : DR := two a b (stripE (nearZ (a.u * b.u) (10 ^ 20)))
def floorX (a : VA) : Int × Int := if a.ok = true then (a.z / 10 ^ a.q, 0) else (0, 2)
def fixX (a : VA) : Int × Int := if a.z < 0 then ceilX a else floorX a
def cmpX (a b : VA) : Int × Int := if (a.ok && b.ok) = true then (cmpZ a.u b.u, 0) else (0, 2)
theorem mul1_z (n1 n2 : Bool) (A1 A2 : Option Addr) (c1 c2 : Nat) (l1 l2 : List Nat) (z1 z2 : Int) (p q : Nat) (B1 B2 : Option Addr) (d1 d2 g : Nat) (hp : p ≤ 20) (hq : q ≤ 20) (w : World) (I1 : IV w n1 A1 c1 l1 z1) (I2 : IV w n2 A2 c2 l2 z2) (f1 : Lz 40 z1) (f2 : Lz 40 z2) (hP : Pows w g) :
 Calls Tryz.prog 117 #[(vv 3 (p : Int) n1 A1 l1.length c1 ⟨#[]⟩ B1 0 d1), (vv 3 (q : Int) n2 A2 l2.length c2 ⟨#[]⟩ B2 0 d2), Value.func (.func 150) #[] #[.pointer (some ⟨g, 0, none⟩)]] w (RetI2 (z1 * z2) (10 ^ p * 10 ^ q) w) := by
 obtain ⟨W, hW, hbW, K0, K1, K2, K3, hszW⟩ := box4 w #[.int .i64 3, .int .i64 (p : Int), .bool n1, .slice A1 l1.length c1, .string ⟨#[]⟩, .slice B1 0 d1] 27 #[.int .i64 3, .int .i64 (q : Int), .bool n2, .slice A2 l2.length c2, .string ⟨#[]⟩, .slice B2 0 d2] 27 #[.bool false, .slice none 0 0] 24 #[.bool false, .slice none 0 0] 24
 have P0 := hP.on hbW
 have J1 := I1.on hbW
 have J2 := I2.on hbW
 have T1 := fun W' (h : Below W.heap.size W W') => powers1_z g p (by omega) W' (P0.on h)
 have T2 := fun W' (h : Below W.heap.size W W') => powers1_z g q (by omega) W' (P0.on h)
 have t1 := lz_ten p (by omega)
 have t2 := lz_ten q (by omega)
 have M1 := fun W' (h : Below W.heap.size W W') => mul_z n1 n2 A1 A2 c1 c2 l1 l2 z1 z2 W' (J1.on h) (J2.on h) (f1.mono (by decide)) (f2.mono (by decide)) ((f1.mul f2).mono (by decide))
 have M2 := fun W' s A c l s' A' c' l' (I : IV W' s A c l (10 ^ p)) (I' : IV W' s' A' c' l' (10 ^ q)) => mul_z s s' A A' c c' l l' (10 ^ p) (10 ^ q) W' I I' (t1.mono (by decide)) (t2.mono (by decide)) ((t1.mul t2).mono (by decide))
 have r0 : W.cell? ⟨w.heap.size, 1, none⟩ = some (.int .i64 (p : Int)) := cell_at (K0.on (Below.refl W.heap.size W)).h 1 _ rfl
 have r1 : W.cell? ⟨w.heap.size, 2, none⟩ = some (.bool n1) := cell_at (K0.on (Below.refl W.heap.size W)).h 2 _ rfl
 have r2 : W.cell? ⟨w.heap.size, 3, none⟩ = some (.slice A1 l1.length c1) := cell_at (K0.on (Below.refl W.heap.size W)).h 3 _ rfl
 have r3 : W.cell? ⟨w.heap.size + 1, 1, none⟩ = some (.int .i64 (q : Int)) := cell_at (K1.on (Below.refl W.heap.size W)).h 1 _ rfl
 have r4 : W.cell? ⟨w.heap.size + 1, 2, none⟩ = some (.bool n2) := cell_at (K1.on (Below.refl W.heap.size W)).h 2 _ rfl
 have r5 : W.cell? ⟨w.heap.size + 1, 3, none⟩ = some (.slice A2 l2.length c2) := cell_at (K1.on (Below.refl W.heap.size W)).h 3 _ rfl
 generalize z1 * z2 = zz at *
 generalize (10 : Int) ^ p * 10 ^ q = tt at *
 generalize (10 : Int) ^ p = tp at *
 generalize (10 : Int) ^ q = tq at *
 clear t1 t2 f1 f2 hP P0 J1 J2 I1 I2
 replace hp := Lib.hid hp
 replace hq := Lib.hid hq
 go_enter Tryz.func117, Tryz.ntmps117
 go_upto_region 1 with fail
 go_region_held3 (fun w'' => w''.cell? ⟨w.heap.size, 1, none⟩ = some (.int .i64 (p : Int)) ∧ w''.cell? ⟨w.heap.size, 2, none⟩ = some (.bool n1) ∧ w''.cell? ⟨w.heap.size, 3, none⟩ = some (.slice A1 l1.length c1) ∧ w''.cell? ⟨w.heap.size + 1, 1, none⟩ = some (.int .i64 (q : Int)) ∧ w''.cell? ⟨w.heap.size + 1, 2, none⟩ = some (.bool n2) ∧ w''.cell? ⟨w.heap.size + 1, 3, none⟩ = some (.slice A2 l2.length c2)) ((first | (with_reducible exact ⟨r0, r1, r2, r3, r4, r5⟩) | (with_reducible exact drew6 ⟨r0, r1, r2, r3, r4, r5⟩) | (refine ⟨?_, ?_, ?_, ?_, ?_, ?_⟩ <;> (repeat' (with_reducible first | exact r0 | exact r1 | exact r2 | exact r3 | exact r4 | exact r5 | (apply cell_ne (by omega)))))))
  ((first
   | (go_at_call 87; have hmark := q12; refine (M2 _ _ _ _ _ _ _ _ _ (I11.on b12) I12).mono ?_; rintro e w13 ⟨s13, A13, c13, l13, rfl, I13, b13⟩; clear r0 r1 r2 r3 r4 r5; have q13 := q12.trans (b13.mono q12.size); have r0 : w13.cell? ⟨w.heap.size, 1, none⟩ = some (.int .i64 (p : Int)) := cell_at (K0.on q13).h 1 _ rfl; have r1 : w13.cell? ⟨w.heap.size, 2, none⟩ = some (.bool n1) := cell_at (K0.on q13).h 2 _ rfl; have r2 : w13.cell? ⟨w.heap.size, 3, none⟩ = some (.slice A1 l1.length c1) := cell_at (K0.on q13).h 3 _ rfl; have r3 : w13.cell? ⟨w.heap.size + 1, 1, none⟩ = some (.int .i64 (q : Int)) := cell_at (K1.on q13).h 1 _ rfl; have r4 : w13.cell? ⟨w.heap.size + 1, 2, none⟩ = some (.bool n2) := cell_at (K1.on q13).h 2 _ rfl; have r5 : w13.cell? ⟨w.heap.size + 1, 3, none⟩ = some (.slice A2 l2.length c2) := cell_at (K1.on q13).h 3 _ rfl; obtain ⟨u0, u1⟩ := cL2 (K2.on q13).h; obtain ⟨v0, v1⟩ := cL2 (K3.on q13).h; obtain ⟨f0, f1⟩ := fZ2 (K2.on q13).h; obtain ⟨e0, e1⟩ := fZ2 (K3.on q13).h)
   | (go_at_call 150; have hmark := q11; refine (T2 _ q11).mono ?_; rintro e w12 ⟨s12, A12, c12, l12, rfl, I12, b12⟩; clear r0 r1 r2 r3 r4 r5; have q12 := q11.trans (b12.mono q11.size); have r0 : w12.cell? ⟨w.heap.size, 1, none⟩ = some (.int .i64 (p : Int)) := cell_at (K0.on q12).h 1 _ rfl; have r1 : w12.cell? ⟨w.heap.size, 2, none⟩ = some (.bool n1) := cell_at (K0.on q12).h 2 _ rfl; have r2 : w12.cell? ⟨w.heap.size, 3, none⟩ = some (.slice A1 l1.length c1) := cell_at (K0.on q12).h 3 _ rfl; have r3 : w12.cell? ⟨w.heap.size + 1, 1, none⟩ = some (.int .i64 (q : Int)) := cell_at (K1.on q12).h 1 _ rfl; have r4 : w12.cell? ⟨w.heap.size + 1, 2, none⟩ = some (.bool n2) := cell_at (K1.on q12).h 2 _ rfl; have r5 : w12.cell? ⟨w.heap.size + 1, 3, none⟩ = some (.slice A2 l2.length c2) := cell_at (K1.on q12).h 3 _ rfl)
   | (go_at_call 150; have hmark := q10; refine (T1 _ q10).mono ?_; rintro e w11 ⟨s11, A11, c11, l11, rfl, I11, b11⟩; clear r0 r1 r2 r3 r4 r5; have q11 := q10.trans (b11.mono q10.size); have r0 : w11.cell? ⟨w.heap.size, 1, none⟩ = some (.int .i64 (p : Int)) := cell_at (K0.on q11).h 1 _ rfl; have r1 : w11.cell? ⟨w.heap.size, 2, none⟩ = some (.bool n1) := cell_at (K0.on q11).h 2 _ rfl; have r2 : w11.cell? ⟨w.heap.size, 3, none⟩ = some (.slice A1 l1.length c1) := cell_at (K0.on q11).h 3 _ rfl; have r3 : w11.cell? ⟨w.heap.size + 1, 1, none⟩ = some (.int .i64 (q : Int)) := cell_at (K1.on q11).h 1 _ rfl; have r4 : w11.cell? ⟨w.heap.size + 1, 2, none⟩ = some (.bool n2) := cell_at (K1.on q11).h 2 _ rfl; have r5 : w11.cell? ⟨w.heap.size + 1, 3, none⟩ = some (.slice A2 l2.length c2) := cell_at (K1.on q11).h 3 _ rfl)
   | (go_at_call 87; refine (M1 _ (below_drew (Below.refl W.heap.size W))).mono ?_; rintro e w10 ⟨s10, A10, c10, l10, rfl, I10, b10⟩; clear r0 r1 r2 r3 r4 r5; have q10 := (below_drew (Below.refl W.heap.size W)).trans b10; have r0 : w10.cell? ⟨w.heap.size, 1, none⟩ = some (.int .i64 (p : Int)) := cell_at (K0.on q10).h 1 _ rfl; have r1 : w10.cell? ⟨w.heap.size, 2, none⟩ = some (.bool n1) := cell_at (K0.on q10).h 2 _ rfl; have r2 : w10.cell? ⟨w.heap.size, 3, none⟩ = some (.slice A1 l1.length c1) := cell_at (K0.on q10).h 3 _ rfl; have r3 : w10.cell? ⟨w.heap.size + 1, 1, none⟩ = some (.int .i64 (q : Int)) := cell_at (K1.on q10).h 1 _ rfl; have r4 : w10.cell? ⟨w.heap.size + 1, 2, none⟩ = some (.bool n2) := cell_at (K1.on q10).h 2 _ rfl; have r5 : w10.cell? ⟨w.heap.size + 1, 3, none⟩ = some (.slice A2 l2.length c2) := cell_at (K1.on q10).h 3 _ rfl)))
 obtain ⟨X, hX, KX, NX, OX⟩ := storeI (s' := s10) (A' := A10) (n' := l10.length) (c' := c10) (K2.on q13)
 obtain ⟨Y, hY, KY, NY, OY⟩ := storeI (s' := s13) (A' := A13) (n' := l13.length) (c' := c13) (OX.one (K3.on q13) (by omega))
 rw [hX, hY]
 have N := NX.trans (NY.mono (by omega))
 have Jx := ((I10.on b11).on b12).on b13
 clear r0 r1 r2 r3 r4 r5 u0 u1 v0 v1 f0 f1 e0 e1
 go_wp2_with fail
 exact ret_cc rfl rfl rfl rfl (OY.one KX (by omega)) KY ⟨s10, A10, c10, l10, s13, A13, c13, l13, rfl, Jx.nudge N, I13.nudge N, (hbW.trans (q13.mono hbW.size)).trans (N.low.mono (by omega))⟩
theorem frac1_mul (n1 n2 : Bool) (A1 A2 : Option Addr) (c1 c2 : Nat) (l1 l2 : List Nat) (z1 z2 : Int) (p q : Nat) (B1 B2 : Option Addr) (d1 d2 ga gb go : Nat) (w : World) (Ka : Blk w ga #[.int .i64 3, .int .i64 (p : Int), .bool n1, .slice A1 l1.length c1, .string ⟨#[]⟩, .slice B1 0 d1] 27) (Kb : Blk w gb #[.int .i64 3, .int .i64 (q : Int), .bool n2, .slice A2 l2.length c2, .string ⟨#[]⟩, .slice B2 0 d2] 27) (Ko : Blk w go #[Value.func (.func 117) #[] #[]] 126) (I1 : IV w n1 A1 c1 l1 z1) (I2 : IV w n2 A2 c2 l2 z2) (D1 : IsD z1 p) (D2 : IsD z2 q) :
 Calls Tryz.prog 195 #[.pointer (some ⟨ga, 0, none⟩), .pointer (some ⟨gb, 0, none⟩), .pointer (some ⟨go, 0, none⟩)] w (PostV (fun _ => False) (if (10 : Int) ^ p * 10 ^ q = 0 then err 20 else stripE (nearZ (z1 * z2 * 10 ^ 20) ((10 : Int) ^ p * 10 ^ q))) w) := by
 obtain ⟨W, hW, hbW, K0, hszW⟩ := box1 w (vcells 0 0 false none 0 0 ⟨#[]⟩ none 0 0) 27
 have ha : (VA.mk 3 (p : Int) n1 A1 c1 l1 ⟨#[]⟩ B1 0 d1).At W := ⟨(I1.on hbW).rd, I1.cap⟩
 have hb : (VA.mk 3 (q : Int) n2 A2 c2 l2 ⟨#[]⟩ B2 0 d2).At W := ⟨(I2.on hbW).rd, I2.cap⟩
 have hdc := decimals_c W.heap.size [(VA.mk 3 (p : Int) n1 A1 c1 l1 ⟨#[]⟩ B1 0 d1), (VA.mk 3 (q : Int) n2 A2 c2 l2 ⟨#[]⟩ B2 0 d2)] (W.alloc (.cells #[.int .i64 3, .int .i64 (p : Int), .bool n1, .slice A1 l1.length c1, .string ⟨#[]⟩, .slice B1 0 d1, .int .i64 3, .int .i64 (q : Int), .bool n2, .slice A2 l2.length c2, .string ⟨#[]⟩, .slice B2 0 d2] 27)) (by simp) (vals_two (VA.mk 3 (p : Int) n1 A1 c1 l1 ⟨#[]⟩ B1 0 d1) (VA.mk 3 (q : Int) n2 A2 c2 l2 ⟨#[]⟩ B2 0 d2) _ _ ⟨World.alloc_heap_new W _⟩ (ha.on (al1 W _)) (hb.on (al1 W _))) (by simp)
 rw [decE_two, VA.ok_made I1.isZ D1, VA.ok_made I2.isZ D2, Bool.and_self, if_pos rfl] at hdc
 have hpw := fun W' => powers_z W'
 have hof := fun W' (h : Below W.heap.size W W') g (hP : Pows W' g) => mul1_z n1 n2 A1 A2 c1 c2 l1 l2 z1 z2 p q B1 B2 d1 d2 g D1.hi D2.hi W' ((I1.on hbW).on h) ((I2.on hbW).on h) D1.lz D2.lz hP
 have eN : Lz 80 (z1 * z2) := (D1.lz.mul D2.lz).mono (by decide)
 have eD : Lz 43 ((10 : Int) ^ p * 10 ^ q) := ((lz_ten p (by have := D1.hi; omega)).mul (lz_ten q (by have := D2.hi; omega))).mono (by decide)
 generalize z1 * z2 = x at *
 generalize (10 : Int) ^ p * 10 ^ q = y at *
 obtain ⟨E, hE⟩ : ∃ E, (if y = 0 then err 20 else stripE (nearZ (x * 10 ^ 20) y)) = E := ⟨_, rfl⟩
 rw [hE]
 replace hE := Lib.hid hE
 replace eN := Lib.hid eN
 replace eD := Lib.hid eD
 clear D1 D2 ha hb
 obtain ⟨x0, x1, x2, x3, x4, x5⟩ := cL6 (Ka.on hbW).h
 obtain ⟨y0, y1, y2, y3, y4, y5⟩ := cL6 (Kb.on hbW).h
 have o0 := cell_at (Ko.on hbW).h 0 _ rfl
 have a1 := al1 W (.cells #[.int .i64 3, .int .i64 (p : Int), .bool n1, .slice A1 l1.length c1, .string ⟨#[]⟩, .slice B1 0 d1, .int .i64 3, .int .i64 (q : Int), .bool n2, .slice A2 l2.length c2, .string ⟨#[]⟩, .slice B2 0 d2] 27)
 replace hszW := Lib.hid hszW
 go_enter Tryz.func195, Tryz.ntmps195
 go_upto_region 4 with first
  | (go_at_call 117; have hmark := q6; refine (hof _ q6 g P6).mono ?_; rintro e w7 ⟨s7, A7, c7, l7, s8, A8, c8, l8, rfl, I7, I8, b7⟩)
  | (go_at_call 80; have hmark := q5; refine (hpw _).mono ?_; rintro e w6 ⟨g, rfl, P6, b6, hg6⟩; have q6 := q5.trans (b6.mono q5.size); obtain ⟨x0, x1, x2, x3, x4, x5⟩ := cL6 ((Ka.on hbW).on q6).h; obtain ⟨y0, y1, y2, y3, y4, y5⟩ := cL6 ((Kb.on hbW).on q6).h; have o0 := cell_at ((Ko.on hbW).on q6).h 0 _ rfl)
  | (go_at_call 77; refine hdc.mono ?_; rintro e w5 ⟨hw, b5⟩; obtain rfl := hw.1 rfl; have q5 := a1.trans (b5.mono a1.size); obtain ⟨x0, x1, x2, x3, x4, x5⟩ := cL6 ((Ka.on hbW).on q5).h; obtain ⟨y0, y1, y2, y3, y4, y5⟩ := cL6 ((Kb.on hbW).on q5).h; have o0 := cell_at ((Ko.on hbW).on q5).h 0 _ rfl)
 obtain ⟨W8, hW8, hbW8, R0, R1, hszW8⟩ := box2 w7 #[.bool s7, .slice A7 l7.length c7] 24 #[.bool s8, .slice A8 l8.length c8] 24
 rw [hW8]
 have q7 := q6.trans (b7.mono q6.size)
 have q8 := q7.trans (hbW8.mono q7.size)
 have P8 := (P6.on b7).on hbW8
 have J7 := I7.on hbW8
 have J8 := I8.on hbW8
 have L0 := K0.on q8
 have hb8 := hbW.trans (q8.mono hbW.size)
 have lt8 : w.heap.size + 1 ≤ w7.heap.size := by have := q7.size; have := hszW.out; omega
 clear x0 x1 x2 x3 x4 x5 y0 y1 y2 y3 y4 y5 o0 hW hW8 Ka Kb Ko K0 I1 I2 I7 I8 hdc hpw hof a1 P6
 obtain ⟨u0, u1⟩ := cL2 R0.h
 obtain ⟨v0, v1⟩ := cL2 R1.h
 have hzc := zero_c s8 A8 c8 l8 y W8 J8
 by_cases hy : y = 0
 · have hE2 := hE.out
   rw [if_pos hy] at hE2
   replace hE2 := Lib.hid hE2.symm
   rw [decide_eq_true hy] at hzc
   clear hy hE
   go_wp2_with first
    | (go_at_call 78; have hmark := b9; refine (need_no 20 (by decide) _).mono ?_; rintro e w10 ⟨rfl, rfl⟩)
    | (go_at_call 79; refine hzc.mono ?_; rintro e w9 ⟨rfl, b9⟩)
   exact ⟨rfl, PostV.no hE2.out (by decide) (.of_below (hb8.trans (b9.mono hb8.size)))⟩
 · have hE2 := hE.out
   rw [if_neg hy] at hE2
   rw [decide_eq_false hy] at hzc
   have t20 := lz_ten 20 (by decide)
   have T1 := fun W' (h : Below W8.heap.size W8 W') => powers1_z g 20 (by decide) W' (P8.on h)
   have M1 := fun W' (h : Below W8.heap.size W8 W') s A c l (I : IV W' s A c l (10 ^ 20)) => mul_z s7 s A7 A c7 c l7 l x (10 ^ 20) W' (J7.on h) I (eN.out.mono (by decide)) (t20.mono (by decide)) ((eN.out.mul t20).mono (by decide))
   have e3 := eN.out.mul t20
   have N1 := fun W' (h : Below W8.heap.size W8 W') s A c l (I : IV W' s A c l (x * 10 ^ 20)) => nearest_z s s8 A A8 c c8 l l8 (x * 10 ^ 20) y W' I (J8.on h) (e3.mono (by decide)) (eD.out.mono (by decide)) hy
   have e4 := e3.near hy
   have U1 := fun W' s A c l (I : IV W' s A c l (nearZ (x * 10 ^ 20) y)) => units_z s A c l (nearZ (x * 10 ^ 20) y) W' I (e4.mono (by decide))
   rw [hE2] at U1
   clear hE2 hE e3 e4 t20 hy
   generalize nearZ (x * 10 ^ 20) y = nz at *
   generalize x * 10 ^ 20 = xt at *
   generalize (10 : Int) ^ 20 = tt at *
   go_upto_region 6 with first
    | (go_at_call 79; refine hzc.mono ?_; rintro e w9 ⟨rfl, b9⟩)
   replace u0 := cell_at (R0.on b9).h 0 _ rfl
   replace u1 := cell_at (R0.on b9).h 1 _ rfl
   replace v0 := cell_at (R1.on b9).h 0 _ rfl
   replace v1 := cell_at (R1.on b9).h 1 _ rfl
   refine wp_region_any (by kernel_rfl) ?_
   refine pT 1 (Value.func (Fn.func 150) #[] #[Value.pointer (some ⟨g, 0, none⟩)]) ?_
   try simp only [Act.put, aQ, bQ, cQ]
   refine wpAny_of_F (S := fun w'' => w''.cell? ⟨w7.heap.size, 0, none⟩ = some (.bool s7) ∧ w''.cell? ⟨w7.heap.size, 1, none⟩ = some (.slice A7 l7.length c7) ∧ w''.cell? ⟨w7.heap.size + 1, 0, none⟩ = some (.bool s8) ∧ w''.cell? ⟨w7.heap.size + 1, 1, none⟩ = some (.slice A8 l8.length c8)) (late := [7]) _ _ _ _ ?_
   refine fT 0 6 (Value.agg #[.bool s7, .slice A7 l7.length c7]) ⟨u0, u1, v0, v1⟩ ?_
   try simp only [Act.put, aQ, bQ, cQ]
   refine fT 4 6 (Value.agg #[.bool s8, .slice A8 l8.length c8]) ⟨u0, u1, v0, v1⟩ ?_
   try simp only [Act.put, aQ, bQ, cQ]
   refine wpAnyF_one (i := 2) (by kernel_rfl) rfl (fun K hK => ?_)
   go_simp
   go_at_call 150; refine (T1 _ (b9.trans (below_drew (Below.refl _ w9)))).mono ?_; rintro e w10 ⟨s10, A10, c10, l10, rfl, I10, b10⟩; have q10 := (b9.trans (below_drew (Below.refl _ w9))).trans (b10.mono b9.size); replace u0 := cell_at (R0.on q10).h 0 _ rfl; replace u1 := cell_at (R0.on q10).h 1 _ rfl; replace v0 := cell_at (R1.on q10).h 0 _ rfl; replace v1 := cell_at (R1.on q10).h 1 _ rfl
   go_wp2_with fail
   refine hK.out _ _ (Or.inr ⟨u0, u1, v0, v1⟩) ?_
   clear hK K
   try simp only [Act.put, aQ, bQ, cQ]
   refine wpAnyF_one (i := 3) (by kernel_rfl) rfl (fun K hK => ?_)
   go_simp
   go_at_call 87; refine (M1 _ q10 _ _ _ _ I10).mono ?_; rintro e w11 ⟨s11, A11, c11, l11, rfl, I11, b11⟩; have q11 := q10.trans (b11.mono q10.size); replace u0 := cell_at (R0.on q11).h 0 _ rfl; replace u1 := cell_at (R0.on q11).h 1 _ rfl; replace v0 := cell_at (R1.on q11).h 0 _ rfl; replace v1 := cell_at (R1.on q11).h 1 _ rfl
   go_wp2_with fail
   refine hK.out _ _ (Or.inr ⟨u0, u1, v0, v1⟩) ?_
   clear hK K
   try simp only [Act.put, aQ, bQ, cQ]
   refine wpAnyF_one (i := 5) (by kernel_rfl) rfl (fun K hK => ?_)
   go_simp
   go_at_call 84; refine (N1 _ q11 _ _ _ _ I11).mono ?_; rintro e w12 ⟨s12, A12, c12, l12, rfl, I12, b12⟩; have q12 := q11.trans (b12.mono q11.size); replace u0 := cell_at (R0.on q12).h 0 _ rfl; replace u1 := cell_at (R0.on q12).h 1 _ rfl; replace v0 := cell_at (R1.on q12).h 0 _ rfl; replace v1 := cell_at (R1.on q12).h 1 _ rfl
   go_wp2_with fail
   refine hK.out _ _ (Or.inr ⟨u0, u1, v0, v1⟩) ?_
   clear hK K
   try simp only [Act.put, aQ, bQ, cQ]
   refine wpAnyF_one (i := 6) (by kernel_rfl) rfl (fun K hK => ?_)
   go_simp
   go_at_call 83; refine (U1 _ _ _ _ _ I12).mono ?_; rintro e w13 ⟨o13, p13, p13'⟩; have q13 := q12.trans (o13.full.mono q12.size)
   have hb13 := hb8.trans (q13.mono hb8.size)
   by_cases h0 : E.2.2 = 0
   · obtain ⟨v, rfl, s13, A13, c13, l13, rfl, I13⟩ := p13 h0
     rw [kd_ok h0]
     have K13 := L0.on q13
     replace u0 := cell_at (R0.on q13).h 0 _ rfl; replace u1 := cell_at (R0.on q13).h 1 _ rfl; replace v0 := cell_at (R1.on q13).h 0 _ rfl; replace v1 := cell_at (R1.on q13).h 1 _ rfl
     go_wp2_with fail
     refine hK.out _ _ (Or.inr ⟨u0, u1, v0, v1⟩) ?_
     clear hK K
     try simp only [Act.put, aQ, bQ, cQ]
     obtain ⟨i0, i1, i2, i3, i4, i5⟩ := cL6 K13.h
     obtain ⟨j0, j1, j2, j3, j4, j5⟩ := fZ6 K13.h
     refine wpAnyF_one (i := 7) (by kernel_rfl) rfl (fun K hK => ?_)
     go_simp
     refine hK.out _ _ (Or.inl (by decide)) ?_
     clear hK K
     try simp only [Act.put, aQ, bQ, cQ]
     refine wpAnyF_done (by kernel_rfl) ?_ _
     obtain ⟨X, hX, KX, NX, OX⟩ := storeV (k' := 3) (p' := (E.2.1 : Int)) (s' := s13) (A' := A13) (n' := l13.length) (c' := c13) (S' := ⟨#[]⟩) (B' := none) (m' := 0) (d' := 0) K13
     rw [hX]
     go_wp2_with fail
     exact ret_cellT rfl Tryz.underlying27 val_size rfl rfl KX.h rfl ⟨.of_below (hb13.trans (NX.low.mono (by omega))), fun _ => ⟨_, rfl, s13, A13, c13, l13, by rw [kd_ok h0], I13.nudge NX⟩, fun h => absurd h0 h⟩
   · obtain rfl := p13' h0
     go_wp2_with fail
     exact ⟨rfl, .of_below hb13, fun h => absurd h h0, fun _ => rfl⟩
theorem frac1_mul_all (a b : VA) (ga gb go : Nat) (w : World) (Ka : Blk w ga #[.int .i64 a.k, .int .i64 a.p, .bool a.s, .slice a.A a.l.length a.c, .string a.S, .slice a.B a.m a.d] 27) (Kb : Blk w gb #[.int .i64 b.k, .int .i64 b.p, .bool b.s, .slice b.A b.l.length b.c, .string b.S, .slice b.B b.m b.d] 27) (Ko : Blk w go #[Value.func (.func 117) #[] #[]] 126) (ha : a.At w) (hb : b.At w) :
 Calls Tryz.prog 195 #[.pointer (some ⟨ga, 0, none⟩), .pointer (some ⟨gb, 0, none⟩), .pointer (some ⟨go, 0, none⟩)] w (PostV (fun _ => False) (mulX a b) w) := by
 unfold mulX
 cases hok : (a.ok && b.ok)
 · rw [two_no hok]
   exact frac1_no a b ga gb go w Ka Kb ha hb hok
 · rw [two_ok hok]
   rw [Bool.and_eq_true] at hok
   obtain ⟨p, s1, A1, c1, l1, B1, d1, e1, i1, D1, u1, -⟩ := VA.destruct ha.rd.words hok.1
   obtain ⟨q, s2, A2, c2, l2, B2, d2, e2, i2, D2, u2, -⟩ := VA.destruct hb.rd.words hok.2
   rw [u1, u2]
   generalize a.z = za at *
   generalize b.z = zb at *
   subst e1 e2
   have h := frac1_mul s1 s2 A1 A2 c1 c2 l1 l2 za zb p q B1 B2 d1 d2 ga gb go w Ka Kb Ko ⟨ha.rd, ha.cap, i1⟩ ⟨hb.rd, hb.cap, i2⟩ D1 D2
   rw [if_neg (by have := Int.mul_pos (ten_pos p) (ten_pos q); omega), mul_units za zb D1.hi D2.hi] at h
   exact h
theorem fraction_mul (a b : VA) (w : World) (ha : a.At w) (hb : b.At w) :
 Calls Tryz.prog 116 #[a.val, b.val, Value.func (.func 117) #[] #[]] w (RetV (mulX a b) w) := by
 have hmf := mkf
 obtain ⟨W, hW, hbW, K0, K1, K2, K3, hszW⟩ := box4 w #[.int .i64 a.k, .int .i64 a.p, .bool a.s, .slice a.A a.l.length a.c, .string a.S, .slice a.B a.m a.d] 27 #[.int .i64 b.k, .int .i64 b.p, .bool b.s, .slice b.A b.l.length b.c, .string b.S, .slice b.B b.m b.d] 27 #[Value.func (.func 117) #[] #[]] 126 (vcells 0 0 false none 0 0 ⟨#[]⟩ none 0 0) 27
 have hv := value_calls (fun _ => False) 195 #[.pointer (some ⟨w.heap.size, 0, none⟩), .pointer (some ⟨w.heap.size + 1, 0, none⟩), .pointer (some ⟨w.heap.size + 1 + 1, 0, none⟩)] (enters_of Tryz.func195 (by kernel_rfl) rfl) (mulX a b) (bare_two (bare_strip _)) W (fun _ h => h.elim) (fun _ => True) (fun W' h => Calls.mono (frac1_mul_all a b _ _ _ W' (K0.on h) (K1.on h) (K2.on h) ((ha.on hbW).on h) ((hb.on hbW).on h)) fun _ _ h => ⟨h, trivial⟩)
 obtain ⟨x, hx⟩ : ∃ x, mulX a b = x := ⟨_, rfl⟩
 rw [hx] at hv ⊢
 obtain ⟨z, p, er⟩ := x
 dsimp only at hv
 clear hx
 replace hszW := Lib.hid hszW
 go_enter Tryz.func116, Tryz.ntmps116
 go_wp2_with (go_at_call 75; refine hv.mono ?_; rintro e w5 ⟨⟨v, rfl, s5, A5, c5, l5, rfl, I5⟩, o5, -⟩; have K5 := K3.on o5.full; obtain ⟨u0, u1, u2, u3, u4, u5⟩ := cL6 K5.h; obtain ⟨f0, f1, f2, f3, f4, f5⟩ := fZ6 K5.h)
 obtain ⟨X, hX, KX, NX, OX⟩ := storeV (k' := kd (z, p, er)) (p' := (p : Int)) (s' := s5) (A' := A5) (n' := l5.length) (c' := c5) (S' := ⟨#[]⟩) (B' := none) (m' := 0) (d' := 0) K5
 rw [hX]
 have hb5 := hbW.trans (o5.full.mono hbW.size)
 exact ret_cellT_tmp rfl Tryz.underlying27 val_size rfl rfl KX.h rfl ⟨_, rfl, ⟨s5, A5, c5, l5, rfl, I5.nudge NX⟩, hb5.trans (NX.low.mono (by omega))⟩
theorem DMul_calls (a b : VA) (w : World) (ha : a.At w) (hb : b.At w) :
 Calls Tryz.prog 30 #[a.val, b.val] w (RetV (mulX a b) w) := by
 obtain ⟨W, hW, hbW, K0, K1, K2, hszW⟩ := box3 w #[.int .i64 a.k, .int .i64 a.p, .bool a.s, .slice a.A a.l.length a.c, .string a.S, .slice a.B a.m a.d] 27 #[.int .i64 b.k, .int .i64 b.p, .bool b.s, .slice b.A b.l.length b.c, .string b.S, .slice b.B b.m b.d] 27 (vcells 0 0 false none 0 0 ⟨#[]⟩ none 0 0) 27
 obtain ⟨x0_0, x0_1, x0_2, x0_3, x0_4, x0_5⟩ := cL6 K0.h
 obtain ⟨x1_0, x1_1, x1_2, x1_3, x1_4, x1_5⟩ := cL6 K1.h
 have hv := fraction_mul a b W (ha.on hbW) (hb.on hbW)
 obtain ⟨x, hx⟩ : ∃ x, mulX a b = x := ⟨_, rfl⟩
 rw [hx] at hv ⊢
 obtain ⟨z, p, er⟩ := x
 clear hx
 replace hszW := Lib.hid hszW
 go_enter Tryz.func30, Tryz.ntmps30
 go_wp2_with (go_at_call 116; refine hv.mono ?_; rintro e w5 ⟨v, rfl, ⟨s5, A5, c5, l5, rfl, I5⟩, b5⟩; have o5 : Off (fun _ => False) W w5 := .of_below b5; have K5 := K2.on b5; obtain ⟨u0, u1, u2, u3, u4, u5⟩ := cL6 K5.h; obtain ⟨f0, f1, f2, f3, f4, f5⟩ := fZ6 K5.h)
 obtain ⟨X, hX, KX, NX, OX⟩ := storeV (k' := kd (z, p, er)) (p' := (p : Int)) (s' := s5) (A' := A5) (n' := l5.length) (c' := c5) (S' := ⟨#[]⟩) (B' := none) (m' := 0) (d' := 0) K5
 rw [hX]
 have hb5 := hbW.trans (o5.full.mono hbW.size)
 exact ret_cellT_tmp rfl Tryz.underlying27 val_size rfl rfl KX.h rfl ⟨_, rfl, ⟨s5, A5, c5, l5, rfl, I5.nudge NX⟩, hb5.trans (NX.low.mono (by omega))⟩
set_option maxHeartbeats 64000000 in
theorem floor1_z (n1 n2 : Bool) (A1 A2 : Option Addr) (c1 c2 : Nat) (l1 l2 : List Nat) (z1 z2 : Int) (w : World) (I1 : IV w n1 A1 c1 l1 z1) (I2 : IV w n2 A2 c2 l2 z2) (f1 : Lz 40 z1) (f2 : Lz 3 z2) (h0 : 0 < z2) :
 Calls Tryz.prog 131 #[iv n1 A1 l1.length c1, iv n2 A2 l2.length c2] w (RetI (z1 / z2) w) := by
 obtain ⟨W, hW, hbW, K0, K1, K2, hszW⟩ := box3 w #[.bool n1, .slice A1 l1.length c1] 24 #[.bool n2, .slice A2 l2.length c2] 24 #[.bool false, .slice none 0 0] 24
 have J1 := I1.on hbW
 have J2 := I2.on hbW
 have hsp := split_z n1 n2 A1 A2 c1 c2 l1 l2 z1 z2 W J1 J2 (f1.mono (by decide)) (f2.mono (by decide)) h0
 obtain ⟨x0, x1⟩ := cL2 K0.h
 obtain ⟨y0, y1⟩ := cL2 K1.h
 generalize z1 / z2 = q at *
 generalize z1 % z2 = r at *
 replace hszW := Lib.hid hszW
 clear f1 f2 h0
 go_enter Tryz.func131, Tryz.ntmps131
 go_upto_region 2 with (go_at_call 130; refine hsp.mono ?_; rintro e w7 ⟨s7, A7, c7, l7, s8, A8, c8, l8, rfl, I7, I8, b7⟩)
 obtain ⟨W8, hW8, hbW8, R0, R1, hszW8⟩ := box2 w7 #[.bool s7, .slice A7 l7.length c7] 24 #[.bool s8, .slice A8 l8.length c8] 24
 rw [hW8]
 have b8 := b7.trans (hbW8.mono b7.size)
 have K8 := K2.on b8
 have hb8 := hbW.trans (b8.mono hbW.size)
 have J7 := I7.on hbW8
 clear x0 x1 y0 y1 hW8
 obtain ⟨u0, u1⟩ := cL2 R0.h
 obtain ⟨v0, v1⟩ := cL2 K8.h
 obtain ⟨e0, e1⟩ := fZ2 K8.h
 go_wp2_with fail
 exact ret_cell rfl rfl rfl (set_blk (set_blk K8.h 0 _) 1 _) (retI_end J7 K8 hb8 (by omega))
set_option maxHeartbeats 64000000 in
theorem fix1_z (n1 n2 : Bool) (A1 A2 : Option Addr) (c1 c2 : Nat) (l1 l2 : List Nat) (z1 z2 : Int) (w : World) (I1 : IV w n1 A1 c1 l1 z1) (I2 : IV w n2 A2 c2 l2 z2) (f1 : Lz 40 z1) (f2 : Lz 3 z2) (h0 : 0 < z2) :
 Calls Tryz.prog 129 #[iv n1 A1 l1.length c1, iv n2 A2 l2.length c2] w (RetI (if z1 < 0 then -((z1.natAbs : Int) / z2) else (z1.natAbs : Int) / z2) w) := by
 obtain ⟨W, hW, hbW, K0, K1, K2, hszW⟩ := box3 w #[.bool n1, .slice A1 l1.length c1] 24 #[.bool n2, .slice A2 l2.length c2] 24 #[.bool false, .slice none 0 0] 24
 have J1 := I1.on hbW
 have J2 := I2.on hbW
 have farg := f1.abs
 obtain ⟨R, hR⟩ : ∃ R, (if z1 < 0 then -((z1.natAbs : Int) / z2) else (z1.natAbs : Int) / z2) = R := ⟨_, rfl⟩
 rw [hR]
 have hR1 : z1 < 0 → R = -((z1.natAbs : Int) / z2) := fun h => by rw [← hR, if_pos h]
 have hR2 : ¬ z1 < 0 → R = (z1.natAbs : Int) / z2 := fun h => by rw [← hR, if_neg h]
 clear hR
 have hg := fun W' (h : Below W.heap.size W W') => size_z n1 A1 c1 l1 z1 W' (J1.on h) (f1.mono (by decide))
 have hsp := fun W' (h : Below W.heap.size W W') s A c l (I : IV W' s A c l ((z1.natAbs : Int))) => split_z s n2 A A2 c c2 l l2 ((z1.natAbs : Int)) z2 W' I (J2.on h) (farg.mono (by decide)) (f2.mono (by decide)) h0
 obtain ⟨x0, x1⟩ := cL2 K0.h
 obtain ⟨y0, y1⟩ := cL2 K1.h
 have fq : Lz 300 (((z1.natAbs : Int)) / z2) := (farg.le (Int.natAbs_ediv_le_natAbs _ _)).mono (by decide)
 generalize ((z1.natAbs : Int)) / z2 = q at *
 generalize ((z1.natAbs : Int)) % z2 = r at *
 replace fq := Lib.hid fq
 replace hR1 := Lib.hid hR1
 replace hR2 := Lib.hid hR2
 replace hszW := Lib.hid hszW
 have HS := Lib.hid I1.sgn
 clear f1 f2 h0 farg I1 I2
 go_enter Tryz.func129, Tryz.ntmps129
 go_upto_region 1 with fail
 clear hW
 go_cut [5] from 7 to 13 (fun pv wx => ∃ G s' A' c' l', pv = .pointer (some ⟨G, 0, none⟩) ∧ Blk wx G #[.bool s', .slice A' (List.length l') c'] 24 ∧ IV wx s' A' c' l' q ∧ Below W.heap.size W wx)
 case first =>
  go_region_held3 (fun w'' => w''.cell? ⟨w.heap.size, 0, none⟩ = some (.bool n1) ∧ w''.cell? ⟨w.heap.size, 1, none⟩ = some (.slice A1 l1.length c1) ∧ w''.cell? ⟨w.heap.size + 1, 0, none⟩ = some (.bool n2) ∧ w''.cell? ⟨w.heap.size + 1, 1, none⟩ = some (.slice A2 l2.length c2)) ((first | (with_reducible exact ⟨x0, x1, y0, y1⟩) | (refine keep22 K0 K1 ?_; (repeat' (with_reducible first | exact Below.refl _ _ | exact q6 | exact q7 | refine below_drew ?_ | refine below_al ?_ _ | refine below_set ?_ _ ?_)); (all_goals (first | exact q6.size | exact q7.size | exact Nat.le_refl _ | exact Nat.le_succ_of_le q7.size | exact Nat.le_succ_of_le q6.size | exact Nat.le_succ _)))))
   ((first
    | (go_at_call 130; have hmark := q6; refine (hsp _ (by (repeat' (with_reducible first | exact Below.refl _ _ | exact q6 | exact q7 | refine below_drew ?_ | refine below_al ?_ _ | refine below_set ?_ _ ?_))) _ _ _ _ (by (repeat' (with_reducible first | exact I6 | refine iv_up ?_)))).mono ?_; rintro e w7 ⟨s7, A7, c7, l7, s8, A8, c8, l8, rfl, I7, I8, b7⟩; have p7 : Below w6.heap.size w6 w7 := (by refine below_via ?_ b7; (repeat' (with_reducible first | exact Below.refl _ _ | refine below_al ?_ _))); have q7 := q6.trans (p7.mono q6.size); (try (replace Ta := Ta.on p7)); (try (replace Tb := Tb.on p7)); (first | (have Tab : Blk w7 w6.heap.size #[.bool false, .slice none 0 0] 24 ∧ Blk w7 (w6.heap.size + 1) #[.bool false, .slice none 0 0] 24 := (by with_reducible exact blk_al2 b7); obtain ⟨Ta, Tb⟩ := Tab) | (have Tb : Blk w7 w6.heap.size #[.bool false, .slice none 0 0] 24 := (by with_reducible exact blk_al1 b7)) | skip); (try (have na1 := Nat.ne_of_lt (blk_lt Ta); have na2 := Ne.symm na1)); (try (have nb1 := Nat.ne_of_lt (blk_lt Tb); have nb2 := Ne.symm nb1)); (try (have nc1 : W.heap.size ≠ w6.heap.size := Nat.ne_of_lt (Nat.lt_of_lt_of_le (Nat.lt_succ_self _) (by first | exact hlt6 | exact Nat.le_of_succ_le hlt6)); have nc2 := Ne.symm nc1)); (try (have ta0 := cell_at Ta.h 0 _ rfl; have ta1 := cell_at Ta.h 1 _ rfl; have ta2 := frozen_at Ta.h 0; have ta3 := frozen_at Ta.h 1; have ta4 := fun o => cell_at (Ta.on (al1 w7 o)).h 0 _ rfl; have ta5 := fun o => cell_at (Ta.on (al1 w7 o)).h 1 _ rfl; have ta6 := fun o => frozen_at (Ta.on (al1 w7 o)).h 0; have ta7 := fun o => frozen_at (Ta.on (al1 w7 o)).h 1)); (try (have tb0 := cell_at Tb.h 0 _ rfl; have tb1 := cell_at Tb.h 1 _ rfl; have tb2 := frozen_at Tb.h 0; have tb3 := frozen_at Tb.h 1; have tb4 := fun o => cell_at (Tb.on (al1 w7 o)).h 0 _ rfl; have tb5 := fun o => cell_at (Tb.on (al1 w7 o)).h 1 _ rfl; have tb6 := fun o => frozen_at (Tb.on (al1 w7 o)).h 0; have tb7 := fun o => frozen_at (Tb.on (al1 w7 o)).h 1)); clear x0 x1 y0 y1; have x0 : w7.cell? ⟨w.heap.size, 0, none⟩ = some (.bool n1) := cell_at (K0.on q7).h 0 _ rfl; have x1 : w7.cell? ⟨w.heap.size, 1, none⟩ = some (.slice A1 l1.length c1) := cell_at (K0.on q7).h 1 _ rfl; have y0 : w7.cell? ⟨w.heap.size + 1, 0, none⟩ = some (.bool n2) := cell_at (K1.on q7).h 0 _ rfl; have y1 : w7.cell? ⟨w.heap.size + 1, 1, none⟩ = some (.slice A2 l2.length c2) := cell_at (K1.on q7).h 1 _ rfl)
    | (go_at_call 101; refine (hg _ (by (repeat' (with_reducible first | exact Below.refl _ _ | exact q6 | exact q7 | refine below_drew ?_ | refine below_al ?_ _ | refine below_set ?_ _ ?_)))).mono ?_; rintro e w6 ⟨s6, A6, c6, l6, rfl, I6, b6⟩; (first | (have Tab : Blk w6 W.heap.size #[.bool false, .slice none 0 0] 24 ∧ Blk w6 (W.heap.size + 1) #[.bool false, .slice none 0 0] 24 := (by with_reducible exact blk_al2d b6); obtain ⟨Ta, Tb⟩ := Tab) | (have Ta : Blk w6 W.heap.size #[.bool false, .slice none 0 0] 24 := (by with_reducible exact blk_al1d b6)) | skip); (try (have hlt6 := blk_lt Ta)); have q6 : Below W.heap.size W w6 := (by refine below_via ?_ b6; (repeat' (with_reducible first | exact Below.refl _ _ | refine below_drew ?_ | refine below_al ?_ _))); clear x0 x1 y0 y1; have x0 : w6.cell? ⟨w.heap.size, 0, none⟩ = some (.bool n1) := cell_at (K0.on q6).h 0 _ rfl; have x1 : w6.cell? ⟨w.heap.size, 1, none⟩ = some (.slice A1 l1.length c1) := cell_at (K0.on q6).h 1 _ rfl; have y0 : w6.cell? ⟨w.heap.size + 1, 0, none⟩ = some (.bool n2) := cell_at (K1.on q6).h 0 _ rfl; have y1 : w6.cell? ⟨w.heap.size + 1, 1, none⟩ = some (.slice A2 l2.length c2) := cell_at (K1.on q6).h 1 _ rfl)))
  all_goals
   go_wp2_with fail
   go_meet
   refine ⟨_, s7, A7, c7, l7, rfl, ?_, ?_, ?_⟩
   all_goals (repeat' (with_reducible first | exact I7 | exact I8 | exact Tb | exact Ta | exact q7 | exact blk_new _ _ _ | exact blk_new2 _ _ _ _ | apply blk_drew | apply iv_drew | apply below_drew | apply blk_up | apply iv_up | apply below_al | apply blk_s1 | apply blk_s0 | (apply blk_ne (by first | assumption | omega)) | apply iv_set | apply below_set))
   all_goals (first | exact q6.size | exact q7.size | exact Nat.le_refl _ | exact Nat.le_succ_of_le q7.size | exact Nat.le_succ_of_le q6.size | exact Nat.le_succ _)
 case rest =>
  obtain ⟨G, s9, A9, c9, l9, rfl, KG, IG, bG⟩ := hcut
  have K8 := K2.on bG
  have hb8 := hbW.trans (bG.mono hbW.size)
  have ng := negative_z s9 A9 c9 l9 q wc IG fq.out
  obtain ⟨u0, u1⟩ := cL2 KG.h
  obtain ⟨v0, v1⟩ := cL2 K8.h
  obtain ⟨e0, e1⟩ := fZ2 K8.h
  have t0 := cell_at (K0.on bG).h 0 _ rfl
  cases n1
  · have e := hR2.out (fun h => by have := HS.out; rw [decide_eq_true h] at this; cases this)
    subst e
    clear hR1 hR2 ng
    go_wp2_with fail
    exact ret_cell rfl rfl rfl (set_blk (set_blk K8.h 0 _) 1 _) (retI_end IG K8 hb8 (by omega))
  · have e := hR1.out (of_decide_eq_true HS.out.symm)
    subst e
    clear hR1 hR2
    go_wp2_with (go_at_call 113; refine ng.mono ?_; rintro e w12 ⟨s12, A12, c12, l12, rfl, I12, b12⟩; obtain ⟨i0, i1⟩ := cL2 (K8.on b12).h; obtain ⟨j0, j1⟩ := fZ2 (K8.on b12).h)
    exact ret_cell rfl rfl rfl (set_blk (set_blk (K8.on b12).h 0 _) 1 _) (retI_end I12 (K8.on b12) (hb8.trans (b12.mono hb8.size)) (by omega))
end Dc
end Go.Proofs.YtjghnghceeijeaaGreatDoor
