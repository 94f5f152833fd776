/-
  Contracts of the walks below.
-/
import Derived.Test.YtjghnghceeijeaaGreatDoorDs1
set_option maxRecDepth 100000
set_option maxHeartbeats 4000000
set_option linter.unusedVariables false
set_option linter.unusedSimpArgs false
namespace Go.Proofs.YtjghnghceeijeaaGreatDoor
namespace Dc
open Go.RowKit Go.Shelf Go.BigFrame Go.Proofs.YtjghnghceeijeaaGreatDoor.Nm
attribute [local go_sem] Oper.semAt_some
theorem scaled_i (n1 : Bool) (A1 : Option Addr) (c1 : Nat) (l1 : List Nat) (z1 : Int) (p : Nat) (hp : p ≤ 20) (B1 : Option Addr) (d1 : Nat) (w : World) (I1 : IV w n1 A1 c1 l1 z1) {k : Nat} (f1 : Lz k z1) (hk : k ≤ 2000) :
 Calls Tryz.prog 121 #[(vv 3 (p : Int) n1 A1 l1.length c1 ⟨#[]⟩ B1 0 d1)] w (RetI (unitsZ z1 p) w) := by
 obtain ⟨W, hW, hbW, K0, K1, hszW⟩ := box2 w #[.int .i64 3, .int .i64 (p : Int), .bool n1, .slice A1 l1.length c1, .string ⟨#[]⟩, .slice B1 0 d1] 27 #[.bool false, .slice none 0 0] 24
 have J1 := I1.on hbW
 have hx : IntKind.i64.wrap (20 - (p : Int)) = ((20 - p : Nat) : Int) := by rw [IntKind.wrap_i64]; omega
 have hT : ∀ W' (x : Int), x = ((20 - p : Nat) : Int) → Calls Tryz.prog 35 #[.int .i64 x] W' (RetI (10 ^ (20 - p)) W') := fun W' x hx => by rw [hx]; exact Ten_i (20 - p) (by omega) W'
 have ft : Lz 3 ((10 : Int) ^ (20 - p)) := lz_ten (20 - p) (by omega)
 have hM := fun W' (h : Below W.heap.size W W') s A c l (I : IV W' s A c l (10 ^ (20 - p))) => rtimes_i n1 s A1 A c1 c l1 l z1 (10 ^ (20 - p)) W' (J1.on h) I f1 ft (by omega) (by decide)
 unfold unitsZ
 generalize (10 : Int) ^ (20 - p) = t at *
 obtain ⟨q, hq⟩ : ∃ q, 20 - p = q := ⟨_, rfl⟩
 rw [hq] at hx hT
 generalize z1 * t = m at *
 clear hq ft f1 hk I1 J1
 replace hszW := Lib.hid hszW
 go_enter Tryz.func121, Tryz.ntmps121
 go_upto_region 1 with fail
 have x1 : W.cell? ⟨w.heap.size, 1, none⟩ = some (.int .i64 (p : Int)) := cell_at K0.h 1 _ rfl
 have x2 : W.cell? ⟨w.heap.size, 2, none⟩ = some (.bool n1) := cell_at K0.h 2 _ rfl
 have x3 : W.cell? ⟨w.heap.size, 3, none⟩ = some (.slice A1 l1.length c1) := cell_at K0.h 3 _ rfl
 have hne0 : w.heap.size ≠ w.heap.size + 1 := by omega
 go_region_held3 (fun w'' => w''.cell? ⟨w.heap.size, 1, none⟩ = some (.int .i64 (p : Int)) ∧ w''.cell? ⟨w.heap.size, 2, none⟩ = some (.bool n1) ∧ w''.cell? ⟨w.heap.size, 3, none⟩ = some (.slice A1 l1.length c1)) ((first | (with_reducible exact ⟨x1, x2, x3⟩) | (with_reducible exact rd5 ⟨x1, x2, x3⟩) | (with_reducible exact ⟨set2_ne x1 hne0, set2_ne x2 hne0, set2_ne x3 hne0⟩)))
  ((first
   | (go_at_call 34; have hmark := q5; refine (hM _ q5 _ _ _ _ I5).mono ?_; rintro e w6 ⟨s6, A6, c6, l6, rfl, I6, b6⟩; have q6 := q5.trans (b6.mono q5.size); clear x1 x2 x3; have x1 : w6.cell? ⟨w.heap.size, 1, none⟩ = some (.int .i64 (p : Int)) := cell_at (K0.on q6).h 1 _ rfl; have x2 : w6.cell? ⟨w.heap.size, 2, none⟩ = some (.bool n1) := cell_at (K0.on q6).h 2 _ rfl; have x3 : w6.cell? ⟨w.heap.size, 3, none⟩ = some (.slice A1 l1.length c1) := cell_at (K0.on q6).h 3 _ rfl; obtain ⟨u0, u1⟩ := cL2 (K1.on q6).h; obtain ⟨g0, g1⟩ := fZ2 (K1.on q6).h)
   | (go_at_call 35; refine (hT _ _ rfl).mono ?_; rintro e w5 ⟨s5, A5, c5, l5, rfl, I5, b5⟩; have q5 := (below_drew (Below.refl W.heap.size W)).trans b5; clear x1 x2 x3; have x1 : w5.cell? ⟨w.heap.size, 1, none⟩ = some (.int .i64 (p : Int)) := cell_at (K0.on q5).h 1 _ rfl; have x2 : w5.cell? ⟨w.heap.size, 2, none⟩ = some (.bool n1) := cell_at (K0.on q5).h 2 _ rfl; have x3 : w5.cell? ⟨w.heap.size, 3, none⟩ = some (.slice A1 l1.length c1) := cell_at (K0.on q5).h 3 _ rfl)))
 go_wp2_with fail
 have hb6 := hbW.trans (q6.mono hbW.size)
 exact ret_cell rfl rfl rfl (set_blk (set_blk (K1.on q6).h 0 _) 1 _) (retI_end I6 (K1.on q6) hb6 (by omega))
theorem vk_s7 {W : World} {a g : Nat} {k p : Int} {s : Bool} {A : Option Addr} {n c : Nat} {S : ByteArray} {B : Option Addr} {m d : Nat} {x0 x1 x2 x3 x4 x5 x6 : Value} (h : VK W a k p s A n c S B m d) (hne : a ≠ g) :
 VK (((((((W.setCell ⟨g, 0, none⟩ x0).setCell ⟨g, 1, none⟩ x1).setCell ⟨g, 2, none⟩ x2).setCell ⟨g, 3, none⟩ x3).setCell ⟨g, 4, none⟩ x4).setCell ⟨g, 5, none⟩ x5).setCell ⟨g, 6, none⟩ x6) a k p s A n c S B m d :=
 ⟨set7_ne h.1 hne, set7_ne h.2.1 hne, set7_ne h.2.2.1 hne, set7_ne h.2.2.2.1 hne, set7_ne h.2.2.2.2.1 hne, set7_ne h.2.2.2.2.2 hne⟩
theorem vk_drew {W : World} {a : Nat} {k p : Int} {s : Bool} {A : Option Addr} {n c : Nat} {S : ByteArray} {B : Option Addr} {m d : Nat} (h : VK W a k p s A n c S B m d) : VK W.drew a k p s A n c S B m d := h
theorem lz_ten_eight (k : Nat) (hk : k ≤ 40) : Lz 8 ((10 : Int) ^ k) := by
 refine (Lz.of (k := 5) ?_).mono (by decide)
 rw [Int.natAbs_pow]
 exact Nat.lt_of_le_of_lt (Nat.pow_le_pow_right (by decide) hk) (by decide)
theorem RAdd_no (a b : VA) (w : World) (ha : a.At w) (hb : b.At w) (hno : (a.ok && b.ok) = false) :
 Calls Tryz.prog 40 #[a.val, b.val] w (RetG (err 2) w) := by
 obtain ⟨W, hW, hbW, K0, K1, K2, hszW⟩ := box3 w #[.int .i64 a.k, .int .i64 a.p, .bool a.s, .slice a.A a.l.length a.c, .string a.S, .slice a.B a.m a.d] 27 #[.int .i64 b.k, .int .i64 b.p, .bool b.s, .slice b.A b.l.length b.c, .string b.S, .slice b.B b.m b.d] 27 #[.int .i64 0, .int .i64 0, .bool false, .slice none 0 0, .string ⟨#[]⟩, .slice none 0 0, .int .i64 0] 36
 obtain ⟨x0, x1, x2, x3, x4, x5⟩ := cL6 K0.h
 obtain ⟨y0, y1, y2, y3, y4, y5⟩ := cL6 K1.h
 obtain ⟨e0, e1, e2, e3, e4, e5, e6⟩ := cL7 K2.h
 obtain ⟨f0, f1, f2, f3, f4, f5, f6⟩ := fZ7 K2.h
 have h1 := fun W' (h : Below W.heap.size W W') => is_c a W' ((ha.on hbW).on h)
 have h2 := fun W' (h : Below W.heap.size W W') => is_c b W' ((hb.on hbW).on h)
 cases hok : a.ok
 · rw [hok] at h1
   go_enter Tryz.func40, Tryz.ntmps40
   go_wp2_with (go_at_call 31; refine (h1 _ (Below.refl _ _)).mono ?_; rintro e w5 ⟨rfl, b5⟩; clear e0 e1 e2 e3 e4 e5 e6 f0 f1 f2 f3 f4 f5 f6; obtain ⟨e0, e1, e2, e3, e4, e5, e6⟩ := cL7 (K2.on b5).h; obtain ⟨f0, f1, f2, f3, f4, f5, f6⟩ := fZ7 (K2.on b5).h)
   obtain ⟨X, hX, KX, NX, OX⟩ := storeG (k' := 0) (p' := 0) (s' := false) (A' := none) (n' := 0) (c' := 0) (S' := ⟨#[]⟩) (B' := none) (m' := 0) (d' := 0) (e' := 2) (K2.on b5)
   rw [hX]
   exact ret_cellT rfl Tryz.underlying36 rgot_size rfl rfl KX.h rfl (retG_err 2 (by decide) ((hbW.trans (b5.mono hbW.size)).trans (NX.low.mono (by omega))))
 · have hok2 : b.ok = false := by rw [hok] at hno; simpa using hno
   rw [hok] at h1
   rw [hok2] at h2
   go_enter Tryz.func40, Tryz.ntmps40
   go_wp2_with first
    | (go_at_call 31; have hmark := b5; refine (h2 _ b5).mono ?_; rintro e w6 ⟨rfl, b6⟩; have q6 := b5.trans (b6.mono b5.size); clear e0 e1 e2 e3 e4 e5 e6 f0 f1 f2 f3 f4 f5 f6; obtain ⟨e0, e1, e2, e3, e4, e5, e6⟩ := cL7 (K2.on q6).h; obtain ⟨f0, f1, f2, f3, f4, f5, f6⟩ := fZ7 (K2.on q6).h)
    | (go_at_call 31; refine (h1 _ (Below.refl _ _)).mono ?_; clear h1; rintro e w5 ⟨rfl, b5⟩; clear y0 y1 y2 y3 y4 y5; obtain ⟨y0, y1, y2, y3, y4, y5⟩ := cL6 (K1.on b5).h)
   obtain ⟨X, hX, KX, NX, OX⟩ := storeG (k' := 0) (p' := 0) (s' := false) (A' := none) (n' := 0) (c' := 0) (S' := ⟨#[]⟩) (B' := none) (m' := 0) (d' := 0) (e' := 2) (K2.on q6)
   rw [hX]
   exact ret_cellT rfl Tryz.underlying36 rgot_size rfl rfl KX.h rfl (retG_err 2 (by decide) ((hbW.trans (q6.mono hbW.size)).trans (NX.low.mono (by omega))))
theorem RAdd_z (n1 n2 : Bool) (A1 A2 : Option Addr) (c1 c2 : Nat) (l1 l2 : List Nat) (z1 z2 : Int) (p q : Nat) (B1 B2 : Option Addr) (d1 d2 : Nat) (w : World) (I1 : IV w n1 A1 c1 l1 z1) (I2 : IV w n2 A2 c2 l2 z2) (D1 : IsD z1 p) (D2 : IsD z2 q) :
 Calls Tryz.prog 40 #[(vv 3 (p : Int) n1 A1 l1.length c1 ⟨#[]⟩ B1 0 d1), (vv 3 (q : Int) n2 A2 l2.length c2 ⟨#[]⟩ B2 0 d2)] w (RetG (stripE (unitsZ z1 p + unitsZ z2 q)) w) := by
 have va : (VA.mk 3 (p : Int) n1 A1 c1 l1 ⟨#[]⟩ B1 0 d1).At w := ⟨I1.rd, I1.cap⟩
 have vb : (VA.mk 3 (q : Int) n2 A2 c2 l2 ⟨#[]⟩ B2 0 d2).At w := ⟨I2.rd, I2.cap⟩
 obtain ⟨W, hW, hbW, K0, K1, K2, hszW⟩ := box3 w #[.int .i64 3, .int .i64 (p : Int), .bool n1, .slice A1 l1.length c1, .string ⟨#[]⟩, .slice B1 0 d1] 27 #[.int .i64 3, .int .i64 (q : Int), .bool n2, .slice A2 l2.length c2, .string ⟨#[]⟩, .slice B2 0 d2] 27 #[.int .i64 0, .int .i64 0, .bool false, .slice none 0 0, .string ⟨#[]⟩, .slice none 0 0, .int .i64 0] 36
 obtain ⟨x0, x1, x2, x3, x4, x5⟩ := cL6 K0.h
 obtain ⟨y0, y1, y2, y3, y4, y5⟩ := cL6 K1.h
 have h1 := fun W' (h : Below W.heap.size W W') => is_c (VA.mk 3 (p : Int) n1 A1 c1 l1 ⟨#[]⟩ B1 0 d1) W' ((va.on hbW).on h)
 have h2 := fun W' (h : Below W.heap.size W W') => is_c (VA.mk 3 (q : Int) n2 A2 c2 l2 ⟨#[]⟩ B2 0 d2) W' ((vb.on hbW).on h)
 rw [VA.ok_made I1.isZ D1] at h1
 rw [VA.ok_made I2.isZ D2] at h2
 have J1 := I1.on hbW
 have J2 := I2.on hbW
 have f1 := D1.lz
 have f2 := D2.lz
 have hp := D1.hi
 have hq := D2.hi
 have u1 : Lz 43 (unitsZ z1 p) := f1.mul (lz_ten (20 - p) (by omega))
 have u2 : Lz 43 (unitsZ z2 q) := f2.mul (lz_ten (20 - q) (by omega))
 have hs1 := fun W' (h : Below W.heap.size W W') => scaled_i n1 A1 c1 l1 z1 p hp B1 d1 W' (J1.on h) f1 (by decide)
 have hs2 := fun W' (h : Below W.heap.size W W') => scaled_i n2 A2 c2 l2 z2 q hq B2 d2 W' (J2.on h) f2 (by decide)
 generalize unitsZ z1 p = v1 at *
 generalize unitsZ z2 q = v2 at *
 have hsm := fun W' s A c l s' A' c' l' (I : IV W' s A c l v1) (I' : IV W' s' A' c' l' v2) => rsum_i s s' A A' c c' l l' v1 v2 W' I I' u1 u2 (by decide) (by decide)
 have fr := u1.add u2
 generalize v1 + v2 = r at *
 have hL : ∀ W' s A c l (I : IV W' s A c l r), Calls Tryz.prog 97 #[iv s A (List.length l) c, .int .i64 20] W' (RetG (stripE r) W') := fun W' s A c l I => Least_i s A c l r 20 (by decide) W' I fr (by decide)
 obtain ⟨E, hE⟩ : ∃ E, stripE r = E := ⟨_, rfl⟩
 rw [hE] at hL ⊢
 clear hE
 clear va vb I1 I2
 have lw := hszW
 replace hszW := Lib.hid hszW
 go_enter Tryz.func40, Tryz.ntmps40
 go_upto_region 3 with first
  | (go_at_call 31; have hmark := b5; refine (h2 _ b5).mono ?_; rintro e w6 ⟨rfl, b6⟩; have q6 := b5.trans (b6.mono b5.size))
  | (go_at_call 31; refine (h1 _ (Below.refl _ _)).mono ?_; clear h1; rintro e w5 ⟨rfl, b5⟩; clear y0 y1 y2 y3 y4 y5; obtain ⟨y0, y1, y2, y3, y4, y5⟩ := cL6 (K1.on b5).h)
 have HS : ∀ W', Below W.heap.size W W' → (fun w'' => VK w'' w.heap.size 3 (p : Int) n1 A1 l1.length c1 ⟨#[]⟩ B1 0 d1 ∧ VK w'' (w.heap.size + 1) 3 (q : Int) n2 A2 l2.length c2 ⟨#[]⟩ B2 0 d2) W' := fun W' h => ⟨vk_of K0 h, vk_of K1 h⟩
 have H0 := HS _ q6
 replace HS := Lib.hid HS
 try dsimp only at H0
 have n0 : w.heap.size ≠ w.heap.size + 1 + 1 := by omega
 have n1' : w.heap.size + 1 ≠ w.heap.size + 1 + 1 := by omega
 clear x0 x1 x2 x3 x4 x5 y0 y1 y2 y3 y4 y5 h2 lw
 go_region_held3 (fun w'' => VK w'' w.heap.size 3 (p : Int) n1 A1 l1.length c1 ⟨#[]⟩ B1 0 d1 ∧ VK w'' (w.heap.size + 1) 3 (q : Int) n2 A2 l2.length c2 ⟨#[]⟩ B2 0 d2) ((first | (with_reducible exact H0) | (with_reducible exact ⟨vk_drew H0.1, vk_drew H0.2⟩) | (with_reducible exact ⟨vk_s7 H0.1 n0, vk_s7 H0.2 n1'⟩)))
  ((first
   | (go_at_call 97; have hmark := q9; refine (hL _ _ _ _ _ I9).mono ?_; rintro e w10 ⟨s10, A10, c10, l10, B10, d10, rfl, I10, b10⟩; have q10 := q9.trans (b10.mono q9.size); clear H0; have H0 := HS.out _ q10; (try dsimp only at H0); obtain ⟨e0, e1, e2, e3, e4, e5, e6⟩ := cL7 (K2.on q10).h; obtain ⟨f0, f1, f2, f3, f4, f5, f6⟩ := fZ7 (K2.on q10).h)
   | (go_at_call 46; have hmark := q8; refine (hsm _ _ _ _ _ _ _ _ _ (I7.on b8) I8).mono ?_; rintro e w9 ⟨s9, A9, c9, l9, rfl, I9, b9⟩; have q9 := q8.trans (b9.mono q8.size); clear H0; have H0 := HS.out _ q9; (try dsimp only at H0))
   | (go_at_call 121; have hmark := q7; refine (hs2 _ q7).mono ?_; rintro e w8 ⟨s8, A8, c8, l8, rfl, I8, b8⟩; have q8 := q7.trans (b8.mono q7.size); clear H0; have H0 := HS.out _ q8; (try dsimp only at H0))
   | (go_at_call 121; refine (hs1 _ (q6.trans ((below_drew (Below.refl w6.heap.size w6)).mono q6.size))).mono ?_; rintro e w7 ⟨s7, A7, c7, l7, rfl, I7, b7⟩; have q7 := (q6.trans ((below_drew (Below.refl w6.heap.size w6)).mono q6.size)).trans (b7.mono (q6.trans ((below_drew (Below.refl w6.heap.size w6)).mono q6.size)).size); clear H0; have H0 := HS.out _ q7; (try dsimp only at H0))))
 go_wp2_with fail
 have hbq := hbW.trans (q10.mono hbW.size)
 obtain ⟨X, hX, KX, NX, OX⟩ := storeG (k' := kd E) (p' := (E.2.1 : Int)) (s' := s10) (A' := A10) (n' := l10.length) (c' := c10) (S' := ⟨#[]⟩) (B' := B10) (m' := 0) (d' := d10) (e' := E.2.2) (K2.on q10)
 rw [hX]
 exact ret_cellT rfl Tryz.underlying36 rgot_size rfl rfl KX.h rfl ⟨s10, A10, c10, l10, B10, d10, rfl, I10.nudge NX, (hbq).trans (NX.low.mono (by omega))⟩
theorem RAdd_calls (a b : VA) (w : World) (ha : a.At w) (hb : b.At w) : Calls Tryz.prog 40 #[a.val, b.val] w (RetG (addX a b) w) := by
 unfold addX
 cases hok : (a.ok && b.ok)
 · rw [two_no hok]
   exact RAdd_no a b w ha hb hok
 · rw [two_ok hok]
   obtain ⟨h1, h2⟩ := Bool.and_eq_true_iff.1 hok
   obtain ⟨p, s1, A1, c1, l1, B1, d1, e1, i1, D1, -, q1⟩ := VA.destruct ha.rd.words h1
   obtain ⟨q, s2, A2, c2, l2, B2, d2, e2, i2, D2, -, q2⟩ := VA.destruct hb.rd.words h2
   unfold VA.u
   rw [q1, q2]
   generalize a.z = za at *
   generalize b.z = zb at *
   subst e1 e2
   exact RAdd_z s1 s2 A1 A2 c1 c2 l1 l2 za zb p q B1 B2 d1 d2 w ⟨ha.rd, ha.cap, i1⟩ ⟨hb.rd, hb.cap, i2⟩ D1 D2
theorem RSub_no (a b : VA) (w : World) (ha : a.At w) (hb : b.At w) (hno : (a.ok && b.ok) = false) :
 Calls Tryz.prog 41 #[a.val, b.val] w (RetG (err 2) w) := by
 obtain ⟨W, hW, hbW, K0, K1, K2, hszW⟩ := box3 w #[.int .i64 a.k, .int .i64 a.p, .bool a.s, .slice a.A a.l.length a.c, .string a.S, .slice a.B a.m a.d] 27 #[.int .i64 b.k, .int .i64 b.p, .bool b.s, .slice b.A b.l.length b.c, .string b.S, .slice b.B b.m b.d] 27 #[.int .i64 0, .int .i64 0, .bool false, .slice none 0 0, .string ⟨#[]⟩, .slice none 0 0, .int .i64 0] 36
 obtain ⟨x0, x1, x2, x3, x4, x5⟩ := cL6 K0.h
 obtain ⟨y0, y1, y2, y3, y4, y5⟩ := cL6 K1.h
 obtain ⟨e0, e1, e2, e3, e4, e5, e6⟩ := cL7 K2.h
 obtain ⟨f0, f1, f2, f3, f4, f5, f6⟩ := fZ7 K2.h
 have h1 := fun W' (h : Below W.heap.size W W') => is_c a W' ((ha.on hbW).on h)
 have h2 := fun W' (h : Below W.heap.size W W') => is_c b W' ((hb.on hbW).on h)
 cases hok : a.ok
 · rw [hok] at h1
   go_enter Tryz.func41, Tryz.ntmps41
   go_wp2_with (go_at_call 31; refine (h1 _ (Below.refl _ _)).mono ?_; rintro e w5 ⟨rfl, b5⟩; clear e0 e1 e2 e3 e4 e5 e6 f0 f1 f2 f3 f4 f5 f6; obtain ⟨e0, e1, e2, e3, e4, e5, e6⟩ := cL7 (K2.on b5).h; obtain ⟨f0, f1, f2, f3, f4, f5, f6⟩ := fZ7 (K2.on b5).h)
   obtain ⟨X, hX, KX, NX, OX⟩ := storeG (k' := 0) (p' := 0) (s' := false) (A' := none) (n' := 0) (c' := 0) (S' := ⟨#[]⟩) (B' := none) (m' := 0) (d' := 0) (e' := 2) (K2.on b5)
   rw [hX]
   exact ret_cellT rfl Tryz.underlying36 rgot_size rfl rfl KX.h rfl (retG_err 2 (by decide) ((hbW.trans (b5.mono hbW.size)).trans (NX.low.mono (by omega))))
 · have hok2 : b.ok = false := by rw [hok] at hno; simpa using hno
   rw [hok] at h1
   rw [hok2] at h2
   go_enter Tryz.func41, Tryz.ntmps41
   go_wp2_with first
    | (go_at_call 31; have hmark := b5; refine (h2 _ b5).mono ?_; rintro e w6 ⟨rfl, b6⟩; have q6 := b5.trans (b6.mono b5.size); clear e0 e1 e2 e3 e4 e5 e6 f0 f1 f2 f3 f4 f5 f6; obtain ⟨e0, e1, e2, e3, e4, e5, e6⟩ := cL7 (K2.on q6).h; obtain ⟨f0, f1, f2, f3, f4, f5, f6⟩ := fZ7 (K2.on q6).h)
    | (go_at_call 31; refine (h1 _ (Below.refl _ _)).mono ?_; clear h1; rintro e w5 ⟨rfl, b5⟩; clear y0 y1 y2 y3 y4 y5; obtain ⟨y0, y1, y2, y3, y4, y5⟩ := cL6 (K1.on b5).h)
   obtain ⟨X, hX, KX, NX, OX⟩ := storeG (k' := 0) (p' := 0) (s' := false) (A' := none) (n' := 0) (c' := 0) (S' := ⟨#[]⟩) (B' := none) (m' := 0) (d' := 0) (e' := 2) (K2.on q6)
   rw [hX]
   exact ret_cellT rfl Tryz.underlying36 rgot_size rfl rfl KX.h rfl (retG_err 2 (by decide) ((hbW.trans (q6.mono hbW.size)).trans (NX.low.mono (by omega))))
theorem RSub_z (n1 n2 : Bool) (A1 A2 : Option Addr) (c1 c2 : Nat) (l1 l2 : List Nat) (z1 z2 : Int) (p q : Nat) (B1 B2 : Option Addr) (d1 d2 : Nat) (w : World) (I1 : IV w n1 A1 c1 l1 z1) (I2 : IV w n2 A2 c2 l2 z2) (D1 : IsD z1 p) (D2 : IsD z2 q) :
 Calls Tryz.prog 41 #[(vv 3 (p : Int) n1 A1 l1.length c1 ⟨#[]⟩ B1 0 d1), (vv 3 (q : Int) n2 A2 l2.length c2 ⟨#[]⟩ B2 0 d2)] w (RetG (stripE (unitsZ z1 p - unitsZ z2 q)) w) := by
 have va : (VA.mk 3 (p : Int) n1 A1 c1 l1 ⟨#[]⟩ B1 0 d1).At w := ⟨I1.rd, I1.cap⟩
 have vb : (VA.mk 3 (q : Int) n2 A2 c2 l2 ⟨#[]⟩ B2 0 d2).At w := ⟨I2.rd, I2.cap⟩
 obtain ⟨W, hW, hbW, K0, K1, K2, hszW⟩ := box3 w #[.int .i64 3, .int .i64 (p : Int), .bool n1, .slice A1 l1.length c1, .string ⟨#[]⟩, .slice B1 0 d1] 27 #[.int .i64 3, .int .i64 (q : Int), .bool n2, .slice A2 l2.length c2, .string ⟨#[]⟩, .slice B2 0 d2] 27 #[.int .i64 0, .int .i64 0, .bool false, .slice none 0 0, .string ⟨#[]⟩, .slice none 0 0, .int .i64 0] 36
 obtain ⟨x0, x1, x2, x3, x4, x5⟩ := cL6 K0.h
 obtain ⟨y0, y1, y2, y3, y4, y5⟩ := cL6 K1.h
 have h1 := fun W' (h : Below W.heap.size W W') => is_c (VA.mk 3 (p : Int) n1 A1 c1 l1 ⟨#[]⟩ B1 0 d1) W' ((va.on hbW).on h)
 have h2 := fun W' (h : Below W.heap.size W W') => is_c (VA.mk 3 (q : Int) n2 A2 c2 l2 ⟨#[]⟩ B2 0 d2) W' ((vb.on hbW).on h)
 rw [VA.ok_made I1.isZ D1] at h1
 rw [VA.ok_made I2.isZ D2] at h2
 have J1 := I1.on hbW
 have J2 := I2.on hbW
 have f1 := D1.lz
 have f2 := D2.lz
 have hp := D1.hi
 have hq := D2.hi
 have u1 : Lz 43 (unitsZ z1 p) := f1.mul (lz_ten (20 - p) (by omega))
 have u2 : Lz 43 (unitsZ z2 q) := f2.mul (lz_ten (20 - q) (by omega))
 have hs1 := fun W' (h : Below W.heap.size W W') => scaled_i n1 A1 c1 l1 z1 p hp B1 d1 W' (J1.on h) f1 (by decide)
 have hs2 := fun W' (h : Below W.heap.size W W') => scaled_i n2 A2 c2 l2 z2 q hq B2 d2 W' (J2.on h) f2 (by decide)
 rw [Int.sub_eq_add_neg]
 generalize unitsZ z1 p = v1 at *
 generalize unitsZ z2 q = v2 at *
 have hmn := fun W' s A c l (I : IV W' s A c l v2) => rminus_i s A c l v2 W' I
 have u3 := u2.neg
 generalize -v2 = v3 at *
 have hsm := fun W' s A c l s' A' c' l' (I : IV W' s A c l v1) (I' : IV W' s' A' c' l' v3) => rsum_i s s' A A' c c' l l' v1 v3 W' I I' u1 u3 (by decide) (by decide)
 have fr := u1.add u3
 generalize v1 + v3 = r at *
 have hL : ∀ W' s A c l (I : IV W' s A c l r), Calls Tryz.prog 97 #[iv s A (List.length l) c, .int .i64 20] W' (RetG (stripE r) W') := fun W' s A c l I => Least_i s A c l r 20 (by decide) W' I fr (by decide)
 obtain ⟨E, hE⟩ : ∃ E, stripE r = E := ⟨_, rfl⟩
 rw [hE] at hL ⊢
 clear hE
 clear va vb I1 I2
 have lw := hszW
 replace hszW := Lib.hid hszW
 go_enter Tryz.func41, Tryz.ntmps41
 go_upto_region 3 with first
  | (go_at_call 31; have hmark := b5; refine (h2 _ b5).mono ?_; rintro e w6 ⟨rfl, b6⟩; have q6 := b5.trans (b6.mono b5.size))
  | (go_at_call 31; refine (h1 _ (Below.refl _ _)).mono ?_; clear h1; rintro e w5 ⟨rfl, b5⟩; clear y0 y1 y2 y3 y4 y5; obtain ⟨y0, y1, y2, y3, y4, y5⟩ := cL6 (K1.on b5).h)
 have HS : ∀ W', Below W.heap.size W W' → (fun w'' => VK w'' w.heap.size 3 (p : Int) n1 A1 l1.length c1 ⟨#[]⟩ B1 0 d1 ∧ VK w'' (w.heap.size + 1) 3 (q : Int) n2 A2 l2.length c2 ⟨#[]⟩ B2 0 d2) W' := fun W' h => ⟨vk_of K0 h, vk_of K1 h⟩
 have H0 := HS _ q6
 replace HS := Lib.hid HS
 try dsimp only at H0
 have n0 : w.heap.size ≠ w.heap.size + 1 + 1 := by omega
 have n1' : w.heap.size + 1 ≠ w.heap.size + 1 + 1 := by omega
 clear x0 x1 x2 x3 x4 x5 y0 y1 y2 y3 y4 y5 h2 lw
 go_region_held3 (fun w'' => VK w'' w.heap.size 3 (p : Int) n1 A1 l1.length c1 ⟨#[]⟩ B1 0 d1 ∧ VK w'' (w.heap.size + 1) 3 (q : Int) n2 A2 l2.length c2 ⟨#[]⟩ B2 0 d2) ((first | (with_reducible exact H0) | (with_reducible exact ⟨vk_drew H0.1, vk_drew H0.2⟩) | (with_reducible exact ⟨vk_s7 H0.1 n0, vk_s7 H0.2 n1'⟩)))
  ((first
   | (go_at_call 97; have hmark := q10; refine (hL _ _ _ _ _ I10).mono ?_; rintro e w11 ⟨s11, A11, c11, l11, B11, d11, rfl, I11, b11⟩; have q11 := q10.trans (b11.mono q10.size); clear H0; have H0 := HS.out _ q11; (try dsimp only at H0); obtain ⟨e0, e1, e2, e3, e4, e5, e6⟩ := cL7 (K2.on q11).h; obtain ⟨f0, f1, f2, f3, f4, f5, f6⟩ := fZ7 (K2.on q11).h)
   | (go_at_call 46; have hmark := q9; refine (hsm _ _ _ _ _ _ _ _ _ (I7.on (b8.trans (b9.mono b8.size))) I9).mono ?_; rintro e w10 ⟨s10, A10, c10, l10, rfl, I10, b10⟩; have q10 := q9.trans (b10.mono q9.size); clear H0; have H0 := HS.out _ q10; (try dsimp only at H0))
   | (go_at_call 37; have hmark := q8; refine (hmn _ _ _ _ _ I8).mono ?_; rintro e w9 ⟨s9, A9, c9, l9, rfl, I9, b9⟩; have q9 := q8.trans (b9.mono q8.size); clear H0; have H0 := HS.out _ q9; (try dsimp only at H0))
   | (go_at_call 121; have hmark := q7; refine (hs2 _ q7).mono ?_; rintro e w8 ⟨s8, A8, c8, l8, rfl, I8, b8⟩; have q8 := q7.trans (b8.mono q7.size); clear H0; have H0 := HS.out _ q8; (try dsimp only at H0))
   | (go_at_call 121; refine (hs1 _ (q6.trans ((below_drew (Below.refl w6.heap.size w6)).mono q6.size))).mono ?_; rintro e w7 ⟨s7, A7, c7, l7, rfl, I7, b7⟩; have q7 := (q6.trans ((below_drew (Below.refl w6.heap.size w6)).mono q6.size)).trans (b7.mono (q6.trans ((below_drew (Below.refl w6.heap.size w6)).mono q6.size)).size); clear H0; have H0 := HS.out _ q7; (try dsimp only at H0))))
 go_wp2_with fail
 have hbq := hbW.trans (q11.mono hbW.size)
 obtain ⟨X, hX, KX, NX, OX⟩ := storeG (k' := kd E) (p' := (E.2.1 : Int)) (s' := s11) (A' := A11) (n' := l11.length) (c' := c11) (S' := ⟨#[]⟩) (B' := B11) (m' := 0) (d' := d11) (e' := E.2.2) (K2.on q11)
 rw [hX]
 exact ret_cellT rfl Tryz.underlying36 rgot_size rfl rfl KX.h rfl ⟨s11, A11, c11, l11, B11, d11, rfl, I11.nudge NX, (hbq).trans (NX.low.mono (by omega))⟩
theorem RSub_calls (a b : VA) (w : World) (ha : a.At w) (hb : b.At w) : Calls Tryz.prog 41 #[a.val, b.val] w (RetG (subX a b) w) := by
 unfold subX
 cases hok : (a.ok && b.ok)
 · rw [two_no hok]
   exact RSub_no a b w ha hb hok
 · rw [two_ok hok]
   obtain ⟨h1, h2⟩ := Bool.and_eq_true_iff.1 hok
   obtain ⟨p, s1, A1, c1, l1, B1, d1, e1, i1, D1, -, q1⟩ := VA.destruct ha.rd.words h1
   obtain ⟨q, s2, A2, c2, l2, B2, d2, e2, i2, D2, -, q2⟩ := VA.destruct hb.rd.words h2
   unfold VA.u
   rw [q1, q2]
   generalize a.z = za at *
   generalize b.z = zb at *
   subst e1 e2
   exact RSub_z s1 s2 A1 A2 c1 c2 l1 l2 za zb p q B1 B2 d1 d2 w ⟨ha.rd, ha.cap, i1⟩ ⟨hb.rd, hb.cap, i2⟩ D1 D2
theorem RMul_no (a b : VA) (w : World) (ha : a.At w) (hb : b.At w) (hno : (a.ok && b.ok) = false) :
 Calls Tryz.prog 42 #[a.val, b.val] w (RetG (err 2) w) := by
 obtain ⟨W, hW, hbW, K0, K1, K2, hszW⟩ := box3 w #[.int .i64 a.k, .int .i64 a.p, .bool a.s, .slice a.A a.l.length a.c, .string a.S, .slice a.B a.m a.d] 27 #[.int .i64 b.k, .int .i64 b.p, .bool b.s, .slice b.A b.l.length b.c, .string b.S, .slice b.B b.m b.d] 27 #[.int .i64 0, .int .i64 0, .bool false, .slice none 0 0, .string ⟨#[]⟩, .slice none 0 0, .int .i64 0] 36
 obtain ⟨x0, x1, x2, x3, x4, x5⟩ := cL6 K0.h
 obtain ⟨y0, y1, y2, y3, y4, y5⟩ := cL6 K1.h
 obtain ⟨e0, e1, e2, e3, e4, e5, e6⟩ := cL7 K2.h
 obtain ⟨f0, f1, f2, f3, f4, f5, f6⟩ := fZ7 K2.h
 have h1 := fun W' (h : Below W.heap.size W W') => is_c a W' ((ha.on hbW).on h)
 have h2 := fun W' (h : Below W.heap.size W W') => is_c b W' ((hb.on hbW).on h)
 cases hok : a.ok
 · rw [hok] at h1
   go_enter Tryz.func42, Tryz.ntmps42
   go_wp2_with (go_at_call 31; refine (h1 _ (Below.refl _ _)).mono ?_; rintro e w5 ⟨rfl, b5⟩; clear e0 e1 e2 e3 e4 e5 e6 f0 f1 f2 f3 f4 f5 f6; obtain ⟨e0, e1, e2, e3, e4, e5, e6⟩ := cL7 (K2.on b5).h; obtain ⟨f0, f1, f2, f3, f4, f5, f6⟩ := fZ7 (K2.on b5).h)
   obtain ⟨X, hX, KX, NX, OX⟩ := storeG (k' := 0) (p' := 0) (s' := false) (A' := none) (n' := 0) (c' := 0) (S' := ⟨#[]⟩) (B' := none) (m' := 0) (d' := 0) (e' := 2) (K2.on b5)
   rw [hX]
   exact ret_cellT rfl Tryz.underlying36 rgot_size rfl rfl KX.h rfl (retG_err 2 (by decide) ((hbW.trans (b5.mono hbW.size)).trans (NX.low.mono (by omega))))
 · have hok2 : b.ok = false := by rw [hok] at hno; simpa using hno
   rw [hok] at h1
   rw [hok2] at h2
   go_enter Tryz.func42, Tryz.ntmps42
   go_wp2_with first
    | (go_at_call 31; have hmark := b5; refine (h2 _ b5).mono ?_; rintro e w6 ⟨rfl, b6⟩; have q6 := b5.trans (b6.mono b5.size); clear e0 e1 e2 e3 e4 e5 e6 f0 f1 f2 f3 f4 f5 f6; obtain ⟨e0, e1, e2, e3, e4, e5, e6⟩ := cL7 (K2.on q6).h; obtain ⟨f0, f1, f2, f3, f4, f5, f6⟩ := fZ7 (K2.on q6).h)
    | (go_at_call 31; refine (h1 _ (Below.refl _ _)).mono ?_; clear h1; rintro e w5 ⟨rfl, b5⟩; clear y0 y1 y2 y3 y4 y5; obtain ⟨y0, y1, y2, y3, y4, y5⟩ := cL6 (K1.on b5).h)
   obtain ⟨X, hX, KX, NX, OX⟩ := storeG (k' := 0) (p' := 0) (s' := false) (A' := none) (n' := 0) (c' := 0) (S' := ⟨#[]⟩) (B' := none) (m' := 0) (d' := 0) (e' := 2) (K2.on q6)
   rw [hX]
   exact ret_cellT rfl Tryz.underlying36 rgot_size rfl rfl KX.h rfl (retG_err 2 (by decide) ((hbW.trans (q6.mono hbW.size)).trans (NX.low.mono (by omega))))
theorem RMul_z (n1 n2 : Bool) (A1 A2 : Option Addr) (c1 c2 : Nat) (l1 l2 : List Nat) (z1 z2 : Int) (p q : Nat) (B1 B2 : Option Addr) (d1 d2 : Nat) (w : World) (I1 : IV w n1 A1 c1 l1 z1) (I2 : IV w n2 A2 c2 l2 z2) (D1 : IsD z1 p) (D2 : IsD z2 q) :
 Calls Tryz.prog 42 #[(vv 3 (p : Int) n1 A1 l1.length c1 ⟨#[]⟩ B1 0 d1), (vv 3 (q : Int) n2 A2 l2.length c2 ⟨#[]⟩ B2 0 d2)] w (RetG (stripE (nearZ (unitsZ z1 p * unitsZ z2 q) (10 ^ 20))) w) := by
 have va : (VA.mk 3 (p : Int) n1 A1 c1 l1 ⟨#[]⟩ B1 0 d1).At w := ⟨I1.rd, I1.cap⟩
 have vb : (VA.mk 3 (q : Int) n2 A2 c2 l2 ⟨#[]⟩ B2 0 d2).At w := ⟨I2.rd, I2.cap⟩
 obtain ⟨W, hW, hbW, K0, K1, K2, hszW⟩ := box3 w #[.int .i64 3, .int .i64 (p : Int), .bool n1, .slice A1 l1.length c1, .string ⟨#[]⟩, .slice B1 0 d1] 27 #[.int .i64 3, .int .i64 (q : Int), .bool n2, .slice A2 l2.length c2, .string ⟨#[]⟩, .slice B2 0 d2] 27 #[.int .i64 0, .int .i64 0, .bool false, .slice none 0 0, .string ⟨#[]⟩, .slice none 0 0, .int .i64 0] 36
 obtain ⟨x0, x1, x2, x3, x4, x5⟩ := cL6 K0.h
 obtain ⟨y0, y1, y2, y3, y4, y5⟩ := cL6 K1.h
 have h1 := fun W' (h : Below W.heap.size W W') => is_c (VA.mk 3 (p : Int) n1 A1 c1 l1 ⟨#[]⟩ B1 0 d1) W' ((va.on hbW).on h)
 have h2 := fun W' (h : Below W.heap.size W W') => is_c (VA.mk 3 (q : Int) n2 A2 c2 l2 ⟨#[]⟩ B2 0 d2) W' ((vb.on hbW).on h)
 rw [VA.ok_made I1.isZ D1] at h1
 rw [VA.ok_made I2.isZ D2] at h2
 have J1 := I1.on hbW
 have J2 := I2.on hbW
 have f1 := D1.lz
 have f2 := D2.lz
 have hp := D1.hi
 have hq := D2.hi
 rw [← mul_units z1 z2 hp hq, ← Int.pow_add]
 have hx : IntKind.i64.wrap ((p : Int) + (q : Int)) = ((p + q : Nat) : Int) := by rw [IntKind.wrap_i64]; omega
 have hT : ∀ W', Calls Tryz.prog 35 #[.int .i64 ((p + q : Nat) : Int)] W' (RetI (10 ^ (p + q)) W') := fun W' => Ten_i (p + q) (by omega) W'
 have hml := fun W' (h : Below W.heap.size W W') => rtimes_i n1 n2 A1 A2 c1 c2 l1 l2 z1 z2 W' (J1.on h) (J2.on h) f1 f2 (by decide) (by decide)
 have fm := f1.mul f2
 have ft : Lz 8 ((10 : Int) ^ (p + q)) := lz_ten_eight (p + q) (by omega)
 have ht : (10 : Int) ^ (p + q) ≠ 0 := Int.ne_of_gt (ten_pos (p + q))
 generalize (10 : Int) ^ (p + q) = t at *
 generalize z1 * z2 = m at *
 have hU := fun W' s A c l s' A' c' l' (I : IV W' s A c l m) (I' : IV W' s' A' c' l' t) => units_i s s' A A' c c' l l' m t W' I I' fm ft (by decide) (by decide) ht
 obtain ⟨E, hE⟩ : ∃ E, stripE (nearZ (m * 10 ^ 20) t) = E := ⟨_, rfl⟩
 rw [hE] at hU ⊢
 generalize p + q = pq at *
 clear hE fm ft ht
 clear va vb I1 I2
 have lw := hszW
 replace hszW := Lib.hid hszW
 go_enter Tryz.func42, Tryz.ntmps42
 go_upto_region 3 with first
  | (go_at_call 31; have hmark := b5; refine (h2 _ b5).mono ?_; rintro e w6 ⟨rfl, b6⟩; have q6 := b5.trans (b6.mono b5.size))
  | (go_at_call 31; refine (h1 _ (Below.refl _ _)).mono ?_; clear h1; rintro e w5 ⟨rfl, b5⟩; clear y0 y1 y2 y3 y4 y5; obtain ⟨y0, y1, y2, y3, y4, y5⟩ := cL6 (K1.on b5).h)
 have HS : ∀ W', Below W.heap.size W W' → (fun w'' => VK w'' w.heap.size 3 (p : Int) n1 A1 l1.length c1 ⟨#[]⟩ B1 0 d1 ∧ VK w'' (w.heap.size + 1) 3 (q : Int) n2 A2 l2.length c2 ⟨#[]⟩ B2 0 d2) W' := fun W' h => ⟨vk_of K0 h, vk_of K1 h⟩
 have H0 := HS _ q6
 replace HS := Lib.hid HS
 try dsimp only at H0
 have n0 : w.heap.size ≠ w.heap.size + 1 + 1 := by omega
 have n1' : w.heap.size + 1 ≠ w.heap.size + 1 + 1 := by omega
 clear x0 x1 x2 x3 x4 x5 y0 y1 y2 y3 y4 y5 h2 lw
 go_region_held3 (fun w'' => VK w'' w.heap.size 3 (p : Int) n1 A1 l1.length c1 ⟨#[]⟩ B1 0 d1 ∧ VK w'' (w.heap.size + 1) 3 (q : Int) n2 A2 l2.length c2 ⟨#[]⟩ B2 0 d2) ((first | (with_reducible exact H0) | (with_reducible exact ⟨vk_drew H0.1, vk_drew H0.2⟩) | (with_reducible exact ⟨vk_s7 H0.1 n0, vk_s7 H0.2 n1'⟩)))
  ((first
   | (go_at_call 95; have hmark := q8; refine (hU _ _ _ _ _ _ _ _ _ (I7.on b8) I8).mono ?_; rintro e w9 ⟨s9, A9, c9, l9, B9, d9, rfl, I9, b9⟩; have q9 := q8.trans (b9.mono q8.size); clear H0; have H0 := HS.out _ q9; (try dsimp only at H0); obtain ⟨e0, e1, e2, e3, e4, e5, e6⟩ := cL7 (K2.on q9).h; obtain ⟨f0, f1, f2, f3, f4, f5, f6⟩ := fZ7 (K2.on q9).h)
   | (go_at_call 35; have hmark := q7; refine (hT _).mono ?_; rintro e w8 ⟨s8, A8, c8, l8, rfl, I8, b8⟩; have q8 := q7.trans (b8.mono q7.size); clear H0; have H0 := HS.out _ q8; (try dsimp only at H0))
   | (go_at_call 34; refine (hml _ (q6.trans ((below_drew (Below.refl w6.heap.size w6)).mono q6.size))).mono ?_; rintro e w7 ⟨s7, A7, c7, l7, rfl, I7, b7⟩; have q7 := (q6.trans ((below_drew (Below.refl w6.heap.size w6)).mono q6.size)).trans (b7.mono (q6.trans ((below_drew (Below.refl w6.heap.size w6)).mono q6.size)).size); clear H0; have H0 := HS.out _ q7; (try dsimp only at H0))))
 go_wp2_with fail
 have hbq := hbW.trans (q9.mono hbW.size)
 obtain ⟨X, hX, KX, NX, OX⟩ := storeG (k' := kd E) (p' := (E.2.1 : Int)) (s' := s9) (A' := A9) (n' := l9.length) (c' := c9) (S' := ⟨#[]⟩) (B' := B9) (m' := 0) (d' := d9) (e' := E.2.2) (K2.on q9)
 rw [hX]
 exact ret_cellT rfl Tryz.underlying36 rgot_size rfl rfl KX.h rfl ⟨s9, A9, c9, l9, B9, d9, rfl, I9.nudge NX, (hbq).trans (NX.low.mono (by omega))⟩
theorem RMul_calls (a b : VA) (w : World) (ha : a.At w) (hb : b.At w) : Calls Tryz.prog 42 #[a.val, b.val] w (RetG (mulX a b) w) := by
 unfold mulX
 cases hok : (a.ok && b.ok)
 · rw [two_no hok]
   exact RMul_no a b w ha hb hok
 · rw [two_ok hok]
   obtain ⟨h1, h2⟩ := Bool.and_eq_true_iff.1 hok
   obtain ⟨p, s1, A1, c1, l1, B1, d1, e1, i1, D1, -, q1⟩ := VA.destruct ha.rd.words h1
   obtain ⟨q, s2, A2, c2, l2, B2, d2, e2, i2, D2, -, q2⟩ := VA.destruct hb.rd.words h2
   unfold VA.u
   rw [q1, q2]
   generalize a.z = za at *
   generalize b.z = zb at *
   subst e1 e2
   exact RMul_z s1 s2 A1 A2 c1 c2 l1 l2 za zb p q B1 B2 d1 d2 w ⟨ha.rd, ha.cap, i1⟩ ⟨hb.rd, hb.cap, i2⟩ D1 D2
theorem RDiv_no (a b : VA) (w : World) (ha : a.At w) (hb : b.At w) (hno : (a.ok && b.ok) = false) :
 Calls Tryz.prog 43 #[a.val, b.val] w (RetG (err 2) w) := by
 obtain ⟨W, hW, hbW, K0, K1, K2, hszW⟩ := box3 w #[.int .i64 a.k, .int .i64 a.p, .bool a.s, .slice a.A a.l.length a.c, .string a.S, .slice a.B a.m a.d] 27 #[.int .i64 b.k, .int .i64 b.p, .bool b.s, .slice b.A b.l.length b.c, .string b.S, .slice b.B b.m b.d] 27 #[.int .i64 0, .int .i64 0, .bool false, .slice none 0 0, .string ⟨#[]⟩, .slice none 0 0, .int .i64 0] 36
 obtain ⟨x0, x1, x2, x3, x4, x5⟩ := cL6 K0.h
 obtain ⟨y0, y1, y2, y3, y4, y5⟩ := cL6 K1.h
 obtain ⟨e0, e1, e2, e3, e4, e5, e6⟩ := cL7 K2.h
 obtain ⟨f0, f1, f2, f3, f4, f5, f6⟩ := fZ7 K2.h
 have h1 := fun W' (h : Below W.heap.size W W') => is_c a W' ((ha.on hbW).on h)
 have h2 := fun W' (h : Below W.heap.size W W') => is_c b W' ((hb.on hbW).on h)
 cases hok : a.ok
 · rw [hok] at h1
   go_enter Tryz.func43, Tryz.ntmps43
   go_wp2_with (go_at_call 31; refine (h1 _ (Below.refl _ _)).mono ?_; rintro e w5 ⟨rfl, b5⟩; clear e0 e1 e2 e3 e4 e5 e6 f0 f1 f2 f3 f4 f5 f6; obtain ⟨e0, e1, e2, e3, e4, e5, e6⟩ := cL7 (K2.on b5).h; obtain ⟨f0, f1, f2, f3, f4, f5, f6⟩ := fZ7 (K2.on b5).h)
   obtain ⟨X, hX, KX, NX, OX⟩ := storeG (k' := 0) (p' := 0) (s' := false) (A' := none) (n' := 0) (c' := 0) (S' := ⟨#[]⟩) (B' := none) (m' := 0) (d' := 0) (e' := 2) (K2.on b5)
   rw [hX]
   exact ret_cellT rfl Tryz.underlying36 rgot_size rfl rfl KX.h rfl (retG_err 2 (by decide) ((hbW.trans (b5.mono hbW.size)).trans (NX.low.mono (by omega))))
 · have hok2 : b.ok = false := by rw [hok] at hno; simpa using hno
   rw [hok] at h1
   rw [hok2] at h2
   go_enter Tryz.func43, Tryz.ntmps43
   go_wp2_with first
    | (go_at_call 31; have hmark := b5; refine (h2 _ b5).mono ?_; rintro e w6 ⟨rfl, b6⟩; have q6 := b5.trans (b6.mono b5.size); clear e0 e1 e2 e3 e4 e5 e6 f0 f1 f2 f3 f4 f5 f6; obtain ⟨e0, e1, e2, e3, e4, e5, e6⟩ := cL7 (K2.on q6).h; obtain ⟨f0, f1, f2, f3, f4, f5, f6⟩ := fZ7 (K2.on q6).h)
    | (go_at_call 31; refine (h1 _ (Below.refl _ _)).mono ?_; clear h1; rintro e w5 ⟨rfl, b5⟩; clear y0 y1 y2 y3 y4 y5; obtain ⟨y0, y1, y2, y3, y4, y5⟩ := cL6 (K1.on b5).h)
   obtain ⟨X, hX, KX, NX, OX⟩ := storeG (k' := 0) (p' := 0) (s' := false) (A' := none) (n' := 0) (c' := 0) (S' := ⟨#[]⟩) (B' := none) (m' := 0) (d' := 0) (e' := 2) (K2.on q6)
   rw [hX]
   exact ret_cellT rfl Tryz.underlying36 rgot_size rfl rfl KX.h rfl (retG_err 2 (by decide) ((hbW.trans (q6.mono hbW.size)).trans (NX.low.mono (by omega))))
theorem RDiv_z (n1 n2 : Bool) (A1 A2 : Option Addr) (c1 c2 : Nat) (l1 l2 : List Nat) (z1 z2 : Int) (p q : Nat) (B1 B2 : Option Addr) (d1 d2 : Nat) (w : World) (I1 : IV w n1 A1 c1 l1 z1) (I2 : IV w n2 A2 c2 l2 z2) (D1 : IsD z1 p) (D2 : IsD z2 q) :
 Calls Tryz.prog 43 #[(vv 3 (p : Int) n1 A1 l1.length c1 ⟨#[]⟩ B1 0 d1), (vv 3 (q : Int) n2 A2 l2.length c2 ⟨#[]⟩ B2 0 d2)] w (RetG (if z2 = 0 then err 20 else stripE (nearZ (unitsZ z1 p * 10 ^ 20) (unitsZ z2 q))) w) := by
 have va : (VA.mk 3 (p : Int) n1 A1 c1 l1 ⟨#[]⟩ B1 0 d1).At w := ⟨I1.rd, I1.cap⟩
 have vb : (VA.mk 3 (q : Int) n2 A2 c2 l2 ⟨#[]⟩ B2 0 d2).At w := ⟨I2.rd, I2.cap⟩
 obtain ⟨W, hW, hbW, K0, K1, K2, hszW⟩ := box3 w #[.int .i64 3, .int .i64 (p : Int), .bool n1, .slice A1 l1.length c1, .string ⟨#[]⟩, .slice B1 0 d1] 27 #[.int .i64 3, .int .i64 (q : Int), .bool n2, .slice A2 l2.length c2, .string ⟨#[]⟩, .slice B2 0 d2] 27 #[.int .i64 0, .int .i64 0, .bool false, .slice none 0 0, .string ⟨#[]⟩, .slice none 0 0, .int .i64 0] 36
 obtain ⟨x0, x1, x2, x3, x4, x5⟩ := cL6 K0.h
 obtain ⟨y0, y1, y2, y3, y4, y5⟩ := cL6 K1.h
 have h1 := fun W' (h : Below W.heap.size W W') => is_c (VA.mk 3 (p : Int) n1 A1 c1 l1 ⟨#[]⟩ B1 0 d1) W' ((va.on hbW).on h)
 have h2 := fun W' (h : Below W.heap.size W W') => is_c (VA.mk 3 (q : Int) n2 A2 c2 l2 ⟨#[]⟩ B2 0 d2) W' ((vb.on hbW).on h)
 rw [VA.ok_made I1.isZ D1] at h1
 rw [VA.ok_made I2.isZ D2] at h2
 have J1 := I1.on hbW
 have J2 := I2.on hbW
 have f1 := D1.lz
 have f2 := D2.lz
 have hp := D1.hi
 have hq := D2.hi
 rw [← div_units z1 z2 hp hq]
 have hz := fun W' (h : Below W.heap.size W W') => rzero_c n2 A2 c2 l2 z2 W' (J2.on h)
 have hTq : ∀ W', Calls Tryz.prog 35 #[.int .i64 (q : Int)] W' (RetI (10 ^ q) W') := fun W' => Ten_i q (by omega) W'
 have hTp : ∀ W', Calls Tryz.prog 35 #[.int .i64 (p : Int)] W' (RetI (10 ^ p) W') := fun W' => Ten_i p (by omega) W'
 have ft : Lz 8 ((10 : Int) ^ q) := lz_ten_eight q (by omega)
 have ft' : Lz 8 ((10 : Int) ^ p) := lz_ten_eight p (by omega)
 have tp : (10 : Int) ^ p ≠ 0 := Int.ne_of_gt (ten_pos p)
 have hm1 := fun W' (h : Below W.heap.size W W') s A c l (I : IV W' s A c l (10 ^ q)) => rtimes_i n1 s A1 A c1 c l1 l z1 (10 ^ q) W' (J1.on h) I f1 ft (by decide) (by decide)
 have hm2 := fun W' (h : Below W.heap.size W W') s A c l (I : IV W' s A c l (10 ^ p)) => rtimes_i n2 s A2 A c2 c l2 l z2 (10 ^ p) W' (J2.on h) I f2 ft' (by decide) (by decide)
 have fm := f1.mul ft
 have fm' := f2.mul ft'
 have h0' : z2 ≠ 0 → z2 * 10 ^ p ≠ 0 := fun h => Int.mul_ne_zero h tp
 generalize (10 : Int) ^ q = t at *
 generalize (10 : Int) ^ p = t' at *
 generalize z1 * t = m at *
 generalize z2 * t' = m' at *
 have hU := fun (h0 : m' ≠ 0) W' s A c l s' A' c' l' (I : IV W' s A c l m) (I' : IV W' s' A' c' l' m') => units_i s s' A A' c c' l l' m m' W' I I' fm fm' (by decide) (by decide) h0
 clear fm fm' ft ft' tp
 obtain ⟨E, hE⟩ : ∃ E, stripE (nearZ (m * 10 ^ 20) m') = E := ⟨_, rfl⟩
 simp only [hE] at hU
 rw [hE]
 clear hE
 clear va vb I1 I2
 have lw := hszW
 replace hszW := Lib.hid hszW
 go_enter Tryz.func43, Tryz.ntmps43
 go_upto_region 3 with first
  | (go_at_call 31; have hmark := b5; refine (h2 _ b5).mono ?_; rintro e w6 ⟨rfl, b6⟩; have q6 := b5.trans (b6.mono b5.size))
  | (go_at_call 31; refine (h1 _ (Below.refl _ _)).mono ?_; clear h1; rintro e w5 ⟨rfl, b5⟩; clear y0 y1 y2 y3 y4 y5; obtain ⟨y0, y1, y2, y3, y4, y5⟩ := cL6 (K1.on b5).h)
 replace hz := hz _ q6
 have e0 := cell_at (K2.on q6).h 0 _ rfl
 clear e0
 clear x0 x1 x2 x3 x4 x5 y0 y1 y2 y3 y4 y5 h2
 obtain ⟨y0, y1, y2, y3, y4, y5⟩ := cL6 (K1.on q6).h
 by_cases h0 : z2 = 0
 · rw [if_pos h0]
   rw [decide_eq_true h0] at hz
   clear hU h0'
   go_wp2_with (go_at_call 93; refine hz.mono ?_; rintro e w7 ⟨rfl, b7⟩; have q7 := q6.trans (b7.mono q6.size); obtain ⟨e0, e1, e2, e3, e4, e5, e6⟩ := cL7 (K2.on q7).h; obtain ⟨f0, f1, f2, f3, f4, f5, f6⟩ := fZ7 (K2.on q7).h)
   obtain ⟨X, hX, KX, NX, OX⟩ := storeG (k' := 0) (p' := 0) (s' := false) (A' := none) (n' := 0) (c' := 0) (S' := ⟨#[]⟩) (B' := none) (m' := 0) (d' := 0) (e' := 20) (K2.on q7)
   rw [hX]
   exact ret_cellT rfl Tryz.underlying36 rgot_size rfl rfl KX.h rfl (retG_err 20 (by decide) ((hbW.trans (q7.mono hbW.size)).trans (NX.low.mono (by omega))))
 · rw [if_neg h0]
   rw [decide_eq_false h0] at hz
   replace hU := hU (h0' h0)
   clear h0'
   go_upto_region 5 with (go_at_call 93; refine hz.mono ?_; rintro e w7 ⟨rfl, b7⟩; have q7 := q6.trans (b7.mono q6.size))
   have HS : ∀ W', Below W.heap.size W W' → (fun w'' => VK w'' w.heap.size 3 (p : Int) n1 A1 l1.length c1 ⟨#[]⟩ B1 0 d1 ∧ VK w'' (w.heap.size + 1) 3 (q : Int) n2 A2 l2.length c2 ⟨#[]⟩ B2 0 d2) W' := fun W' h => ⟨vk_of K0 h, vk_of K1 h⟩
   have H0 := HS _ q7
   replace HS := Lib.hid HS
   try dsimp only at H0
   have n0 : w.heap.size ≠ w.heap.size + 1 + 1 := by omega
   have n1' : w.heap.size + 1 ≠ w.heap.size + 1 + 1 := by omega
   clear y0 y1 y2 y3 y4 y5 lw
   go_region_held3 (fun w'' => VK w'' w.heap.size 3 (p : Int) n1 A1 l1.length c1 ⟨#[]⟩ B1 0 d1 ∧ VK w'' (w.heap.size + 1) 3 (q : Int) n2 A2 l2.length c2 ⟨#[]⟩ B2 0 d2) ((first | (with_reducible exact H0) | (with_reducible exact ⟨vk_drew H0.1, vk_drew H0.2⟩) | (with_reducible exact ⟨vk_s7 H0.1 n0, vk_s7 H0.2 n1'⟩)))
    ((first
     | (go_at_call 95; have hmark := q11; refine (hU _ _ _ _ _ _ _ _ _ (I9.on (b10.trans (b11.mono b10.size))) I11).mono ?_; rintro e w12 ⟨s12, A12, c12, l12, B12, d12, rfl, I12, b12⟩; have q12 := q11.trans (b12.mono q11.size); clear H0; have H0 := HS.out _ q12; (try dsimp only at H0); obtain ⟨e0, e1, e2, e3, e4, e5, e6⟩ := cL7 (K2.on q12).h; obtain ⟨f0, f1, f2, f3, f4, f5, f6⟩ := fZ7 (K2.on q12).h)
     | (go_at_call 34; have hmark := q10; refine (hm2 _ q10 _ _ _ _ I10).mono ?_; rintro e w11 ⟨s11, A11, c11, l11, rfl, I11, b11⟩; have q11 := q10.trans (b11.mono q10.size); clear H0; have H0 := HS.out _ q11; (try dsimp only at H0))
     | (go_at_call 35; have hmark := q9; refine (hTp _).mono ?_; rintro e w10 ⟨s10, A10, c10, l10, rfl, I10, b10⟩; have q10 := q9.trans (b10.mono q9.size); clear H0; have H0 := HS.out _ q10; (try dsimp only at H0))
     | (go_at_call 34; have hmark := q8; refine (hm1 _ q8 _ _ _ _ I8).mono ?_; rintro e w9 ⟨s9, A9, c9, l9, rfl, I9, b9⟩; have q9 := q8.trans (b9.mono q8.size); clear H0; have H0 := HS.out _ q9; (try dsimp only at H0))
     | (go_at_call 35; refine (hTq _).mono ?_; rintro e w8 ⟨s8, A8, c8, l8, rfl, I8, b8⟩; have q8 := (q7.trans ((below_drew (Below.refl w7.heap.size w7)).mono q7.size)).trans (b8.mono (q7.trans ((below_drew (Below.refl w7.heap.size w7)).mono q7.size)).size); clear H0; have H0 := HS.out _ q8; (try dsimp only at H0))))
   go_wp2_with fail
   have hbq := hbW.trans (q12.mono hbW.size)
   obtain ⟨X, hX, KX, NX, OX⟩ := storeG (k' := kd E) (p' := (E.2.1 : Int)) (s' := s12) (A' := A12) (n' := l12.length) (c' := c12) (S' := ⟨#[]⟩) (B' := B12) (m' := 0) (d' := d12) (e' := E.2.2) (K2.on q12)
   rw [hX]
   exact ret_cellT rfl Tryz.underlying36 rgot_size rfl rfl KX.h rfl ⟨s12, A12, c12, l12, B12, d12, rfl, I12.nudge NX, (hbq).trans (NX.low.mono (by omega))⟩
theorem RDiv_calls (a b : VA) (w : World) (ha : a.At w) (hb : b.At w) : Calls Tryz.prog 43 #[a.val, b.val] w (RetG (divX a b) w) := by
 unfold divX
 cases hok : (a.ok && b.ok)
 · rw [two_no hok]
   exact RDiv_no a b w ha hb hok
 · rw [two_ok hok]
   obtain ⟨h1, h2⟩ := Bool.and_eq_true_iff.1 hok
   obtain ⟨p, s1, A1, c1, l1, B1, d1, e1, i1, D1, -, q1⟩ := VA.destruct ha.rd.words h1
   obtain ⟨q, s2, A2, c2, l2, B2, d2, e2, i2, D2, -, q2⟩ := VA.destruct hb.rd.words h2
   unfold VA.u
   rw [q1, q2]
   generalize a.z = za at *
   generalize b.z = zb at *
   subst e1 e2
   exact RDiv_z s1 s2 A1 A2 c1 c2 l1 l2 za zb p q B1 B2 d1 d2 w ⟨ha.rd, ha.cap, i1⟩ ⟨hb.rd, hb.cap, i2⟩ D1 D2
end Dc
end Go.Proofs.YtjghnghceeijeaaGreatDoor
