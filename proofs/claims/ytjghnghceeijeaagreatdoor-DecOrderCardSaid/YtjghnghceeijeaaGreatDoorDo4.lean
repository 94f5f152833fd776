/-
  Contracts of the walks below.
-/
import Derived.Test.YtjghnghceeijeaaGreatDoorDo3
set_option maxRecDepth 100000
set_option maxHeartbeats 4000000
set_option linter.unusedVariables false
set_option linter.unusedSimpArgs false
namespace Go.Proofs.YtjghnghceeijeaaGreatDoor
namespace Dc
open Go.RowKit Go.Shelf Go.BigFrame Go.Proofs.YtjghnghceeijeaaGreatDoor.Nm
attribute [local go_sem] Oper.semAt_some
def PostN (g : Nat) (x : Int × Int) (w : World) (e : Ending) (w' : World) : Prop := Went x.2 e ∧ Off (fun k => k = g) w w' ∧ Blk w' g #[.int .i64 x.1] 3
theorem cell1_no {k : Int} (i x : Nat) : ((#[.int .i64 k] : Array Value))[i]? ≠ some (.int .u32 (x : Int)) := by
 intro h
 rcases i with _ | i <;> simp at h
theorem storeN {W : World} {g : Nat} {t : TypeId} {k k' : Int} (h : Blk W g #[.int .i64 k] t) :
 ∃ X, W.setCell ⟨g, 0, none⟩ (.int .i64 k') = X ∧ Blk X g #[.int .i64 k'] t ∧ Nudge g W X ∧ Off (fun k => k = g) W X :=
 ⟨_, rfl, ⟨set_blk h.h 0 _⟩, (Nudge.of_below (.refl _ W) (Nat.le_of_lt (blk_lt h))).set (Nat.le_refl _) h cell1_no 0 _, (Off.refl (fun k => k = g) W).set (.inl rfl) 0 _⟩
theorem cmp_scale {x y k : Int} (hk : 0 < k) : cmpZ (x * k) (y * k) = cmpZ x y := by
 unfold cmpZ
 by_cases h1 : x < y
 · rw [if_pos h1, if_pos (Int.mul_lt_mul_of_pos_right h1 hk)]
 · rw [if_neg h1, if_neg (fun h => h1 (Int.lt_of_mul_lt_mul_right h (Int.le_of_lt hk)))]
   by_cases h2 : y < x
   · rw [if_pos h2, if_pos (Int.mul_lt_mul_of_pos_right h2 hk)]
   · rw [if_neg h2, if_neg (fun h => h2 (Int.lt_of_mul_lt_mul_right h (Int.le_of_lt hk)))]
theorem cmp_same {x y : Int} {p q : Nat} (hp : p ≤ 20) (hq : q ≤ 20) : cmpZ (x * 10 ^ (max p q - p)) (y * 10 ^ (max p q - q)) = cmpZ (unitsZ x p) (unitsZ y q) := by
 rw [← cmp_scale (x := x * 10 ^ (max p q - p)) (ten_pos (20 - max p q)), Int.mul_assoc, Int.mul_assoc, ← Int.pow_add, ← Int.pow_add, show max p q - p + (20 - max p q) = 20 - p by omega, show max p q - q + (20 - max p q) = 20 - q by omega]
 rfl
theorem compare1_no (a b : VA) (ga gb gc : Nat) (w : World) (Ka : Blk w ga #[.int .i64 a.k, .int .i64 a.p, .bool a.s, .slice a.A a.l.length a.c, .string a.S, .slice a.B a.m a.d] 27) (Kb : Blk w gb #[.int .i64 b.k, .int .i64 b.p, .bool b.s, .slice b.A b.l.length b.c, .string b.S, .slice b.B b.m b.d] 27) (Kc : Blk w gc #[.int .i64 0] 3) (ha : a.At w) (hb : b.At w) (hno : (a.ok && b.ok) = false) :
 Calls Tryz.prog 125 #[.pointer (some ⟨ga, 0, none⟩), .pointer (some ⟨gb, 0, none⟩), .pointer (some ⟨gc, 0, none⟩)] w (PostN gc (0, 2) w) := by
 have hdc := decimals_c w.heap.size [a, b] (w.alloc (.cells #[.int .i64 a.k, .int .i64 a.p, .bool a.s, .slice a.A a.l.length a.c, .string a.S, .slice a.B a.m a.d, .int .i64 b.k, .int .i64 b.p, .bool b.s, .slice b.A b.l.length b.c, .string b.S, .slice b.B b.m b.d] 27)) (by simp) (vals_two a b _ _ ⟨World.alloc_heap_new w _⟩ (ha.on (al1 w _)) (hb.on (al1 w _))) (by simp)
 rw [decE_two, if_neg (by rw [hno]; decide)] at hdc
 clear hno
 obtain ⟨x0, x1, x2, x3, x4, x5⟩ := cL6 Ka.h
 obtain ⟨y0, y1, y2, y3, y4, y5⟩ := cL6 Kb.h
 have a1 := al1 w (.cells #[.int .i64 a.k, .int .i64 a.p, .bool a.s, .slice a.A a.l.length a.c, .string a.S, .slice a.B a.m a.d, .int .i64 b.k, .int .i64 b.p, .bool b.s, .slice b.A b.l.length b.c, .string b.S, .slice b.B b.m b.d] 27)
 go_enter Tryz.func125, Tryz.ntmps125
 go_wp2_with (go_at_call 77; refine hdc.mono ?_; rintro e w5 ⟨hw, b5⟩; obtain rfl := hw.2 (by decide); have q5 := a1.trans (b5.mono a1.size))
 exact ⟨rfl, ⟨fun h => absurd h (by decide), fun _ => rfl⟩, .of_below q5, Kc.on q5⟩
theorem compare1_z (n1 n2 : Bool) (A1 A2 : Option Addr) (c1 c2 : Nat) (l1 l2 : List Nat) (z1 z2 : Int) (p q : Nat) (B1 B2 : Option Addr) (d1 d2 ga gb gc : Nat) (w : World) (Ka : Blk w ga #[.int .i64 3, .int .i64 (p : Int), .bool n1, .slice A1 l1.length c1, .string ⟨#[]⟩, .slice B1 0 d1] 27) (Kb : Blk w gb #[.int .i64 3, .int .i64 (q : Int), .bool n2, .slice A2 l2.length c2, .string ⟨#[]⟩, .slice B2 0 d2] 27) (Kc : Blk w gc #[.int .i64 0] 3) (I1 : IV w n1 A1 c1 l1 z1) (I2 : IV w n2 A2 c2 l2 z2) (D1 : IsD z1 p) (D2 : IsD z2 q) :
 Calls Tryz.prog 125 #[.pointer (some ⟨ga, 0, none⟩), .pointer (some ⟨gb, 0, none⟩), .pointer (some ⟨gc, 0, none⟩)] w (PostN gc (cmpZ (unitsZ z1 p) (unitsZ z2 q), 0) w) := by
 have ha : (VA.mk 3 (p : Int) n1 A1 c1 l1 ⟨#[]⟩ B1 0 d1).At w := ⟨I1.rd, I1.cap⟩
 have hb : (VA.mk 3 (q : Int) n2 A2 c2 l2 ⟨#[]⟩ B2 0 d2).At w := ⟨I2.rd, I2.cap⟩
 have hdc := decimals_c w.heap.size [(VA.mk 3 (p : Int) n1 A1 c1 l1 ⟨#[]⟩ B1 0 d1), (VA.mk 3 (q : Int) n2 A2 c2 l2 ⟨#[]⟩ B2 0 d2)] (w.alloc (.cells #[.int .i64 3, .int .i64 (p : Int), .bool n1, .slice A1 l1.length c1, .string ⟨#[]⟩, .slice B1 0 d1, .int .i64 3, .int .i64 (q : Int), .bool n2, .slice A2 l2.length c2, .string ⟨#[]⟩, .slice B2 0 d2] 27)) (by simp) (vals_two (VA.mk 3 (p : Int) n1 A1 c1 l1 ⟨#[]⟩ B1 0 d1) (VA.mk 3 (q : Int) n2 A2 c2 l2 ⟨#[]⟩ B2 0 d2) _ _ ⟨World.alloc_heap_new w _⟩ (ha.on (al1 w _)) (hb.on (al1 w _))) (by simp)
 rw [decE_two, VA.ok_made I1.isZ D1, VA.ok_made I2.isZ D2, Bool.and_self, if_pos rfl] at hdc
 have hsm := fun W' (h : Below w.heap.size w W') => same_z n1 n2 A1 A2 c1 c2 l1 l2 z1 z2 p q B1 B2 d1 d2 D1.hi D2.hi W' (I1.on h) (I2.on h) D1.lz D2.lz
 rw [← cmp_same D1.hi D2.hi]
 obtain ⟨m, hm⟩ : ∃ m, max p q = m := ⟨_, rfl⟩
 have e1 : Lz 43 (z1 * 10 ^ (max p q - p)) := D1.lz.mul (lz_ten _ (by have := D1.hi; have := D2.hi; omega))
 have e2 : Lz 43 (z2 * 10 ^ (max p q - q)) := D2.lz.mul (lz_ten _ (by have := D1.hi; have := D2.hi; omega))
 rw [hm] at hsm e1 e2 ⊢
 generalize z1 * 10 ^ (m - p) = x at *
 generalize z2 * 10 ^ (m - q) = y at *
 have hcm := fun W' s A c l s' A' c' l' (I : IV W' s A c l x) (I' : IV W' s' A' c' l' y) => Compare_z s s' A A' c c' l l' x y W' I.rd I'.rd I.cap I'.cap (I.ok e1 (by decide)) (I'.ok e2 (by decide))
 generalize cmpZ x y = cc at *
 clear hm e1 e2 D1 D2 ha hb
 obtain ⟨x0, x1, x2, x3, x4, x5⟩ := cL6 Ka.h
 obtain ⟨y0, y1, y2, y3, y4, y5⟩ := cL6 Kb.h
 have a1 := al1 w (.cells #[.int .i64 3, .int .i64 (p : Int), .bool n1, .slice A1 l1.length c1, .string ⟨#[]⟩, .slice B1 0 d1, .int .i64 3, .int .i64 (q : Int), .bool n2, .slice A2 l2.length c2, .string ⟨#[]⟩, .slice B2 0 d2] 27)
 go_enter Tryz.func125, Tryz.ntmps125
 go_wp2_with first
  | (go_at_call 89; have hmark := I6; refine (hcm _ _ _ _ _ _ _ _ _ (iv_up (iv_up I6)) (iv_up (iv_up I7))).mono ?_; rintro e w8 ⟨rfl, b8⟩; have q8 := below_via (below_al (below_al q6 _) _) b8; have v0 := cell_at (Kc.on q8).h 0 _ rfl; have v1 := frozen_at (Kc.on q8).h 0)
  | (go_at_call 126; have hmark := q5; refine (hsm _ q5).mono ?_; rintro e w6 ⟨s6, A6, c6, l6, s7, A7, c7, l7, rfl, I6, I7, b6⟩; have q6 := q5.trans (b6.mono q5.size))
  | (go_at_call 77; refine hdc.mono ?_; rintro e w5 ⟨hw, b5⟩; obtain rfl := hw.1 rfl; have q5 := a1.trans (b5.mono a1.size); clear x0 x1 x2 x3 x4 x5 y0 y1 y2 y3 y4 y5; obtain ⟨x0, x1, x2, x3, x4, x5⟩ := cL6 (Ka.on q5).h; obtain ⟨y0, y1, y2, y3, y4, y5⟩ := cL6 (Kb.on q5).h)
 obtain ⟨X, hX, KX, NX, OX⟩ := storeN (k' := cc) (Kc.on q8)
 rw [hX]
 go_end0
 exact ⟨⟨fun _ => rfl, fun h => absurd rfl h⟩, (Off.of_below q8).trans OX, KX⟩
theorem compare1_all (a b : VA) (ga gb gc : Nat) (w : World) (Ka : Blk w ga #[.int .i64 a.k, .int .i64 a.p, .bool a.s, .slice a.A a.l.length a.c, .string a.S, .slice a.B a.m a.d] 27) (Kb : Blk w gb #[.int .i64 b.k, .int .i64 b.p, .bool b.s, .slice b.A b.l.length b.c, .string b.S, .slice b.B b.m b.d] 27) (Kc : Blk w gc #[.int .i64 0] 3) (ha : a.At w) (hb : b.At w) :
 Calls Tryz.prog 125 #[.pointer (some ⟨ga, 0, none⟩), .pointer (some ⟨gb, 0, none⟩), .pointer (some ⟨gc, 0, none⟩)] w (PostN gc (cmpX a b) w) := by
 unfold cmpX
 cases hok : (a.ok && b.ok)
 · rw [if_neg (by decide)]
   exact compare1_no a b ga gb gc w Ka Kb Kc ha hb hok
 · rw [if_pos rfl]
   rw [Bool.and_eq_true] at hok
   obtain ⟨p, s1, A1, c1, l1, B1, d1, e1, i1, D1, u1, -⟩ := VA.destruct ha.rd.words hok.1
   obtain ⟨q, s2, A2, c2, l2, B2, d2, e2, i2, D2, u2, -⟩ := VA.destruct hb.rd.words hok.2
   rw [u1, u2]
   generalize a.z = za at *
   generalize b.z = zb at *
   subst e1 e2
   exact compare1_z s1 s2 A1 A2 c1 c2 l1 l2 za zb p q B1 B2 d1 d2 ga gb gc w Ka Kb Kc ⟨ha.rd, ha.cap, i1⟩ ⟨hb.rd, hb.cap, i2⟩ D1 D2
theorem DCompare_calls (a b : VA) (w : World) (ha : a.At w) (hb : b.At w) :
 Calls Tryz.prog 48 #[a.val, b.val] w fun e w' => e = .returned (.tuple #[.int .i64 (cmpX a b).1, .int .i64 (cmpX a b).2]) ∧ Below w.heap.size w w' := by
 have hmf := mkf
 obtain ⟨W, hW, hbW, K0, K1, K2, hszW⟩ := box3 w #[.int .i64 a.k, .int .i64 a.p, .bool a.s, .slice a.A a.l.length a.c, .string a.S, .slice a.B a.m a.d] 27 #[.int .i64 b.k, .int .i64 b.p, .bool b.s, .slice b.A b.l.length b.c, .string b.S, .slice b.B b.m b.d] 27 #[.int .i64 0] 3
 have hal : Below W.heap.size W (W.alloc (.cells #[.int .i64 0] 30)) := al1 W _
 have lw := hszW
 have hv := guard_calls 125 #[.pointer (some ⟨w.heap.size, 0, none⟩), .pointer (some ⟨w.heap.size + 1, 0, none⟩), .pointer (some ⟨w.heap.size + 1 + 1, 0, none⟩)] (enters_of Tryz.func125 (by kernel_rfl) rfl) W (cmpX a b).2
  (fun w' => Off (fun k => k = w.heap.size + 1 + 1) w w' ∧ Blk w' (w.heap.size + 1 + 1) #[.int .i64 (cmpX a b).1] 3)
  ((compare1_all a b _ _ _ _ (K0.on hal) (K1.on hal) (K2.on hal) ((ha.on hbW).on hal) ((hb.on hbW).on hal)).mono (by
   rintro e w' ⟨h1, h2, h3⟩
   have hle := h2.size
   rw [World.size_alloc] at hle
   exact ⟨h1, h2.blk (by omega) ⟨World.alloc_heap_new W _⟩, by omega, (Off.of_below (hbW.trans (hal.mono hbW.size))).trans h2, h3⟩))
 obtain ⟨x, hx⟩ : ∃ x, cmpX a b = x := ⟨_, rfl⟩
 rw [hx] at hv ⊢
 obtain ⟨z, er⟩ := x
 dsimp only at hv
 clear hx
 replace hszW := Lib.hid hszW
 replace lw := Lib.hid lw
 go_enter Tryz.func48, Tryz.ntmps48
 go_wp2_with (go_at_call 98; refine hv.mono ?_; rintro e w5 ⟨rfl, w4, ⟨o4, K4⟩, n5⟩; have K5 : Blk w5 (w.heap.size + 1 + 1) #[.int .i64 z] 3 := ⟨(n5.low.block _ (by have := lw.out; omega)).trans K4.h⟩; have u0 := cell_at K5.h 0 _ rfl; have f0 := frozen_at K5.h 0)
 have hb4 : Below w.heap.size w w4 := o4.below (Nat.le_refl _) (by rintro k rfl; omega)
 have hb5 := hb4.trans (n5.low.mono (by have := lw.out; omega))
 have KX : Blk (w5.setCell ⟨w.heap.size + 1 + 1, 0, none⟩ (.int .i64 z)) (w.heap.size + 1 + 1) #[.int .i64 z] 3 := ⟨set_blk K5.h 0 _⟩
 have c5 := cell_at KX.h 0 _ rfl
 refine bodyPost_ret (v := .tuple #[.int .i64 z, .int .i64 er]) ?_ rfl ⟨rfl, hb5.setCell (by dsimp only; omega) _⟩
 rw [results_cell_tmp rfl]
 simp [asAddr, Result.andThen, go_sem, c5]
theorem xadd {n1 n2 : Bool} {A1 A2 : Option Addr} {c1 c2 : Nat} {l1 l2 : List Nat} {z1 z2 : Int} {p q : Nat} {B1 B2 : Option Addr} {d1 d2 : Nat} {w : World} (I1 : IV w n1 A1 c1 l1 z1) (I2 : IV w n2 A2 c2 l2 z2) (D1 : IsD z1 p) (D2 : IsD z2 q) {u : Int} {t : Nat} {e k : Int} (hE : stripE (unitsZ z1 p + unitsZ z2 q) = (u, t, e)) (hk : kd (u, t, e) = k) :
 Calls Tryz.prog 38 #[(vv 3 (p : Int) n1 A1 l1.length c1 ⟨#[]⟩ B1 0 d1), (vv 3 (q : Int) n2 A2 l2.length c2 ⟨#[]⟩ B2 0 d2)] w (RetN k t e u w) := by
 have o : ((VA.mk 3 (p : Int) n1 A1 c1 l1 ⟨#[]⟩ B1 0 d1).ok && (VA.mk 3 (q : Int) n2 A2 c2 l2 ⟨#[]⟩ B2 0 d2).ok) = true := by rw [VA.ok_made I1.isZ D1, VA.ok_made I2.isZ D2]; rfl
 have hx : addX (VA.mk 3 (p : Int) n1 A1 c1 l1 ⟨#[]⟩ B1 0 d1) (VA.mk 3 (q : Int) n2 A2 c2 l2 ⟨#[]⟩ B2 0 d2) = (u, ((t : Int)).toNat, e) := by
  unfold addX
  rw [two_ok o, Int.toNat_natCast, ← hE]
  unfold VA.u
  rw [va_z I1, va_z I2]
  rfl
 exact (DAdd_calls (VA.mk 3 (p : Int) n1 A1 c1 l1 ⟨#[]⟩ B1 0 d1) (VA.mk 3 (q : Int) n2 A2 c2 l2 ⟨#[]⟩ B2 0 d2) w ⟨I1.rd, I1.cap⟩ ⟨I2.rd, I2.cap⟩).mono fun _ _ h => RetN.of h hx hk (Int.natCast_nonneg t)
theorem xmul {n1 n2 : Bool} {A1 A2 : Option Addr} {c1 c2 : Nat} {l1 l2 : List Nat} {z1 z2 : Int} {p q : Nat} {B1 B2 : Option Addr} {d1 d2 : Nat} {w : World} (I1 : IV w n1 A1 c1 l1 z1) (I2 : IV w n2 A2 c2 l2 z2) (D1 : IsD z1 p) (D2 : IsD z2 q) {u : Int} {t : Nat} {e k : Int} (hE : stripE (nearZ (unitsZ z1 p * unitsZ z2 q) (10 ^ 20)) = (u, t, e)) (hk : kd (u, t, e) = k) :
 Calls Tryz.prog 30 #[(vv 3 (p : Int) n1 A1 l1.length c1 ⟨#[]⟩ B1 0 d1), (vv 3 (q : Int) n2 A2 l2.length c2 ⟨#[]⟩ B2 0 d2)] w (RetN k t e u w) := by
 have o : ((VA.mk 3 (p : Int) n1 A1 c1 l1 ⟨#[]⟩ B1 0 d1).ok && (VA.mk 3 (q : Int) n2 A2 c2 l2 ⟨#[]⟩ B2 0 d2).ok) = true := by rw [VA.ok_made I1.isZ D1, VA.ok_made I2.isZ D2]; rfl
 have hx : mulX (VA.mk 3 (p : Int) n1 A1 c1 l1 ⟨#[]⟩ B1 0 d1) (VA.mk 3 (q : Int) n2 A2 c2 l2 ⟨#[]⟩ B2 0 d2) = (u, ((t : Int)).toNat, e) := by
  unfold mulX
  rw [two_ok o, Int.toNat_natCast, ← hE]
  unfold VA.u
  rw [va_z I1, va_z I2]
  rfl
 exact (DMul_calls (VA.mk 3 (p : Int) n1 A1 c1 l1 ⟨#[]⟩ B1 0 d1) (VA.mk 3 (q : Int) n2 A2 c2 l2 ⟨#[]⟩ B2 0 d2) w ⟨I1.rd, I1.cap⟩ ⟨I2.rd, I2.cap⟩).mono fun _ _ h => RetN.of h hx hk (Int.natCast_nonneg t)
theorem strip_cases (u : Int) : ∃ z t e, stripE u = (z, t, e) ∧ (e = 0 ∨ e = 3) := ⟨_, _, _, rfl, made_err u 20⟩
theorem strip_of {u z : Int} {t : Nat} (h : stripE u = (z, t, 0)) : IsD z t ∧ unitsZ z t = u := by
 have h2 := strip_isD (u := u) (by rw [h])
 rw [h] at h2
 exact h2
theorem vals_three (a b c : VA) (w : World) (g : Nat) (h : Blk w g #[.int .i64 a.k, .int .i64 a.p, .bool a.s, .slice a.A a.l.length a.c, .string a.S, .slice a.B a.m a.d, .int .i64 b.k, .int .i64 b.p, .bool b.s, .slice b.A b.l.length b.c, .string b.S, .slice b.B b.m b.d, .int .i64 c.k, .int .i64 c.p, .bool c.s, .slice c.A c.l.length c.c, .string c.S, .slice c.B c.m c.d] 27) (ha : a.At w) (hb : b.At w) (hc : c.At w) : ValsAt w g [a, b, c] where
 c0 := fun k hk => by
  rcases (show k = 0 ∨ k = 1 ∨ k = 2 by simp at hk; omega) with rfl | rfl | rfl
  · exact cell_at h.h 0 _ rfl
  · exact cell_at h.h 6 _ rfl
  · exact cell_at h.h 12 _ rfl
 c1 := fun k hk => by
  rcases (show k = 0 ∨ k = 1 ∨ k = 2 by simp at hk; omega) with rfl | rfl | rfl
  · exact cell_at h.h 1 _ rfl
  · exact cell_at h.h 7 _ rfl
  · exact cell_at h.h 13 _ rfl
 c2 := fun k hk => by
  rcases (show k = 0 ∨ k = 1 ∨ k = 2 by simp at hk; omega) with rfl | rfl | rfl
  · exact cell_at h.h 2 _ rfl
  · exact cell_at h.h 8 _ rfl
  · exact cell_at h.h 14 _ rfl
 c3 := fun k hk => by
  rcases (show k = 0 ∨ k = 1 ∨ k = 2 by simp at hk; omega) with rfl | rfl | rfl
  · exact cell_at h.h 3 _ rfl
  · exact cell_at h.h 9 _ rfl
  · exact cell_at h.h 15 _ rfl
 c4 := fun k hk => by
  rcases (show k = 0 ∨ k = 1 ∨ k = 2 by simp at hk; omega) with rfl | rfl | rfl
  · exact cell_at h.h 4 _ rfl
  · exact cell_at h.h 10 _ rfl
  · exact cell_at h.h 16 _ rfl
 c5 := fun k hk => by
  rcases (show k = 0 ∨ k = 1 ∨ k = 2 by simp at hk; omega) with rfl | rfl | rfl
  · exact cell_at h.h 5 _ rfl
  · exact cell_at h.h 11 _ rfl
  · exact cell_at h.h 17 _ rfl
 at' := fun k hk => by
  rcases (show k = 0 ∨ k = 1 ∨ k = 2 by simp at hk; omega) with rfl | rfl | rfl
  · exact ha
  · exact hb
  · exact hc
theorem xcmp {n1 n2 : Bool} {A1 A2 : Option Addr} {c1 c2 : Nat} {l1 l2 : List Nat} {z1 z2 : Int} {p q : Nat} {B1 B2 : Option Addr} {d1 d2 : Nat} {w : World} (I1 : IV w n1 A1 c1 l1 z1) (I2 : IV w n2 A2 c2 l2 z2) (D1 : IsD z1 p) (D2 : IsD z2 q) {k : Int} (hk : cmpZ (unitsZ z1 p) (unitsZ z2 q) = k) :
 Calls Tryz.prog 48 #[(vv 3 (p : Int) n1 A1 l1.length c1 ⟨#[]⟩ B1 0 d1), (vv 3 (q : Int) n2 A2 l2.length c2 ⟨#[]⟩ B2 0 d2)] w fun e w' => e = .returned (.tuple #[.int .i64 k, .int .i64 0]) ∧ Below w.heap.size w w' := by
 have o : ((VA.mk 3 (p : Int) n1 A1 c1 l1 ⟨#[]⟩ B1 0 d1).ok && (VA.mk 3 (q : Int) n2 A2 c2 l2 ⟨#[]⟩ B2 0 d2).ok) = true := by rw [VA.ok_made I1.isZ D1, VA.ok_made I2.isZ D2]; rfl
 have hx : cmpX (VA.mk 3 (p : Int) n1 A1 c1 l1 ⟨#[]⟩ B1 0 d1) (VA.mk 3 (q : Int) n2 A2 c2 l2 ⟨#[]⟩ B2 0 d2) = (k, 0) := by
  unfold cmpX
  rw [if_pos o, ← hk]
  unfold VA.u
  rw [va_z I1, va_z I2]
  rfl
 have h := DCompare_calls (VA.mk 3 (p : Int) n1 A1 c1 l1 ⟨#[]⟩ B1 0 d1) (VA.mk 3 (q : Int) n2 A2 c2 l2 ⟨#[]⟩ B2 0 d2) w ⟨I1.rd, I1.cap⟩ ⟨I2.rd, I2.cap⟩
 rw [hx] at h
 exact h
set_option maxHeartbeats 32000000 in
theorem keeps_c (n1 n2 n3 : Bool) (A1 A2 A3 : Option Addr) (c1 c2 c3 : Nat) (l1 l2 l3 : List Nat) (z1 z2 z3 : Int) (p q r : Nat) (B1 B2 B3 : Option Addr) (d1 d2 d3 : Nat) (w : World) (I1 : IV w n1 A1 c1 l1 z1) (I2 : IV w n2 A2 c2 l2 z2) (I3 : IV w n3 A3 c3 l3 z3) (D1 : IsD z1 p) (D2 : IsD z2 q) (D3 : IsD z3 r) (hle : unitsZ z1 p ≤ unitsZ z2 q) :
 Calls Tryz.prog 72 #[(vv 3 (p : Int) n1 A1 l1.length c1 ⟨#[]⟩ B1 0 d1), (vv 3 (q : Int) n2 A2 l2.length c2 ⟨#[]⟩ B2 0 d2), (vv 3 (r : Int) n3 A3 l3.length c3 ⟨#[]⟩ B3 0 d3)] w fun e w' => e = .returned (.bool true) ∧ Below w.heap.size w w' := by
 obtain ⟨u1, t1, e1, hE1, he1⟩ := strip_cases (unitsZ z1 p + unitsZ z3 r)
 obtain ⟨u2, t2, e2, hE2, -⟩ := strip_cases (unitsZ z2 q + unitsZ z3 r)
 obtain ⟨u3, t3, e3, hE3, he3⟩ := strip_cases (nearZ (unitsZ z1 p * unitsZ z3 r) (10 ^ 20))
 obtain ⟨u4, t4, e4, hE4, he4⟩ := strip_cases (nearZ (unitsZ z2 q * unitsZ z3 r) (10 ^ 20))
 obtain ⟨k1, hk1⟩ : ∃ k, kd (u1, t1, e1) = k := ⟨_, rfl⟩
 obtain ⟨k2, hk2⟩ : ∃ k, kd (u2, t2, e2) = k := ⟨_, rfl⟩
 obtain ⟨k3, hk3⟩ : ∃ k, kd (u3, t3, e3) = k := ⟨_, rfl⟩
 obtain ⟨k4, hk4⟩ : ∃ k, kd (u4, t4, e4) = k := ⟨_, rfl⟩
 have h30 : ∀ u t, kd (u, t, 0) = 3 := fun u t => kd_ok rfl
 have hA1 := fun W' (Ix : IV W' n1 A1 c1 l1 z1) (Iy : IV W' n3 A3 c3 l3 z3) => xadd (B1 := B1) (B2 := B3) (d1 := d1) (d2 := d3) Ix Iy D1 D3 hE1 hk1
 have hA2 := fun W' (Ix : IV W' n2 A2 c2 l2 z2) (Iy : IV W' n3 A3 c3 l3 z3) => xadd (B1 := B2) (B2 := B3) (d1 := d2) (d2 := d3) Ix Iy D2 D3 hE2 hk2
 have hM1 := fun W' (Ix : IV W' n1 A1 c1 l1 z1) (Iy : IV W' n3 A3 c3 l3 z3) => xmul (B1 := B1) (B2 := B3) (d1 := d1) (d2 := d3) Ix Iy D1 D3 hE3 hk3
 have hM2 := fun W' (Ix : IV W' n2 A2 c2 l2 z2) (Iy : IV W' n3 A3 c3 l3 z3) => xmul (B1 := B2) (B2 := B3) (d1 := d2) (d2 := d3) Ix Iy D2 D3 hE4 hk4
 have hC1 : e1 = 0 → e2 = 0 → ∃ cc, decide (0 < cc) = false ∧ k1 = 3 ∧ k2 = 3 ∧ ∀ W' s A c l s' A' c' l' (Ix : IV W' s A c l u1) (Iy : IV W' s' A' c' l' u2), Calls Tryz.prog 48 #[vv 3 (t1 : Int) s A l.length c ⟨#[]⟩ none 0 0, vv 3 (t2 : Int) s' A' l'.length c' ⟨#[]⟩ none 0 0] W' (fun e w' => e = .returned (.tuple #[.int .i64 cc, .int .i64 0]) ∧ Below W'.heap.size W' w') := by
  intro h1 h2
  subst h1 h2
  obtain ⟨E1, U1⟩ := strip_of hE1
  obtain ⟨E2, U2⟩ := strip_of hE2
  refine ⟨cmpZ (unitsZ u1 t1) (unitsZ u2 t2), decide_eq_false ?_, by rw [← hk1, h30], by rw [← hk2, h30], fun W' s A c l s' A' c' l' Ix Iy => xcmp (B1 := none) (B2 := none) (d1 := 0) (d2 := 0) Ix Iy E1 E2 rfl⟩
  have : cmpZ (unitsZ u1 t1) (unitsZ u2 t2) ≤ 0 := cmp_le.2 (by rw [U1, U2]; omega)
  omega
 have hC2 : n3 = false → e3 = 0 → e4 = 0 → ∃ cc, decide (cc ≤ 0) = true ∧ k3 = 3 ∧ k4 = 3 ∧ ∀ W' s A c l s' A' c' l' (Ix : IV W' s A c l u3) (Iy : IV W' s' A' c' l' u4), Calls Tryz.prog 48 #[vv 3 (t3 : Int) s A l.length c ⟨#[]⟩ none 0 0, vv 3 (t4 : Int) s' A' l'.length c' ⟨#[]⟩ none 0 0] W' (fun e w' => e = .returned (.tuple #[.int .i64 cc, .int .i64 0]) ∧ Below W'.heap.size W' w') := by
  intro h0 h1 h2
  subst h1 h2
  obtain ⟨E1, U1⟩ := strip_of hE3
  obtain ⟨E2, U2⟩ := strip_of hE4
  have hz : 0 ≤ unitsZ z3 r := by
   have h := I3.sgn
   rw [h0] at h
   have h' : ¬ z3 < 0 := by simpa using h.symm
   have := mt (units_nonneg (p := r)).1 h'
   omega
  refine ⟨cmpZ (unitsZ u3 t3) (unitsZ u4 t4), decide_eq_true ?_, by rw [← hk3, h30], by rw [← hk4, h30], fun W' s A c l s' A' c' l' Ix Iy => xcmp (B1 := none) (B2 := none) (d1 := 0) (d2 := 0) Ix Iy E1 E2 rfl⟩
  exact cmp_le.2 (by rw [U1, U2]; exact mul_mono hz hle)
 clear hE1 hE2 hE3 hE4 hk1 hk2 hk3 hk4 h30 D1 D2 D3 hle
 obtain ⟨W, hW, hbW, K0, K1, K2, hszW⟩ := box3 w #[.int .i64 3, .int .i64 (p : Int), .bool n1, .slice A1 l1.length c1, .string ⟨#[]⟩, .slice B1 0 d1] 27 #[.int .i64 3, .int .i64 (q : Int), .bool n2, .slice A2 l2.length c2, .string ⟨#[]⟩, .slice B2 0 d2] 27 #[.int .i64 3, .int .i64 (r : Int), .bool n3, .slice A3 l3.length c3, .string ⟨#[]⟩, .slice B3 0 d3] 27
 replace I1 := I1.on hbW
 replace I2 := I2.on hbW
 replace I3 := I3.on hbW
 have Kka := K0
 have Kkb := K1
 have Kkc := K2
 have bw := hbW
 clear K0 K1 K2 hbW
 replace hszW := Lib.hid hszW
 replace hC2 := Lib.hid hC2
 replace hC1 := Lib.hid hC1
 replace he3 := Lib.hid he3
 replace he4 := Lib.hid he4
 obtain ⟨ka_0, ka_1, ka_2, ka_3, ka_4, ka_5⟩ := cL6 Kka.h
 obtain ⟨kb_0, kb_1, kb_2, kb_3, kb_4, kb_5⟩ := cL6 Kkb.h
 obtain ⟨kc_0, kc_1, kc_2, kc_3, kc_4, kc_5⟩ := cL6 Kkc.h
 have hcase : (e1 = 0 ∧ e2 = 0) ∨ (e1 = 0 ∧ (e2 == 0) = false) ∨ e1 = 3 := by
  rcases he1 with h | h
  · by_cases h2 : e2 = 0
    · exact .inl ⟨h, h2⟩
    · exact .inr (.inl ⟨h, beq_eq_false_iff_ne.2 h2⟩)
  · exact .inr (.inr h)
 clear he1
 rcases hcase with ⟨rfl, rfl⟩ | ⟨rfl, hb2⟩ | rfl
 case' inl =>
  obtain ⟨cc, hcc, rfl, rfl, hcmp⟩ := hC1.out rfl rfl
  clear hC1
  go_enter Tryz.func72, Tryz.ntmps72
  go_upto_region 7 with first
   | (go_at_call 48; have hmark := m8; refine (hcmp _ _ _ _ _ _ _ _ _ I7 I8).mono ?_; rintro e w9 ⟨rfl, b9⟩; have m9 := Lib.hid (rfl : (9 : Nat) = 9); replace Kka := Kka.on b9; replace Kkb := Kkb.on b9; replace Kkc := Kkc.on b9; replace Kv7 := Kv7.on b9; replace Kv8 := Kv8.on b9; replace I1 := I1.on b9; replace I2 := I2.on b9; replace I3 := I3.on b9; replace I7 := I7.on b9; replace I8 := I8.on b9; replace bw := bw.trans (b9.mono bw.size); clear v7_0 v7_1 v7_2 v7_3 v7_4 v7_5 v8_0 v8_1 v8_2 v8_3 v8_4 v8_5 kc_0 kc_1 kc_2 kc_3 kc_4 kc_5; obtain ⟨kc_0, kc_1, kc_2, kc_3, kc_4, kc_5⟩ := cL6 Kkc.h)
   | (go_at_call 38; have hmark := m7; refine (hA2 _ I2 I3).mono ?_; rintro e w8 ⟨s8, A8', c8', l8', rfl, I8, b8⟩; have m8 := Lib.hid (rfl : (8 : Nat) = 8); replace Kka := Kka.on b8; replace Kkb := Kkb.on b8; replace Kkc := Kkc.on b8; replace Kv7 := Kv7.on b8; replace I1 := I1.on b8; replace I2 := I2.on b8; replace I3 := I3.on b8; replace I7 := I7.on b8; replace bw := bw.trans (b8.mono bw.size); have lt8 := Lib.hid (blk_lt Kv7); have a8 := al1 w8 (.cells #[.int .i64 3, .int .i64 (t2 : Int), .bool s8, .slice A8' l8'.length c8', .string ⟨#[]⟩, .slice none 0 0] 27); replace Kka := Kka.on a8; replace Kkb := Kkb.on a8; replace Kkc := Kkc.on a8; replace Kv7 := Kv7.on a8; replace I1 := I1.on a8; replace I2 := I2.on a8; replace I3 := I3.on a8; replace I7 := I7.on a8; replace bw := bw.trans (a8.mono bw.size); replace I8 := I8.on a8; have Kv8 := blk_new w8 #[.int .i64 3, .int .i64 (t2 : Int), .bool s8, .slice A8' l8'.length c8', .string ⟨#[]⟩, .slice none 0 0] 27; clear kb_0 kb_1 kb_2 kb_3 kb_4 kb_5 kc_0 kc_1 kc_2 kc_3 kc_4 kc_5; obtain ⟨v7_0, v7_1, v7_2, v7_3, v7_4, v7_5⟩ := cL6 Kv7.h; obtain ⟨v8_0, v8_1, v8_2, v8_3, v8_4, v8_5⟩ := cL6 Kv8.h; obtain ⟨kc_0, kc_1, kc_2, kc_3, kc_4, kc_5⟩ := cL6 Kkc.h)
   | (go_at_call 38; refine (hA1 _ I1 I3).mono ?_; rintro e w7 ⟨s7, A7', c7', l7', rfl, I7, b7⟩; have m7 := Lib.hid (rfl : (7 : Nat) = 7); replace Kka := Kka.on b7; replace Kkb := Kkb.on b7; replace Kkc := Kkc.on b7; replace I1 := I1.on b7; replace I2 := I2.on b7; replace I3 := I3.on b7; replace bw := bw.trans (b7.mono bw.size); have lt7 := Lib.hid (blk_lt Kkc); have a7 := al1 w7 (.cells #[.int .i64 3, .int .i64 (t1 : Int), .bool s7, .slice A7' l7'.length c7', .string ⟨#[]⟩, .slice none 0 0] 27); replace Kka := Kka.on a7; replace Kkb := Kkb.on a7; replace Kkc := Kkc.on a7; replace I1 := I1.on a7; replace I2 := I2.on a7; replace I3 := I3.on a7; replace bw := bw.trans (a7.mono bw.size); replace I7 := I7.on a7; have Kv7 := blk_new w7 #[.int .i64 3, .int .i64 (t1 : Int), .bool s7, .slice A7' l7'.length c7', .string ⟨#[]⟩, .slice none 0 0] 27; clear ka_0 ka_1 ka_2 ka_3 ka_4 ka_5 kb_0 kb_1 kb_2 kb_3 kb_4 kb_5 kc_0 kc_1 kc_2 kc_3 kc_4 kc_5; obtain ⟨kb_0, kb_1, kb_2, kb_3, kb_4, kb_5⟩ := cL6 Kkb.h; obtain ⟨kc_0, kc_1, kc_2, kc_3, kc_4, kc_5⟩ := cL6 Kkc.h)
 case' inr.inl =>
  clear hC1
  go_enter Tryz.func72, Tryz.ntmps72
  go_upto_region 7 with first
   | (go_at_call 38; have hmark := m7; refine (hA2 _ I2 I3).mono ?_; rintro e w8 ⟨s8, A8', c8', l8', rfl, I8, b8⟩; have m8 := Lib.hid (rfl : (8 : Nat) = 8); replace Kka := Kka.on b8; replace Kkb := Kkb.on b8; replace Kkc := Kkc.on b8; replace Kv7 := Kv7.on b8; replace I1 := I1.on b8; replace I2 := I2.on b8; replace I3 := I3.on b8; replace I7 := I7.on b8; replace bw := bw.trans (b8.mono bw.size); have lt8 := Lib.hid (blk_lt Kv7); have a8 := al1 w8 (.cells #[.int .i64 k2, .int .i64 (t2 : Int), .bool s8, .slice A8' l8'.length c8', .string ⟨#[]⟩, .slice none 0 0] 27); replace Kka := Kka.on a8; replace Kkb := Kkb.on a8; replace Kkc := Kkc.on a8; replace Kv7 := Kv7.on a8; replace I1 := I1.on a8; replace I2 := I2.on a8; replace I3 := I3.on a8; replace I7 := I7.on a8; replace bw := bw.trans (a8.mono bw.size); replace I8 := I8.on a8; have Kv8 := blk_new w8 #[.int .i64 k2, .int .i64 (t2 : Int), .bool s8, .slice A8' l8'.length c8', .string ⟨#[]⟩, .slice none 0 0] 27; clear kb_0 kb_1 kb_2 kb_3 kb_4 kb_5 kc_0 kc_1 kc_2 kc_3 kc_4 kc_5; obtain ⟨kc_0, kc_1, kc_2, kc_3, kc_4, kc_5⟩ := cL6 Kkc.h)
   | (go_at_call 38; refine (hA1 _ I1 I3).mono ?_; rintro e w7 ⟨s7, A7', c7', l7', rfl, I7, b7⟩; have m7 := Lib.hid (rfl : (7 : Nat) = 7); replace Kka := Kka.on b7; replace Kkb := Kkb.on b7; replace Kkc := Kkc.on b7; replace I1 := I1.on b7; replace I2 := I2.on b7; replace I3 := I3.on b7; replace bw := bw.trans (b7.mono bw.size); have lt7 := Lib.hid (blk_lt Kkc); have a7 := al1 w7 (.cells #[.int .i64 k1, .int .i64 (t1 : Int), .bool s7, .slice A7' l7'.length c7', .string ⟨#[]⟩, .slice none 0 0] 27); replace Kka := Kka.on a7; replace Kkb := Kkb.on a7; replace Kkc := Kkc.on a7; replace I1 := I1.on a7; replace I2 := I2.on a7; replace I3 := I3.on a7; replace bw := bw.trans (a7.mono bw.size); replace I7 := I7.on a7; have Kv7 := blk_new w7 #[.int .i64 k1, .int .i64 (t1 : Int), .bool s7, .slice A7' l7'.length c7', .string ⟨#[]⟩, .slice none 0 0] 27; clear ka_0 ka_1 ka_2 ka_3 ka_4 ka_5 kb_0 kb_1 kb_2 kb_3 kb_4 kb_5 kc_0 kc_1 kc_2 kc_3 kc_4 kc_5; obtain ⟨kb_0, kb_1, kb_2, kb_3, kb_4, kb_5⟩ := cL6 Kkb.h; obtain ⟨kc_0, kc_1, kc_2, kc_3, kc_4, kc_5⟩ := cL6 Kkc.h)
 case' inr.inr =>
  clear hC1
  go_enter Tryz.func72, Tryz.ntmps72
  go_upto_region 7 with first
   | (go_at_call 38; have hmark := m7; refine (hA2 _ I2 I3).mono ?_; rintro e w8 ⟨s8, A8', c8', l8', rfl, I8, b8⟩; have m8 := Lib.hid (rfl : (8 : Nat) = 8); replace Kka := Kka.on b8; replace Kkb := Kkb.on b8; replace Kkc := Kkc.on b8; replace Kv7 := Kv7.on b8; replace I1 := I1.on b8; replace I2 := I2.on b8; replace I3 := I3.on b8; replace I7 := I7.on b8; replace bw := bw.trans (b8.mono bw.size); have lt8 := Lib.hid (blk_lt Kv7); have a8 := al1 w8 (.cells #[.int .i64 k2, .int .i64 (t2 : Int), .bool s8, .slice A8' l8'.length c8', .string ⟨#[]⟩, .slice none 0 0] 27); replace Kka := Kka.on a8; replace Kkb := Kkb.on a8; replace Kkc := Kkc.on a8; replace Kv7 := Kv7.on a8; replace I1 := I1.on a8; replace I2 := I2.on a8; replace I3 := I3.on a8; replace I7 := I7.on a8; replace bw := bw.trans (a8.mono bw.size); replace I8 := I8.on a8; have Kv8 := blk_new w8 #[.int .i64 k2, .int .i64 (t2 : Int), .bool s8, .slice A8' l8'.length c8', .string ⟨#[]⟩, .slice none 0 0] 27; clear kb_0 kb_1 kb_2 kb_3 kb_4 kb_5 kc_0 kc_1 kc_2 kc_3 kc_4 kc_5; obtain ⟨kc_0, kc_1, kc_2, kc_3, kc_4, kc_5⟩ := cL6 Kkc.h)
   | (go_at_call 38; refine (hA1 _ I1 I3).mono ?_; rintro e w7 ⟨s7, A7', c7', l7', rfl, I7, b7⟩; have m7 := Lib.hid (rfl : (7 : Nat) = 7); replace Kka := Kka.on b7; replace Kkb := Kkb.on b7; replace Kkc := Kkc.on b7; replace I1 := I1.on b7; replace I2 := I2.on b7; replace I3 := I3.on b7; replace bw := bw.trans (b7.mono bw.size); have lt7 := Lib.hid (blk_lt Kkc); have a7 := al1 w7 (.cells #[.int .i64 k1, .int .i64 (t1 : Int), .bool s7, .slice A7' l7'.length c7', .string ⟨#[]⟩, .slice none 0 0] 27); replace Kka := Kka.on a7; replace Kkb := Kkb.on a7; replace Kkc := Kkc.on a7; replace I1 := I1.on a7; replace I2 := I2.on a7; replace I3 := I3.on a7; replace bw := bw.trans (a7.mono bw.size); replace I7 := I7.on a7; have Kv7 := blk_new w7 #[.int .i64 k1, .int .i64 (t1 : Int), .bool s7, .slice A7' l7'.length c7', .string ⟨#[]⟩, .slice none 0 0] 27; clear ka_0 ka_1 ka_2 ka_3 ka_4 ka_5 kb_0 kb_1 kb_2 kb_3 kb_4 kb_5 kc_0 kc_1 kc_2 kc_3 kc_4 kc_5; obtain ⟨kb_0, kb_1, kb_2, kb_3, kb_4, kb_5⟩ := cL6 Kkb.h; obtain ⟨kc_0, kc_1, kc_2, kc_3, kc_4, kc_5⟩ := cL6 Kkc.h)
 all_goals
  (clear hA1 hA2 I7 I8
   cases n3
   · have hC2' := Lib.hid (hC2.out rfl)
     clear hC2
     clear kc_0 kc_1 kc_2 kc_3 kc_4 kc_5
     obtain ⟨ka_0, ka_1, ka_2, ka_3, ka_4, ka_5⟩ := cL6 Kka.h
     obtain ⟨kb_0, kb_1, kb_2, kb_3, kb_4, kb_5⟩ := cL6 Kkb.h
     obtain ⟨kc_0, kc_1, kc_2, kc_3, kc_4, kc_5⟩ := cL6 Kkc.h
     go_upto_region 10 with first
      | (go_at_call 30; have hmark := m8; refine (hM1 _ I1 I3).mono ?_; rintro e w10 ⟨s10, A10', c10', l10', rfl, I10, b10⟩; have m10 := Lib.hid (rfl : (10 : Nat) = 10); replace Kka := Kka.on b10; replace Kkb := Kkb.on b10; replace Kkc := Kkc.on b10; replace Kv7 := Kv7.on b10; replace Kv8 := Kv8.on b10; replace I1 := I1.on b10; replace I2 := I2.on b10; replace I3 := I3.on b10; replace bw := bw.trans (b10.mono bw.size); clear ka_0 ka_1 ka_2 ka_3 ka_4 ka_5 kb_0 kb_1 kb_2 kb_3 kb_4 kb_5 kc_0 kc_1 kc_2 kc_3 kc_4 kc_5; obtain ⟨v7_0, v7_1, v7_2, v7_3, v7_4, v7_5⟩ := cL6 Kv7.h; obtain ⟨v7f0, v7f1, v7f2, v7f3, v7f4, v7f5⟩ := fZ6 Kv7.h)
     obtain ⟨X10, hX10, KX10, NX10, OX10⟩ := storeV (k' := k3) (p' := (t3 : Int)) (s' := s10) (A' := A10') (n' := l10'.length) (c' := c10') (S' := ⟨#[]⟩) (B' := none) (m' := 0) (d' := 0) Kv7
     rw [hX10]
     replace Kka := OX10.one Kka (by have := lt7.out; have := lt8.out; omega)
     replace Kkb := OX10.one Kkb (by have := lt7.out; have := lt8.out; omega)
     replace Kkc := OX10.one Kkc (by have := lt7.out; have := lt8.out; omega)
     replace Kv8 := OX10.one Kv8 (by have := lt7.out; have := lt8.out; omega)
     replace Kv7 := KX10
     replace I1 := I1.nudge NX10
     replace I2 := I2.nudge NX10
     replace I3 := I3.nudge NX10
     replace I10 := I10.nudge NX10
     replace bw := bw.trans (NX10.low.mono (by have := lt7.out; have := lt8.out; omega))
     clear hX10 KX10 NX10 OX10 b10 v7_0 v7_1 v7_2 v7_3 v7_4 v7_5 v7f0 v7f1 v7f2 v7f3 v7f4 v7f5
     obtain ⟨kb_0, kb_1, kb_2, kb_3, kb_4, kb_5⟩ := cL6 Kkb.h
     obtain ⟨kc_0, kc_1, kc_2, kc_3, kc_4, kc_5⟩ := cL6 Kkc.h
     go_upto_region 11 with first
      | (go_at_call 30; have hmark := m10; refine (hM2 _ I2 I3).mono ?_; rintro e w11 ⟨s11, A11', c11', l11', rfl, I11, b11⟩; have m11 := Lib.hid (rfl : (11 : Nat) = 11); replace Kka := Kka.on b11; replace Kkb := Kkb.on b11; replace Kkc := Kkc.on b11; replace Kv7 := Kv7.on b11; replace Kv8 := Kv8.on b11; replace I1 := I1.on b11; replace I2 := I2.on b11; replace I3 := I3.on b11; replace I10 := I10.on b11; replace bw := bw.trans (b11.mono bw.size); clear kb_0 kb_1 kb_2 kb_3 kb_4 kb_5 kc_0 kc_1 kc_2 kc_3 kc_4 kc_5; obtain ⟨v8_0, v8_1, v8_2, v8_3, v8_4, v8_5⟩ := cL6 Kv8.h; obtain ⟨v8f0, v8f1, v8f2, v8f3, v8f4, v8f5⟩ := fZ6 Kv8.h)
     obtain ⟨X11, hX11, KX11, NX11, OX11⟩ := storeV (k' := k4) (p' := (t4 : Int)) (s' := s11) (A' := A11') (n' := l11'.length) (c' := c11') (S' := ⟨#[]⟩) (B' := none) (m' := 0) (d' := 0) Kv8
     rw [hX11]
     replace Kka := OX11.one Kka (by have := lt7.out; have := lt8.out; omega)
     replace Kkb := OX11.one Kkb (by have := lt7.out; have := lt8.out; omega)
     replace Kkc := OX11.one Kkc (by have := lt7.out; have := lt8.out; omega)
     replace Kv7 := OX11.one Kv7 (by have := lt7.out; have := lt8.out; omega)
     replace Kv8 := KX11
     replace I1 := I1.nudge NX11
     replace I2 := I2.nudge NX11
     replace I3 := I3.nudge NX11
     replace I10 := I10.nudge NX11
     replace I11 := I11.nudge NX11
     replace bw := bw.trans (NX11.low.mono (by have := lt7.out; have := lt8.out; omega))
     clear hX11 KX11 NX11 OX11 b11 v8_0 v8_1 v8_2 v8_3 v8_4 v8_5 v8f0 v8f1 v8f2 v8f3 v8f4 v8f5
     rcases he3.out with h3 | h3
     · subst h3
       rcases he4.out with h4 | h4
       · subst h4
         obtain ⟨cd, hcd, rfl, rfl, hcmp2⟩ := hC2'.out rfl rfl
         clear he3 he4 hC2' hM1 hM2
         obtain ⟨v7_0, v7_1, v7_2, v7_3, v7_4, v7_5⟩ := cL6 Kv7.h
         obtain ⟨v8_0, v8_1, v8_2, v8_3, v8_4, v8_5⟩ := cL6 Kv8.h
         go_wp2_with first
          | (go_at_call 48; have hmark := m11; refine (hcmp2 _ _ _ _ _ _ _ _ _ I10 I11).mono ?_; rintro e w12 ⟨rfl, b12⟩; have m12 := Lib.hid (rfl : (12 : Nat) = 12); replace Kka := Kka.on b12; replace Kkb := Kkb.on b12; replace Kkc := Kkc.on b12; replace Kv7 := Kv7.on b12; replace Kv8 := Kv8.on b12; replace I1 := I1.on b12; replace I2 := I2.on b12; replace I3 := I3.on b12; replace I10 := I10.on b12; replace I11 := I11.on b12; replace bw := bw.trans (b12.mono bw.size); clear v7_0 v7_1 v7_2 v7_3 v7_4 v7_5 v8_0 v8_1 v8_2 v8_3 v8_4 v8_5; skip)
         go_ret
         exact ⟨rfl, bw⟩
       · subst h4
         clear he3 he4 hC2' hM1 hM2
         go_wp2_with fail
         go_ret
         exact ⟨rfl, bw⟩
     · subst h3
       clear he3 he4 hC2' hM1 hM2
       go_wp2_with fail
       go_ret
       exact ⟨rfl, bw⟩
   · clear hC2 hM1 hM2
     go_wp2_with fail
     go_ret
     exact ⟨rfl, bw⟩)
end Dc
end Go.Proofs.YtjghnghceeijeaaGreatDoor
