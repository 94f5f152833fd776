/-
  Contracts of the walks below.
-/
import Derived.Test.YtjghnghceeijeaaGreatDoorDt2
set_option maxRecDepth 100000
set_option maxHeartbeats 4000000
set_option linter.unusedVariables false
set_option linter.unusedSimpArgs false
namespace Go.Proofs.YtjghnghceeijeaaGreatDoor
namespace Dc
open Go.RowKit Go.Shelf Go.BigFrame Go.Proofs.YtjghnghceeijeaaGreatDoor.Nm
attribute [local go_sem] Oper.semAt_some
def PostN (g : Nat) (x : Int × Int) (w : World) (e : Ending) (w' : World) : Prop := Went x.2 e ∧ Off (fun k => k = g) w w' ∧ Blk w' g #[.int .i64 x.1] 3
theorem cell1_no {k : Int} (i x : Nat) : ((#[.int .i64 k] : Array Value))[i]? ≠ some (.int .u32 (x : Int)) := by
 intro h
 rcases i with _ | i <;> simp at h
theorem storeN {W : World} {g : Nat} {t : TypeId} {k k' : Int} (h : Blk W g #[.int .i64 k] t) :
 ∃ X, W.setCell ⟨g, 0, none⟩ (.int .i64 k') = X ∧ Blk X g #[.int .i64 k'] t ∧ Nudge g W X ∧ Off (fun k => k = g) W X :=
 ⟨_, rfl, ⟨set_blk h.h 0 _⟩, (Nudge.of_below (.refl _ W) (Nat.le_of_lt (blk_lt h))).set (Nat.le_refl _) h cell1_no 0 _, (Off.refl (fun k => k = g) W).set (.inl rfl) 0 _⟩
theorem cmp_scale {x y k : Int} (hk : 0 < k) : cmpZ (x * k) (y * k) = cmpZ x y := by
 unfold cmpZ
 by_cases h1 : x < y
 · rw [if_pos h1, if_pos (Int.mul_lt_mul_of_pos_right h1 hk)]
 · rw [if_neg h1, if_neg (fun h => h1 (Int.lt_of_mul_lt_mul_right h (Int.le_of_lt hk)))]
   by_cases h2 : y < x
   · rw [if_pos h2, if_pos (Int.mul_lt_mul_of_pos_right h2 hk)]
   · rw [if_neg h2, if_neg (fun h => h2 (Int.lt_of_mul_lt_mul_right h (Int.le_of_lt hk)))]
theorem cmp_same {x y : Int} {p q : Nat} (hp : p ≤ 20) (hq : q ≤ 20) : cmpZ (x * 10 ^ (max p q - p)) (y * 10 ^ (max p q - q)) = cmpZ (unitsZ x p) (unitsZ y q) := by
 rw [← cmp_scale (x := x * 10 ^ (max p q - p)) (ten_pos (20 - max p q)), Int.mul_assoc, Int.mul_assoc, ← Int.pow_add, ← Int.pow_add, show max p q - p + (20 - max p q) = 20 - p by omega, show max p q - q + (20 - max p q) = 20 - q by omega]
 rfl
theorem compare1_no (a b : VA) (ga gb gc : Nat) (w : World) (Ka : Blk w ga #[.int .i64 a.k, .int .i64 a.p, .bool a.s, .slice a.A a.l.length a.c, .string a.S, .slice a.B a.m a.d] 27) (Kb : Blk w gb #[.int .i64 b.k, .int .i64 b.p, .bool b.s, .slice b.A b.l.length b.c, .string b.S, .slice b.B b.m b.d] 27) (Kc : Blk w gc #[.int .i64 0] 3) (ha : a.At w) (hb : b.At w) (hno : (a.ok && b.ok) = false) :
 Calls Tryz.prog 125 #[.pointer (some ⟨ga, 0, none⟩), .pointer (some ⟨gb, 0, none⟩), .pointer (some ⟨gc, 0, none⟩)] w (PostN gc (0, 2) w) := by
 have hdc := decimals_c w.heap.size [a, b] (w.alloc (.cells #[.int .i64 a.k, .int .i64 a.p, .bool a.s, .slice a.A a.l.length a.c, .string a.S, .slice a.B a.m a.d, .int .i64 b.k, .int .i64 b.p, .bool b.s, .slice b.A b.l.length b.c, .string b.S, .slice b.B b.m b.d] 27)) (by simp) (vals_two a b _ _ ⟨World.alloc_heap_new w _⟩ (ha.on (al1 w _)) (hb.on (al1 w _))) (by simp)
 rw [decE_two, if_neg (by rw [hno]; decide)] at hdc
 clear hno
 obtain ⟨x0, x1, x2, x3, x4, x5⟩ := cL6 Ka.h
 obtain ⟨y0, y1, y2, y3, y4, y5⟩ := cL6 Kb.h
 have a1 := al1 w (.cells #[.int .i64 a.k, .int .i64 a.p, .bool a.s, .slice a.A a.l.length a.c, .string a.S, .slice a.B a.m a.d, .int .i64 b.k, .int .i64 b.p, .bool b.s, .slice b.A b.l.length b.c, .string b.S, .slice b.B b.m b.d] 27)
 go_enter Tryz.func125, Tryz.ntmps125
 go_wp2_with (go_at_call 77; refine hdc.mono ?_; rintro e w5 ⟨hw, b5⟩; obtain rfl := hw.2 (by decide); have q5 := a1.trans (b5.mono a1.size))
 exact ⟨rfl, ⟨fun h => absurd h (by decide), fun _ => rfl⟩, .of_below q5, Kc.on q5⟩
theorem compare1_z (n1 n2 : Bool) (A1 A2 : Option Addr) (c1 c2 : Nat) (l1 l2 : List Nat) (z1 z2 : Int) (p q : Nat) (B1 B2 : Option Addr) (d1 d2 ga gb gc : Nat) (w : World) (Ka : Blk w ga #[.int .i64 3, .int .i64 (p : Int), .bool n1, .slice A1 l1.length c1, .string ⟨#[]⟩, .slice B1 0 d1] 27) (Kb : Blk w gb #[.int .i64 3, .int .i64 (q : Int), .bool n2, .slice A2 l2.length c2, .string ⟨#[]⟩, .slice B2 0 d2] 27) (Kc : Blk w gc #[.int .i64 0] 3) (I1 : IV w n1 A1 c1 l1 z1) (I2 : IV w n2 A2 c2 l2 z2) (D1 : IsD z1 p) (D2 : IsD z2 q) :
 Calls Tryz.prog 125 #[.pointer (some ⟨ga, 0, none⟩), .pointer (some ⟨gb, 0, none⟩), .pointer (some ⟨gc, 0, none⟩)] w (PostN gc (cmpZ (unitsZ z1 p) (unitsZ z2 q), 0) w) := by
 have ha : (VA.mk 3 (p : Int) n1 A1 c1 l1 ⟨#[]⟩ B1 0 d1).At w := ⟨I1.rd, I1.cap⟩
 have hb : (VA.mk 3 (q : Int) n2 A2 c2 l2 ⟨#[]⟩ B2 0 d2).At w := ⟨I2.rd, I2.cap⟩
 have hdc := decimals_c w.heap.size [(VA.mk 3 (p : Int) n1 A1 c1 l1 ⟨#[]⟩ B1 0 d1), (VA.mk 3 (q : Int) n2 A2 c2 l2 ⟨#[]⟩ B2 0 d2)] (w.alloc (.cells #[.int .i64 3, .int .i64 (p : Int), .bool n1, .slice A1 l1.length c1, .string ⟨#[]⟩, .slice B1 0 d1, .int .i64 3, .int .i64 (q : Int), .bool n2, .slice A2 l2.length c2, .string ⟨#[]⟩, .slice B2 0 d2] 27)) (by simp) (vals_two (VA.mk 3 (p : Int) n1 A1 c1 l1 ⟨#[]⟩ B1 0 d1) (VA.mk 3 (q : Int) n2 A2 c2 l2 ⟨#[]⟩ B2 0 d2) _ _ ⟨World.alloc_heap_new w _⟩ (ha.on (al1 w _)) (hb.on (al1 w _))) (by simp)
 rw [decE_two, VA.ok_made I1.isZ D1, VA.ok_made I2.isZ D2, Bool.and_self, if_pos rfl] at hdc
 have hsm := fun W' (h : Below w.heap.size w W') => same_z n1 n2 A1 A2 c1 c2 l1 l2 z1 z2 p q B1 B2 d1 d2 D1.hi D2.hi W' (I1.on h) (I2.on h) D1.lz D2.lz
 rw [← cmp_same D1.hi D2.hi]
 obtain ⟨m, hm⟩ : ∃ m, max p q = m := ⟨_, rfl⟩
 have e1 : Lz 43 (z1 * 10 ^ (max p q - p)) := D1.lz.mul (lz_ten _ (by have := D1.hi; have := D2.hi; omega))
 have e2 : Lz 43 (z2 * 10 ^ (max p q - q)) := D2.lz.mul (lz_ten _ (by have := D1.hi; have := D2.hi; omega))
 rw [hm] at hsm e1 e2 ⊢
 generalize z1 * 10 ^ (m - p) = x at *
 generalize z2 * 10 ^ (m - q) = y at *
 have hcm := fun W' s A c l s' A' c' l' (I : IV W' s A c l x) (I' : IV W' s' A' c' l' y) => Compare_z s s' A A' c c' l l' x y W' I.rd I'.rd I.cap I'.cap (I.ok e1 (by decide)) (I'.ok e2 (by decide))
 generalize cmpZ x y = cc at *
 clear hm e1 e2 D1 D2 ha hb
 obtain ⟨x0, x1, x2, x3, x4, x5⟩ := cL6 Ka.h
 obtain ⟨y0, y1, y2, y3, y4, y5⟩ := cL6 Kb.h
 have a1 := al1 w (.cells #[.int .i64 3, .int .i64 (p : Int), .bool n1, .slice A1 l1.length c1, .string ⟨#[]⟩, .slice B1 0 d1, .int .i64 3, .int .i64 (q : Int), .bool n2, .slice A2 l2.length c2, .string ⟨#[]⟩, .slice B2 0 d2] 27)
 go_enter Tryz.func125, Tryz.ntmps125
 go_wp2_with first
  | (go_at_call 89; have hmark := I6; refine (hcm _ _ _ _ _ _ _ _ _ (iv_up (iv_up I6)) (iv_up (iv_up I7))).mono ?_; rintro e w8 ⟨rfl, b8⟩; have q8 := below_via (below_al (below_al q6 _) _) b8; have v0 := cell_at (Kc.on q8).h 0 _ rfl; have v1 := frozen_at (Kc.on q8).h 0)
  | (go_at_call 126; have hmark := q5; refine (hsm _ q5).mono ?_; rintro e w6 ⟨s6, A6, c6, l6, s7, A7, c7, l7, rfl, I6, I7, b6⟩; have q6 := q5.trans (b6.mono q5.size))
  | (go_at_call 77; refine hdc.mono ?_; rintro e w5 ⟨hw, b5⟩; obtain rfl := hw.1 rfl; have q5 := a1.trans (b5.mono a1.size); clear x0 x1 x2 x3 x4 x5 y0 y1 y2 y3 y4 y5; obtain ⟨x0, x1, x2, x3, x4, x5⟩ := cL6 (Ka.on q5).h; obtain ⟨y0, y1, y2, y3, y4, y5⟩ := cL6 (Kb.on q5).h)
 obtain ⟨X, hX, KX, NX, OX⟩ := storeN (k' := cc) (Kc.on q8)
 rw [hX]
 go_end0
 exact ⟨⟨fun _ => rfl, fun h => absurd rfl h⟩, (Off.of_below q8).trans OX, KX⟩
theorem compare1_all (a b : VA) (ga gb gc : Nat) (w : World) (Ka : Blk w ga #[.int .i64 a.k, .int .i64 a.p, .bool a.s, .slice a.A a.l.length a.c, .string a.S, .slice a.B a.m a.d] 27) (Kb : Blk w gb #[.int .i64 b.k, .int .i64 b.p, .bool b.s, .slice b.A b.l.length b.c, .string b.S, .slice b.B b.m b.d] 27) (Kc : Blk w gc #[.int .i64 0] 3) (ha : a.At w) (hb : b.At w) :
 Calls Tryz.prog 125 #[.pointer (some ⟨ga, 0, none⟩), .pointer (some ⟨gb, 0, none⟩), .pointer (some ⟨gc, 0, none⟩)] w (PostN gc (cmpX a b) w) := by
 unfold cmpX
 cases hok : (a.ok && b.ok)
 · rw [if_neg (by decide)]
   exact compare1_no a b ga gb gc w Ka Kb Kc ha hb hok
 · rw [if_pos rfl]
   rw [Bool.and_eq_true] at hok
   obtain ⟨p, s1, A1, c1, l1, B1, d1, e1, i1, D1, u1, -⟩ := VA.destruct ha.rd.words hok.1
   obtain ⟨q, s2, A2, c2, l2, B2, d2, e2, i2, D2, u2, -⟩ := VA.destruct hb.rd.words hok.2
   rw [u1, u2]
   generalize a.z = za at *
   generalize b.z = zb at *
   subst e1 e2
   exact compare1_z s1 s2 A1 A2 c1 c2 l1 l2 za zb p q B1 B2 d1 d2 ga gb gc w Ka Kb Kc ⟨ha.rd, ha.cap, i1⟩ ⟨hb.rd, hb.cap, i2⟩ D1 D2
theorem DCompare_calls (a b : VA) (w : World) (ha : a.At w) (hb : b.At w) :
 Calls Tryz.prog 48 #[a.val, b.val] w fun e w' => e = .returned (.tuple #[.int .i64 (cmpX a b).1, .int .i64 (cmpX a b).2]) ∧ Below w.heap.size w w' := by
 have hmf := mkf
 obtain ⟨W, hW, hbW, K0, K1, K2, hszW⟩ := box3 w #[.int .i64 a.k, .int .i64 a.p, .bool a.s, .slice a.A a.l.length a.c, .string a.S, .slice a.B a.m a.d] 27 #[.int .i64 b.k, .int .i64 b.p, .bool b.s, .slice b.A b.l.length b.c, .string b.S, .slice b.B b.m b.d] 27 #[.int .i64 0] 3
 have hal : Below W.heap.size W (W.alloc (.cells #[.int .i64 0] 30)) := al1 W _
 have lw := hszW
 have hv := guard_calls 125 #[.pointer (some ⟨w.heap.size, 0, none⟩), .pointer (some ⟨w.heap.size + 1, 0, none⟩), .pointer (some ⟨w.heap.size + 1 + 1, 0, none⟩)] (enters_of Tryz.func125 (by kernel_rfl) rfl) W (cmpX a b).2
  (fun w' => Off (fun k => k = w.heap.size + 1 + 1) w w' ∧ Blk w' (w.heap.size + 1 + 1) #[.int .i64 (cmpX a b).1] 3)
  ((compare1_all a b _ _ _ _ (K0.on hal) (K1.on hal) (K2.on hal) ((ha.on hbW).on hal) ((hb.on hbW).on hal)).mono (by
   rintro e w' ⟨h1, h2, h3⟩
   have hle := h2.size
   rw [World.size_alloc] at hle
   exact ⟨h1, h2.blk (by omega) ⟨World.alloc_heap_new W _⟩, by omega, (Off.of_below (hbW.trans (hal.mono hbW.size))).trans h2, h3⟩))
 obtain ⟨x, hx⟩ : ∃ x, cmpX a b = x := ⟨_, rfl⟩
 rw [hx] at hv ⊢
 obtain ⟨z, er⟩ := x
 dsimp only at hv
 clear hx
 replace hszW := Lib.hid hszW
 replace lw := Lib.hid lw
 go_enter Tryz.func48, Tryz.ntmps48
 go_wp2_with (go_at_call 98; refine hv.mono ?_; rintro e w5 ⟨rfl, w4, ⟨o4, K4⟩, n5⟩; have K5 : Blk w5 (w.heap.size + 1 + 1) #[.int .i64 z] 3 := ⟨(n5.low.block _ (by have := lw.out; omega)).trans K4.h⟩; have u0 := cell_at K5.h 0 _ rfl; have f0 := frozen_at K5.h 0)
 have hb4 : Below w.heap.size w w4 := o4.below (Nat.le_refl _) (by rintro k rfl; omega)
 have hb5 := hb4.trans (n5.low.mono (by have := lw.out; omega))
 have KX : Blk (w5.setCell ⟨w.heap.size + 1 + 1, 0, none⟩ (.int .i64 z)) (w.heap.size + 1 + 1) #[.int .i64 z] 3 := ⟨set_blk K5.h 0 _⟩
 have c5 := cell_at KX.h 0 _ rfl
 refine bodyPost_ret (v := .tuple #[.int .i64 z, .int .i64 er]) ?_ rfl ⟨rfl, hb5.setCell (by dsimp only; omega) _⟩
 rw [results_cell_tmp rfl]
 simp [asAddr, Result.andThen, go_sem, c5]
end Dc
end Go.Proofs.YtjghnghceeijeaaGreatDoor
