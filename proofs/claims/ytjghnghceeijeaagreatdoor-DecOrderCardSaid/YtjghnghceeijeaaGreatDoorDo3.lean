/-
  Contracts of the walks below.
-/
import Derived.Test.YtjghnghceeijeaaGreatDoorDb31
import Derived.Test.YtjghnghceeijeaaGreatDoorDo1
import Derived.Test.YtjghnghceeijeaaGreatDoorDo2
import Derived.Test.YtjghnghceeijeaaGreatDoorTie
import Derived.ChangeMaps5
import Derived.Test.YtjghnghceeijeaaGreatDoorCards
import Derived.SevenTiedAt
import Derived.Lay
import Derived.HandedShaped
import Derived.Shelf.Vars
set_option maxRecDepth 100000
set_option maxHeartbeats 4000000
set_option linter.unusedVariables false
set_option linter.unusedSimpArgs false
namespace Go.Proofs.YtjghnghceeijeaaGreatDoor
namespace Dc
open Go.RowKit Go.Shelf Go.BigFrame Go.Proofs.YtjghnghceeijeaaGreatDoor.Nm
attribute [local go_sem] Oper.semAt_some
theorem fix_open (a : VA) : fixX a = if a.ok = true then (if a.z < 0 then -((a.z.natAbs : Int) / 10 ^ a.q) else (a.z.natAbs : Int) / 10 ^ a.q, 0) else (0, 2) := by
 unfold fixX ceilX floorX
 by_cases h : a.z < 0
 · rw [if_pos h, if_pos h, fix_eq a.z h]
 · rw [if_neg h, if_neg h, show ((a.z.natAbs : Nat) : Int) = a.z by omega]
theorem bare_floorX (a : VA) : (floorX a).2 ≠ 0 → (floorX a).1 = 0 := by
 unfold floorX
 split
 · exact fun h => absurd rfl h
 · exact fun _ => rfl
theorem bare_fixX (a : VA) : (fixX a).2 ≠ 0 → (fixX a).1 = 0 := by
 unfold fixX
 split
 · exact bare_ceilX a
 · exact bare_floorX a
theorem whole1_fix (n1 : Bool) (A1 : Option Addr) (c1 : Nat) (l1 : List Nat) (z1 : Int) (p : Nat) (B1 : Option Addr) (d1 ga gf gn : Nat) (w : World) (Ka : Blk w ga #[.int .i64 3, .int .i64 (p : Int), .bool n1, .slice A1 l1.length c1, .string ⟨#[]⟩, .slice B1 0 d1] 27) (Kf : Blk w gf #[Value.func (.func 129) #[] #[]] 55) (Kn : Blk w gn #[.bool false, .slice none 0 0] 24) (n1' : gn ≠ ga) (n2' : gn ≠ gf) (I1 : IV w n1 A1 c1 l1 z1) (D1 : IsD z1 p) :
 Calls Tryz.prog 197 #[.pointer (some ⟨ga, 0, none⟩), .pointer (some ⟨gf, 0, none⟩), .pointer (some ⟨gn, 0, none⟩)] w (PostW gn (if z1 < 0 then -((z1.natAbs : Int) / 10 ^ p) else (z1.natAbs : Int) / 10 ^ p, 0) w) := by
 have ha : (VA.mk 3 (p : Int) n1 A1 c1 l1 ⟨#[]⟩ B1 0 d1).At w := ⟨I1.rd, I1.cap⟩
 have hdc := decimals_c w.heap.size [(VA.mk 3 (p : Int) n1 A1 c1 l1 ⟨#[]⟩ B1 0 d1)] (w.alloc (.cells #[.int .i64 3, .int .i64 (p : Int), .bool n1, .slice A1 l1.length c1, .string ⟨#[]⟩, .slice B1 0 d1] 27)) (by simp) (vals_one (VA.mk 3 (p : Int) n1 A1 c1 l1 ⟨#[]⟩ B1 0 d1) _ _ ⟨World.alloc_heap_new w _⟩ (ha.on (al1 w _))) (by simp)
 rw [decE_one, VA.ok_made I1.isZ D1, if_pos rfl] at hdc
 have a1 := al1 w (.cells #[.int .i64 3, .int .i64 (p : Int), .bool n1, .slice A1 l1.length c1, .string ⟨#[]⟩, .slice B1 0 d1] 27)
 have hp21 : p < 21 := by have := D1.hi; omega
 have T1 := fun W' g (hP : Pows W' g) => powers1_z g p hp21 W' hP
 have C1 := fun W' (h : Below w.heap.size w W') s A c l (I : IV W' s A c l (10 ^ p)) => fix1_z n1 s A1 A c1 c l1 l z1 (10 ^ p) W' (I1.on h) I D1.lz (lz_ten p (by omega)) (ten_pos p)
 obtain ⟨R, hR⟩ : ∃ R, (if z1 < 0 then -((z1.natAbs : Int) / 10 ^ p) else (z1.natAbs : Int) / 10 ^ p) = R := ⟨_, rfl⟩
 rw [hR] at C1 ⊢
 clear hR
 generalize (10 : Int) ^ p = tp at *
 obtain ⟨x0, x1, x2, x3, x4, x5⟩ := cL6 Ka.h
 clear D1 ha hp21
 go_enter Tryz.func197, Tryz.ntmps197
 go_upto_region 1 with (go_at_call 77; refine hdc.mono ?_; rintro e w5 ⟨hw, b5⟩; obtain rfl := hw.1 rfl; have q5 := a1.trans (b5.mono a1.size))
 have r0 := cell_at (Ka.on q5).h 1 _ rfl
 have r1 := cell_at (Ka.on q5).h 2 _ rfl
 have r2 := cell_at (Ka.on q5).h 3 _ rfl
 have r3 := cell_at (Kf.on q5).h 0 _ rfl
 clear x0 x1 x2 x3 x4 x5 hdc a1
 refine wp_region_any (by kernel_rfl) ?_
 refine pT 1 (Value.pointer (some ⟨ga, 2, none⟩)) ?_
 try simp only [Act.put, aQ, bQ, cQ]
 refine pT 4 (Value.pointer (some ⟨ga, 1, none⟩)) ?_
 try simp only [Act.put, aQ, bQ, cQ]
 refine wpAny_of_F (S := fun w'' => w''.cell? ⟨ga, 1, none⟩ = some (.int .i64 (p : Int)) ∧ w''.cell? ⟨ga, 2, none⟩ = some (.bool n1) ∧ w''.cell? ⟨ga, 3, none⟩ = some (.slice A1 l1.length c1) ∧ w''.cell? ⟨gf, 0, none⟩ = some (Value.func (Fn.func 129) #[] #[])) (late := [8]) _ _ _ _ ?_
 refine fT 0 6 (Value.func (Fn.func 129) #[] #[]) ⟨r0, r1, r2, r3⟩ ?_
 try simp only [Act.put, aQ, bQ, cQ]
 refine fT 2 6 (Value.agg #[.bool n1, .slice A1 l1.length c1]) ⟨r0, r1, r2, r3⟩ ?_
 try simp only [Act.put, aQ, bQ, cQ]
 refine fT 5 6 (Value.int .i64 (p : Int)) ⟨r0, r1, r2, r3⟩ ?_
 try simp only [Act.put, aQ, bQ, cQ]
 refine wpAnyF_one (i := 3) (by kernel_rfl) rfl (fun K hK => ?_)
 go_simp
 go_at_call 80; refine (powers_z _).mono ?_; rintro e w10 ⟨g, rfl, P10, b10, hg10⟩; have q10 := (q5.trans (below_drew (Below.refl _ w5))).trans (b10.mono q5.size); replace r0 := cell_at (Ka.on q10).h 1 _ rfl; replace r1 := cell_at (Ka.on q10).h 2 _ rfl; replace r2 := cell_at (Ka.on q10).h 3 _ rfl; replace r3 := cell_at (Kf.on q10).h 0 _ rfl
 go_wp2_with fail
 refine hK.out _ _ (Or.inr ⟨r0, r1, r2, r3⟩) ?_
 clear hK K
 try simp only [Act.put, aQ, bQ, cQ]
 refine wpAnyF_one (i := 6) (by kernel_rfl) rfl (fun K hK => ?_)
 go_simp
 go_at_call 150; refine (T1 _ g P10).mono ?_; rintro e w11 ⟨s11, A11, c11, l11, rfl, I11, b11⟩; have q11 := q10.trans (b11.mono q10.size); replace r0 := cell_at (Ka.on q11).h 1 _ rfl; replace r1 := cell_at (Ka.on q11).h 2 _ rfl; replace r2 := cell_at (Ka.on q11).h 3 _ rfl; replace r3 := cell_at (Kf.on q11).h 0 _ rfl
 go_wp2_with fail
 refine hK.out _ _ (Or.inr ⟨r0, r1, r2, r3⟩) ?_
 clear hK K
 try simp only [Act.put, aQ, bQ, cQ]
 refine wpAnyF_one (i := 7) (by kernel_rfl) rfl (fun K hK => ?_)
 go_simp
 go_at_call 129; refine (C1 _ q11 _ _ _ _ I11).mono ?_; rintro e w12 ⟨s12, A12, c12, l12, rfl, I12, b12⟩; have q12 := q11.trans (b12.mono q11.size); replace r0 := cell_at (Ka.on q12).h 1 _ rfl; replace r1 := cell_at (Ka.on q12).h 2 _ rfl; replace r2 := cell_at (Ka.on q12).h 3 _ rfl; replace r3 := cell_at (Kf.on q12).h 0 _ rfl; have K12 := Kn.on q12; obtain ⟨i0, i1⟩ := cL2 K12.h; obtain ⟨j0, j1⟩ := fZ2 K12.h
 go_wp2_with fail
 refine hK.out _ _ (Or.inr ⟨r0, r1, r2, r3⟩) ?_
 clear hK K
 try simp only [Act.put, aQ, bQ, cQ]
 refine wpAnyF_one (i := 8) (by kernel_rfl) rfl (fun K hK => ?_)
 go_simp
 refine hK.out _ _ (Or.inl (by decide)) ?_
 clear hK K
 try simp only [Act.put, aQ, bQ, cQ]
 refine wpAnyF_done (by kernel_rfl) ?_ _
 obtain ⟨X, hX, KX, NX, OX⟩ := storeI (s' := s12) (A' := A12) (n' := l12.length) (c' := c12) K12
 rw [hX]
 clear r0 r1 r2 r3 i0 i1 j0 j1
 go_wp2_with fail
 go_end0
 exact ⟨⟨fun _ => rfl, fun h => absurd rfl h⟩, (Off.of_below q12).trans OX, fun _ => ⟨s12, A12, c12, l12, KX, I12.nudge NX⟩, fun h => absurd rfl h⟩
theorem whole1_fix_all (a : VA) (ga gf gn : Nat) (w : World) (Ka : Blk w ga #[.int .i64 a.k, .int .i64 a.p, .bool a.s, .slice a.A a.l.length a.c, .string a.S, .slice a.B a.m a.d] 27) (Kf : Blk w gf #[Value.func (.func 129) #[] #[]] 55) (Kn : Blk w gn #[.bool false, .slice none 0 0] 24) (n1' : gn ≠ ga) (n2' : gn ≠ gf) (ha : a.At w) :
 Calls Tryz.prog 197 #[.pointer (some ⟨ga, 0, none⟩), .pointer (some ⟨gf, 0, none⟩), .pointer (some ⟨gn, 0, none⟩)] w (PostW gn (fixX a) w) := by
 have hX : fixX a = if a.ok = true then (if a.z < 0 then -((a.z.natAbs : Int) / 10 ^ a.q) else (a.z.natAbs : Int) / 10 ^ a.q, 0) else (0, 2) := fix_open a
 rw [hX]
 cases hok : a.ok
 · exact whole1_no a ga gf gn w Ka Kn ha hok
 · rw [if_pos rfl]
   obtain ⟨p, s1, A1, c1, l1, B1, d1, e1, i1, D1, -, q1⟩ := VA.destruct ha.rd.words hok
   rw [q1]
   generalize a.z = za at *
   subst e1
   exact whole1_fix s1 A1 c1 l1 za p B1 d1 ga gf gn w Ka Kf Kn n1' n2' ⟨ha.rd, ha.cap, i1⟩ D1
theorem whole_fix (a : VA) (w : World) (ha : a.At w) :
 Calls Tryz.prog 128 #[a.val, Value.func (.func 129) #[] #[]] w (RetIE (fixX a) w) := by
 have hmf := mkf
 obtain ⟨W, hW, hbW, K0, K1, K2, hszW⟩ := box3 w #[.int .i64 a.k, .int .i64 a.p, .bool a.s, .slice a.A a.l.length a.c, .string a.S, .slice a.B a.m a.d] 27 #[Value.func (.func 129) #[] #[]] 55 #[.bool false, .slice none 0 0] 24
 have hal : Below W.heap.size W (W.alloc (.cells #[.int .i64 0] 30)) := al1 W _
 have lw := hszW
 have hx0 : (fixX a).2 ≠ 0 → (fixX a).1 = 0 := bare_fixX a
 have hv := guard_calls 197 #[.pointer (some ⟨w.heap.size, 0, none⟩), .pointer (some ⟨w.heap.size + 1, 0, none⟩), .pointer (some ⟨w.heap.size + 1 + 1, 0, none⟩)] (enters_of Tryz.func197 (by kernel_rfl) rfl) W (fixX a).2
  (fun w' => Off (fun k => k = w.heap.size + 1 + 1) w w' ∧ ∃ s A c l, Blk w' (w.heap.size + 1 + 1) #[.bool s, .slice A (List.length l) c] 24 ∧ IV w' s A c l (fixX a).1)
  ((whole1_fix_all a _ _ _ _ (K0.on hal) (K1.on hal) (K2.on hal) (by omega) (by omega) ((ha.on hbW).on hal)).mono (by
   rintro e w' ⟨h1, h2, h3, h4⟩
   have hle := h2.size
   rw [World.size_alloc] at hle
   refine ⟨h1, h2.blk (by omega) ⟨World.alloc_heap_new W _⟩, by omega, (Off.of_below (hbW.trans (hal.mono hbW.size))).trans h2, ?_⟩
   by_cases h0 : (fixX a).2 = 0
   · exact h3 h0
   · exact ⟨false, none, 0, [], h4 h0, by rw [hx0 h0]; exact IV.zero w'⟩))
 obtain ⟨x, hx⟩ : ∃ x, fixX a = x := ⟨_, rfl⟩
 rw [hx] at hv ⊢
 obtain ⟨z, er⟩ := x
 dsimp only at hv
 clear hx hx0
 replace hszW := Lib.hid hszW
 replace lw := Lib.hid lw
 go_enter Tryz.func128, Tryz.ntmps128
 go_wp2_with (go_at_call 98; refine hv.mono ?_; rintro e w5 ⟨rfl, w4, ⟨o4, s5, A5, c5, l5, K4, I4⟩, n5⟩; have K5 : Blk w5 (w.heap.size + 1 + 1) #[.bool s5, .slice A5 l5.length c5] 24 := ⟨(n5.low.block _ (by have := lw.out; omega)).trans K4.h⟩; obtain ⟨u0, u1⟩ := cL2 K5.h; obtain ⟨f0, f1⟩ := fZ2 K5.h)
 obtain ⟨X, hX, KX, NX, OX⟩ := storeI (s' := s5) (A' := A5) (n' := l5.length) (c' := c5) K5
 rw [hX]
 have hb4 : Below w.heap.size w w4 := o4.below (Nat.le_refl _) (by rintro k rfl; omega)
 exact ret_cell_tmp rfl rfl rfl KX.h ⟨s5, A5, c5, l5, rfl, (I4.nudge n5).nudge NX, (hb4.trans (n5.low.mono (by have := lw.out; omega))).trans (NX.low.mono (by omega))⟩
theorem DFix_calls (a : VA) (w : World) (ha : a.At w) : Calls Tryz.prog 50 #[a.val] w (RetIE (fixX a) w) := by
 obtain ⟨W, hW, hbW, K0, K1, hszW⟩ := box2 w #[.int .i64 a.k, .int .i64 a.p, .bool a.s, .slice a.A a.l.length a.c, .string a.S, .slice a.B a.m a.d] 27 #[.bool false, .slice none 0 0] 24
 obtain ⟨x0, x1, x2, x3, x4, x5⟩ := cL6 K0.h
 have hv := whole_fix a W (ha.on hbW)
 obtain ⟨x, hx⟩ : ∃ x, fixX a = x := ⟨_, rfl⟩
 rw [hx] at hv ⊢
 obtain ⟨z, er⟩ := x
 clear hx
 replace hszW := Lib.hid hszW
 go_enter Tryz.func50, Tryz.ntmps50
 go_wp2_with (go_at_call 128; refine hv.mono ?_; rintro e w5 ⟨s5, A5, c5, l5, rfl, I5, b5⟩; have K5 := K1.on b5; obtain ⟨u0, u1⟩ := cL2 K5.h; obtain ⟨f0, f1⟩ := fZ2 K5.h)
 obtain ⟨X, hX, KX, NX, OX⟩ := storeI (s' := s5) (A' := A5) (n' := l5.length) (c' := c5) K5
 rw [hX]
 exact ret_cell_tmp rfl rfl rfl KX.h ⟨s5, A5, c5, l5, rfl, I5.nudge NX, (hbW.trans (b5.mono hbW.size)).trans (NX.low.mono (by omega))⟩
theorem whole1_floor (n1 : Bool) (A1 : Option Addr) (c1 : Nat) (l1 : List Nat) (z1 : Int) (p : Nat) (B1 : Option Addr) (d1 ga gf gn : Nat) (w : World) (Ka : Blk w ga #[.int .i64 3, .int .i64 (p : Int), .bool n1, .slice A1 l1.length c1, .string ⟨#[]⟩, .slice B1 0 d1] 27) (Kf : Blk w gf #[Value.func (.func 131) #[] #[]] 55) (Kn : Blk w gn #[.bool false, .slice none 0 0] 24) (n1' : gn ≠ ga) (n2' : gn ≠ gf) (I1 : IV w n1 A1 c1 l1 z1) (D1 : IsD z1 p) :
 Calls Tryz.prog 197 #[.pointer (some ⟨ga, 0, none⟩), .pointer (some ⟨gf, 0, none⟩), .pointer (some ⟨gn, 0, none⟩)] w (PostW gn (z1 / 10 ^ p, 0) w) := by
 have ha : (VA.mk 3 (p : Int) n1 A1 c1 l1 ⟨#[]⟩ B1 0 d1).At w := ⟨I1.rd, I1.cap⟩
 have hdc := decimals_c w.heap.size [(VA.mk 3 (p : Int) n1 A1 c1 l1 ⟨#[]⟩ B1 0 d1)] (w.alloc (.cells #[.int .i64 3, .int .i64 (p : Int), .bool n1, .slice A1 l1.length c1, .string ⟨#[]⟩, .slice B1 0 d1] 27)) (by simp) (vals_one (VA.mk 3 (p : Int) n1 A1 c1 l1 ⟨#[]⟩ B1 0 d1) _ _ ⟨World.alloc_heap_new w _⟩ (ha.on (al1 w _))) (by simp)
 rw [decE_one, VA.ok_made I1.isZ D1, if_pos rfl] at hdc
 have a1 := al1 w (.cells #[.int .i64 3, .int .i64 (p : Int), .bool n1, .slice A1 l1.length c1, .string ⟨#[]⟩, .slice B1 0 d1] 27)
 have hp21 : p < 21 := by have := D1.hi; omega
 have T1 := fun W' g (hP : Pows W' g) => powers1_z g p hp21 W' hP
 have C1 := fun W' (h : Below w.heap.size w W') s A c l (I : IV W' s A c l (10 ^ p)) => floor1_z n1 s A1 A c1 c l1 l z1 (10 ^ p) W' (I1.on h) I D1.lz (lz_ten p (by omega)) (ten_pos p)
 obtain ⟨R, hR⟩ : ∃ R, (z1 / 10 ^ p) = R := ⟨_, rfl⟩
 rw [hR] at C1 ⊢
 clear hR
 generalize (10 : Int) ^ p = tp at *
 obtain ⟨x0, x1, x2, x3, x4, x5⟩ := cL6 Ka.h
 clear D1 ha hp21
 go_enter Tryz.func197, Tryz.ntmps197
 go_upto_region 1 with (go_at_call 77; refine hdc.mono ?_; rintro e w5 ⟨hw, b5⟩; obtain rfl := hw.1 rfl; have q5 := a1.trans (b5.mono a1.size))
 have r0 := cell_at (Ka.on q5).h 1 _ rfl
 have r1 := cell_at (Ka.on q5).h 2 _ rfl
 have r2 := cell_at (Ka.on q5).h 3 _ rfl
 have r3 := cell_at (Kf.on q5).h 0 _ rfl
 clear x0 x1 x2 x3 x4 x5 hdc a1
 refine wp_region_any (by kernel_rfl) ?_
 refine pT 1 (Value.pointer (some ⟨ga, 2, none⟩)) ?_
 try simp only [Act.put, aQ, bQ, cQ]
 refine pT 4 (Value.pointer (some ⟨ga, 1, none⟩)) ?_
 try simp only [Act.put, aQ, bQ, cQ]
 refine wpAny_of_F (S := fun w'' => w''.cell? ⟨ga, 1, none⟩ = some (.int .i64 (p : Int)) ∧ w''.cell? ⟨ga, 2, none⟩ = some (.bool n1) ∧ w''.cell? ⟨ga, 3, none⟩ = some (.slice A1 l1.length c1) ∧ w''.cell? ⟨gf, 0, none⟩ = some (Value.func (Fn.func 131) #[] #[])) (late := [8]) _ _ _ _ ?_
 refine fT 0 6 (Value.func (Fn.func 131) #[] #[]) ⟨r0, r1, r2, r3⟩ ?_
 try simp only [Act.put, aQ, bQ, cQ]
 refine fT 2 6 (Value.agg #[.bool n1, .slice A1 l1.length c1]) ⟨r0, r1, r2, r3⟩ ?_
 try simp only [Act.put, aQ, bQ, cQ]
 refine fT 5 6 (Value.int .i64 (p : Int)) ⟨r0, r1, r2, r3⟩ ?_
 try simp only [Act.put, aQ, bQ, cQ]
 refine wpAnyF_one (i := 3) (by kernel_rfl) rfl (fun K hK => ?_)
 go_simp
 go_at_call 80; refine (powers_z _).mono ?_; rintro e w10 ⟨g, rfl, P10, b10, hg10⟩; have q10 := (q5.trans (below_drew (Below.refl _ w5))).trans (b10.mono q5.size); replace r0 := cell_at (Ka.on q10).h 1 _ rfl; replace r1 := cell_at (Ka.on q10).h 2 _ rfl; replace r2 := cell_at (Ka.on q10).h 3 _ rfl; replace r3 := cell_at (Kf.on q10).h 0 _ rfl
 go_wp2_with fail
 refine hK.out _ _ (Or.inr ⟨r0, r1, r2, r3⟩) ?_
 clear hK K
 try simp only [Act.put, aQ, bQ, cQ]
 refine wpAnyF_one (i := 6) (by kernel_rfl) rfl (fun K hK => ?_)
 go_simp
 go_at_call 150; refine (T1 _ g P10).mono ?_; rintro e w11 ⟨s11, A11, c11, l11, rfl, I11, b11⟩; have q11 := q10.trans (b11.mono q10.size); replace r0 := cell_at (Ka.on q11).h 1 _ rfl; replace r1 := cell_at (Ka.on q11).h 2 _ rfl; replace r2 := cell_at (Ka.on q11).h 3 _ rfl; replace r3 := cell_at (Kf.on q11).h 0 _ rfl
 go_wp2_with fail
 refine hK.out _ _ (Or.inr ⟨r0, r1, r2, r3⟩) ?_
 clear hK K
 try simp only [Act.put, aQ, bQ, cQ]
 refine wpAnyF_one (i := 7) (by kernel_rfl) rfl (fun K hK => ?_)
 go_simp
 go_at_call 131; refine (C1 _ q11 _ _ _ _ I11).mono ?_; rintro e w12 ⟨s12, A12, c12, l12, rfl, I12, b12⟩; have q12 := q11.trans (b12.mono q11.size); replace r0 := cell_at (Ka.on q12).h 1 _ rfl; replace r1 := cell_at (Ka.on q12).h 2 _ rfl; replace r2 := cell_at (Ka.on q12).h 3 _ rfl; replace r3 := cell_at (Kf.on q12).h 0 _ rfl; have K12 := Kn.on q12; obtain ⟨i0, i1⟩ := cL2 K12.h; obtain ⟨j0, j1⟩ := fZ2 K12.h
 go_wp2_with fail
 refine hK.out _ _ (Or.inr ⟨r0, r1, r2, r3⟩) ?_
 clear hK K
 try simp only [Act.put, aQ, bQ, cQ]
 refine wpAnyF_one (i := 8) (by kernel_rfl) rfl (fun K hK => ?_)
 go_simp
 refine hK.out _ _ (Or.inl (by decide)) ?_
 clear hK K
 try simp only [Act.put, aQ, bQ, cQ]
 refine wpAnyF_done (by kernel_rfl) ?_ _
 obtain ⟨X, hX, KX, NX, OX⟩ := storeI (s' := s12) (A' := A12) (n' := l12.length) (c' := c12) K12
 rw [hX]
 clear r0 r1 r2 r3 i0 i1 j0 j1
 go_wp2_with fail
 go_end0
 exact ⟨⟨fun _ => rfl, fun h => absurd rfl h⟩, (Off.of_below q12).trans OX, fun _ => ⟨s12, A12, c12, l12, KX, I12.nudge NX⟩, fun h => absurd rfl h⟩
theorem whole1_floor_all (a : VA) (ga gf gn : Nat) (w : World) (Ka : Blk w ga #[.int .i64 a.k, .int .i64 a.p, .bool a.s, .slice a.A a.l.length a.c, .string a.S, .slice a.B a.m a.d] 27) (Kf : Blk w gf #[Value.func (.func 131) #[] #[]] 55) (Kn : Blk w gn #[.bool false, .slice none 0 0] 24) (n1' : gn ≠ ga) (n2' : gn ≠ gf) (ha : a.At w) :
 Calls Tryz.prog 197 #[.pointer (some ⟨ga, 0, none⟩), .pointer (some ⟨gf, 0, none⟩), .pointer (some ⟨gn, 0, none⟩)] w (PostW gn (floorX a) w) := by
 have hX : floorX a = if a.ok = true then (a.z / 10 ^ a.q, 0) else (0, 2) := rfl
 rw [hX]
 cases hok : a.ok
 · exact whole1_no a ga gf gn w Ka Kn ha hok
 · rw [if_pos rfl]
   obtain ⟨p, s1, A1, c1, l1, B1, d1, e1, i1, D1, -, q1⟩ := VA.destruct ha.rd.words hok
   rw [q1]
   generalize a.z = za at *
   subst e1
   exact whole1_floor s1 A1 c1 l1 za p B1 d1 ga gf gn w Ka Kf Kn n1' n2' ⟨ha.rd, ha.cap, i1⟩ D1
theorem whole_floor (a : VA) (w : World) (ha : a.At w) :
 Calls Tryz.prog 128 #[a.val, Value.func (.func 131) #[] #[]] w (RetIE (floorX a) w) := by
 have hmf := mkf
 obtain ⟨W, hW, hbW, K0, K1, K2, hszW⟩ := box3 w #[.int .i64 a.k, .int .i64 a.p, .bool a.s, .slice a.A a.l.length a.c, .string a.S, .slice a.B a.m a.d] 27 #[Value.func (.func 131) #[] #[]] 55 #[.bool false, .slice none 0 0] 24
 have hal : Below W.heap.size W (W.alloc (.cells #[.int .i64 0] 30)) := al1 W _
 have lw := hszW
 have hx0 : (floorX a).2 ≠ 0 → (floorX a).1 = 0 := bare_floorX a
 have hv := guard_calls 197 #[.pointer (some ⟨w.heap.size, 0, none⟩), .pointer (some ⟨w.heap.size + 1, 0, none⟩), .pointer (some ⟨w.heap.size + 1 + 1, 0, none⟩)] (enters_of Tryz.func197 (by kernel_rfl) rfl) W (floorX a).2
  (fun w' => Off (fun k => k = w.heap.size + 1 + 1) w w' ∧ ∃ s A c l, Blk w' (w.heap.size + 1 + 1) #[.bool s, .slice A (List.length l) c] 24 ∧ IV w' s A c l (floorX a).1)
  ((whole1_floor_all a _ _ _ _ (K0.on hal) (K1.on hal) (K2.on hal) (by omega) (by omega) ((ha.on hbW).on hal)).mono (by
   rintro e w' ⟨h1, h2, h3, h4⟩
   have hle := h2.size
   rw [World.size_alloc] at hle
   refine ⟨h1, h2.blk (by omega) ⟨World.alloc_heap_new W _⟩, by omega, (Off.of_below (hbW.trans (hal.mono hbW.size))).trans h2, ?_⟩
   by_cases h0 : (floorX a).2 = 0
   · exact h3 h0
   · exact ⟨false, none, 0, [], h4 h0, by rw [hx0 h0]; exact IV.zero w'⟩))
 obtain ⟨x, hx⟩ : ∃ x, floorX a = x := ⟨_, rfl⟩
 rw [hx] at hv ⊢
 obtain ⟨z, er⟩ := x
 dsimp only at hv
 clear hx hx0
 replace hszW := Lib.hid hszW
 replace lw := Lib.hid lw
 go_enter Tryz.func128, Tryz.ntmps128
 go_wp2_with (go_at_call 98; refine hv.mono ?_; rintro e w5 ⟨rfl, w4, ⟨o4, s5, A5, c5, l5, K4, I4⟩, n5⟩; have K5 : Blk w5 (w.heap.size + 1 + 1) #[.bool s5, .slice A5 l5.length c5] 24 := ⟨(n5.low.block _ (by have := lw.out; omega)).trans K4.h⟩; obtain ⟨u0, u1⟩ := cL2 K5.h; obtain ⟨f0, f1⟩ := fZ2 K5.h)
 obtain ⟨X, hX, KX, NX, OX⟩ := storeI (s' := s5) (A' := A5) (n' := l5.length) (c' := c5) K5
 rw [hX]
 have hb4 : Below w.heap.size w w4 := o4.below (Nat.le_refl _) (by rintro k rfl; omega)
 exact ret_cell_tmp rfl rfl rfl KX.h ⟨s5, A5, c5, l5, rfl, (I4.nudge n5).nudge NX, (hb4.trans (n5.low.mono (by have := lw.out; omega))).trans (NX.low.mono (by omega))⟩
theorem DFloor_calls (a : VA) (w : World) (ha : a.At w) : Calls Tryz.prog 51 #[a.val] w (RetIE (floorX a) w) := by
 obtain ⟨W, hW, hbW, K0, K1, hszW⟩ := box2 w #[.int .i64 a.k, .int .i64 a.p, .bool a.s, .slice a.A a.l.length a.c, .string a.S, .slice a.B a.m a.d] 27 #[.bool false, .slice none 0 0] 24
 obtain ⟨x0, x1, x2, x3, x4, x5⟩ := cL6 K0.h
 have hv := whole_floor a W (ha.on hbW)
 obtain ⟨x, hx⟩ : ∃ x, floorX a = x := ⟨_, rfl⟩
 rw [hx] at hv ⊢
 obtain ⟨z, er⟩ := x
 clear hx
 replace hszW := Lib.hid hszW
 go_enter Tryz.func51, Tryz.ntmps51
 go_wp2_with (go_at_call 128; refine hv.mono ?_; rintro e w5 ⟨s5, A5, c5, l5, rfl, I5, b5⟩; have K5 := K1.on b5; obtain ⟨u0, u1⟩ := cL2 K5.h; obtain ⟨f0, f1⟩ := fZ2 K5.h)
 obtain ⟨X, hX, KX, NX, OX⟩ := storeI (s' := s5) (A' := A5) (n' := l5.length) (c' := c5) K5
 rw [hX]
 exact ret_cell_tmp rfl rfl rfl KX.h ⟨s5, A5, c5, l5, rfl, I5.nudge NX, (hbW.trans (b5.mono hbW.size)).trans (NX.low.mono (by omega))⟩
theorem rcmp_i (n1 n2 : Bool) (A1 A2 : Option Addr) (c1 c2 : Nat) (l1 l2 : List Nat) (z1 z2 : Int) (w : World) (I1 : IV w n1 A1 c1 l1 z1) (I2 : IV w n2 A2 c2 l2 z2) : Calls Tryz.prog 47 #[iv n1 A1 l1.length c1, iv n2 A2 l2.length c2] w fun e w' => e = .returned (.int .i64 (cmpZ z1 z2)) ∧ Below w.heap.size w w' := RCompare_calls n1 n2 A1 A2 c1 c2 l1 l2 z1 z2 w I1.rd I2.rd I1.cap I2.cap I1.isZ I2.isZ
theorem set2_ne {W : World} {a i g : Nat} {x0 x1 : Value} {v : Value} (h : W.cell? ⟨a, i, none⟩ = some v) (hne : a ≠ g) : ((W.setCell ⟨g, 0, none⟩ x0).setCell ⟨g, 1, none⟩ x1).cell? ⟨a, i, none⟩ = some v := cell_set_ne (cell_set_ne h hne) hne
abbrev VK (w : World) (g : Nat) (k p : Int) (s : Bool) (A : Option Addr) (n c : Nat) (S : ByteArray) (B : Option Addr) (m d : Nat) : Prop :=
 w.cell? ⟨g, 0, none⟩ = some (.int .i64 k) ∧ w.cell? ⟨g, 1, none⟩ = some (.int .i64 p) ∧ w.cell? ⟨g, 2, none⟩ = some (.bool s) ∧ w.cell? ⟨g, 3, none⟩ = some (.slice A n c) ∧ w.cell? ⟨g, 4, none⟩ = some (.string S) ∧ w.cell? ⟨g, 5, none⟩ = some (.slice B m d)
theorem vk_of {W W' : World} {g : Nat} {k p : Int} {s : Bool} {A : Option Addr} {n c : Nat} {S : ByteArray} {B : Option Addr} {m d : Nat} {t : TypeId} (h : Blk W g #[.int .i64 k, .int .i64 p, .bool s, .slice A n c, .string S, .slice B m d] t) (hb : Below W.heap.size W W') : VK W' g k p s A n c S B m d :=
 cL6 (h.on hb).h
end Dc
end Go.Proofs.YtjghnghceeijeaaGreatDoor
namespace Go.Proofs.YtjghnghceeijeaaGreatDoor
namespace Dc
open Go.ChangeShapes Go.WideShapes Go.ChangeAt Go.WideMaps Go.WideElems Go.RowKit Go.Shelf Go.Proofs.YtjghnghceeijeaaGreatDoor.Nm
theorem laidOut : laidOutB Tryz.prog = true := by kernel_rfl
theorem gDigits : Tryz.prog.globalNamed "zermelo/num.digits" = some 0 := by kernel_rfl
theorem tDigits : (Tryz.prog.globals[0]?).map (·.type) = some 168 := by kernel_rfl
theorem uDigits : Tryz.prog.underlying 168 = some (.array 36 5) := by kernel_rfl
theorem uByte : Tryz.prog.underlying 5 = some (.int .u8) := by kernel_rfl
def tabZ : List Int := [48, 49, 50, 51, 52, 53, 54, 55, 56, 57, 97, 98, 99, 100, 101, 102, 103, 104, 105, 106, 107, 108, 109, 110, 111, 112, 113, 114, 115, 116, 117, 118, 119, 120, 121, 122]
abbrev laidZ : List (String × DataW Unit) := [("unicode/utf8.acceptRanges", Rows.laid_unicode_utf8_acceptRanges), ("zermelo/num.digits", Rows.laid_zermelo_num_digits), ("unicode/utf8.first", Rows.laid_unicode_utf8_first)]
theorem tab_second {P : Program} {W : World} {x : String × DataW Unit} {name : String} {k : IntKind} {zs : List Int} {rest : List (String × DataW Unit)} {g : Nat} {t e : TypeId} {n : Nat}
 (hg : P.globalNamed name = some g) (hty : (P.globals[g]?).map (·.type) = some t) (ht : P.underlying t = some (.array n e)) (he : P.underlying e = some (.int k)) (hce : P.cellsOf e = 1) (hct : P.cellsOf t = n)
 (h : laidMet P (x :: (name, Lib.tabData k zs) :: rest) W) : Lib.TabIs P W name k zs := by
 obtain ⟨ps, ⟨_, _, _, _, _, _, _, _, _, _, ⟨g', t', cs, fuel, p, q, hg', ht', hvar, hd, _, _⟩, _⟩, _⟩ := h
 obtain rfl := Option.some.inj (hg.symm.trans hg')
 obtain rfl := Option.some.inj (hty.symm.trans ht')
 unfold Lib.TabIs
 rw [hvar, ← Lib.cells_of_tab ht he hce hct hd]
theorem dig_of_laidZ {W : World} (h : laidMetH Tryz.prog laidZ W) : DigW W := by
 rw [MakeChecks.laidMetH_plain _ _ _ (by kernel_rfl), show laidZ = ("unicode/utf8.acceptRanges", Rows.laid_unicode_utf8_acceptRanges) :: ("zermelo/num.digits", Lib.tabData .u8 tabZ) :: [("unicode/utf8.first", Rows.laid_unicode_utf8_first)] from rfl] at h
 have hT := tab_second gDigits tDigits uDigits uByte (by kernel_rfl) (by kernel_rfl) h
 intro i hi
 have hc := hT.cell gDigits i hi
 have e : ∀ i : Fin 36, tabZ.getD i.val 0 = ((chr i.val : Nat) : Int) := by decide
 rw [hc, e ⟨i, hi⟩]
end Dc
end Go.Proofs.YtjghnghceeijeaaGreatDoor
namespace Go.Proofs.YtjghnghceeijeaaGreatDoor
namespace Dc
open Go.RowKit Go.Shelf Go.BigFrame Go.Proofs.YtjghnghceeijeaaGreatDoor.Nm
attribute [local go_sem] Oper.semAt_some
theorem scaled_i (n1 : Bool) (A1 : Option Addr) (c1 : Nat) (l1 : List Nat) (z1 : Int) (p : Nat) (hp : p ≤ 20) (B1 : Option Addr) (d1 : Nat) (w : World) (I1 : IV w n1 A1 c1 l1 z1) {k : Nat} (f1 : Lz k z1) (hk : k ≤ 2000) :
 Calls Tryz.prog 121 #[(vv 3 (p : Int) n1 A1 l1.length c1 ⟨#[]⟩ B1 0 d1)] w (RetI (unitsZ z1 p) w) := by
 obtain ⟨W, hW, hbW, K0, K1, hszW⟩ := box2 w #[.int .i64 3, .int .i64 (p : Int), .bool n1, .slice A1 l1.length c1, .string ⟨#[]⟩, .slice B1 0 d1] 27 #[.bool false, .slice none 0 0] 24
 have J1 := I1.on hbW
 have hx : IntKind.i64.wrap (20 - (p : Int)) = ((20 - p : Nat) : Int) := by rw [IntKind.wrap_i64]; omega
 have hT : ∀ W' (x : Int), x = ((20 - p : Nat) : Int) → Calls Tryz.prog 35 #[.int .i64 x] W' (RetI (10 ^ (20 - p)) W') := fun W' x hx => by rw [hx]; exact Ten_i (20 - p) (by omega) W'
 have ft : Lz 3 ((10 : Int) ^ (20 - p)) := lz_ten (20 - p) (by omega)
 have hM := fun W' (h : Below W.heap.size W W') s A c l (I : IV W' s A c l (10 ^ (20 - p))) => rtimes_i n1 s A1 A c1 c l1 l z1 (10 ^ (20 - p)) W' (J1.on h) I f1 ft (by omega) (by decide)
 unfold unitsZ
 generalize (10 : Int) ^ (20 - p) = t at *
 obtain ⟨q, hq⟩ : ∃ q, 20 - p = q := ⟨_, rfl⟩
 rw [hq] at hx hT
 generalize z1 * t = m at *
 clear hq ft f1 hk I1 J1
 replace hszW := Lib.hid hszW
 go_enter Tryz.func121, Tryz.ntmps121
 go_upto_region 1 with fail
 have x1 : W.cell? ⟨w.heap.size, 1, none⟩ = some (.int .i64 (p : Int)) := cell_at K0.h 1 _ rfl
 have x2 : W.cell? ⟨w.heap.size, 2, none⟩ = some (.bool n1) := cell_at K0.h 2 _ rfl
 have x3 : W.cell? ⟨w.heap.size, 3, none⟩ = some (.slice A1 l1.length c1) := cell_at K0.h 3 _ rfl
 have hne0 : w.heap.size ≠ w.heap.size + 1 := by omega
 go_region_held3 (fun w'' => w''.cell? ⟨w.heap.size, 1, none⟩ = some (.int .i64 (p : Int)) ∧ w''.cell? ⟨w.heap.size, 2, none⟩ = some (.bool n1) ∧ w''.cell? ⟨w.heap.size, 3, none⟩ = some (.slice A1 l1.length c1)) ((first | (with_reducible exact ⟨x1, x2, x3⟩) | (with_reducible exact rd5 ⟨x1, x2, x3⟩) | (with_reducible exact ⟨set2_ne x1 hne0, set2_ne x2 hne0, set2_ne x3 hne0⟩)))
  ((first
   | (go_at_call 34; have hmark := q5; refine (hM _ q5 _ _ _ _ I5).mono ?_; rintro e w6 ⟨s6, A6, c6, l6, rfl, I6, b6⟩; have q6 := q5.trans (b6.mono q5.size); clear x1 x2 x3; have x1 : w6.cell? ⟨w.heap.size, 1, none⟩ = some (.int .i64 (p : Int)) := cell_at (K0.on q6).h 1 _ rfl; have x2 : w6.cell? ⟨w.heap.size, 2, none⟩ = some (.bool n1) := cell_at (K0.on q6).h 2 _ rfl; have x3 : w6.cell? ⟨w.heap.size, 3, none⟩ = some (.slice A1 l1.length c1) := cell_at (K0.on q6).h 3 _ rfl; obtain ⟨u0, u1⟩ := cL2 (K1.on q6).h; obtain ⟨g0, g1⟩ := fZ2 (K1.on q6).h)
   | (go_at_call 35; refine (hT _ _ rfl).mono ?_; rintro e w5 ⟨s5, A5, c5, l5, rfl, I5, b5⟩; have q5 := (below_drew (Below.refl W.heap.size W)).trans b5; clear x1 x2 x3; have x1 : w5.cell? ⟨w.heap.size, 1, none⟩ = some (.int .i64 (p : Int)) := cell_at (K0.on q5).h 1 _ rfl; have x2 : w5.cell? ⟨w.heap.size, 2, none⟩ = some (.bool n1) := cell_at (K0.on q5).h 2 _ rfl; have x3 : w5.cell? ⟨w.heap.size, 3, none⟩ = some (.slice A1 l1.length c1) := cell_at (K0.on q5).h 3 _ rfl)))
 go_wp2_with fail
 have hb6 := hbW.trans (q6.mono hbW.size)
 exact ret_cell rfl rfl rfl (set_blk (set_blk (K1.on q6).h 0 _) 1 _) (retI_end I6 (K1.on q6) hb6 (by omega))
theorem vk_drew {W : World} {a : Nat} {k p : Int} {s : Bool} {A : Option Addr} {n c : Nat} {S : ByteArray} {B : Option Addr} {m d : Nat} (h : VK W a k p s A n c S B m d) : VK W.drew a k p s A n c S B m d := h
theorem RCompare_z (n1 n2 : Bool) (A1 A2 : Option Addr) (c1 c2 : Nat) (l1 l2 : List Nat) (z1 z2 : Int) (p q : Nat) (B1 B2 : Option Addr) (d1 d2 : Nat) (w : World) (I1 : IV w n1 A1 c1 l1 z1) (I2 : IV w n2 A2 c2 l2 z2) (D1 : IsD z1 p) (D2 : IsD z2 q) :
 Calls Tryz.prog 64 #[(vv 3 (p : Int) n1 A1 l1.length c1 ⟨#[]⟩ B1 0 d1), (vv 3 (q : Int) n2 A2 l2.length c2 ⟨#[]⟩ B2 0 d2)] w fun e w' => e = .returned (.int .i64 (cmpZ (unitsZ z1 p) (unitsZ z2 q))) ∧ Below w.heap.size w w' := by
 obtain ⟨W, hW, hbW, K0, K1, hszW⟩ := box2 w #[.int .i64 3, .int .i64 (p : Int), .bool n1, .slice A1 l1.length c1, .string ⟨#[]⟩, .slice B1 0 d1] 27 #[.int .i64 3, .int .i64 (q : Int), .bool n2, .slice A2 l2.length c2, .string ⟨#[]⟩, .slice B2 0 d2] 27
 have J1 := I1.on hbW
 have J2 := I2.on hbW
 have f1 := D1.lz
 have f2 := D2.lz
 have hp := D1.hi
 have hq := D2.hi
 have hs1 := fun W' (h : Below W.heap.size W W') => scaled_i n1 A1 c1 l1 z1 p hp B1 d1 W' (J1.on h) f1 (by decide)
 have hs2 := fun W' (h : Below W.heap.size W W') => scaled_i n2 A2 c2 l2 z2 q hq B2 d2 W' (J2.on h) f2 (by decide)
 generalize unitsZ z1 p = v1 at *
 generalize unitsZ z2 q = v2 at *
 have hC := fun W' s A c l s' A' c' l' (I : IV W' s A c l v1) (I' : IV W' s' A' c' l' v2) => rcmp_i s s' A A' c c' l l' v1 v2 W' I I'
 generalize cmpZ v1 v2 = cc at *
 clear I1 I2 D1 D2 f1 f2 hp hq J1 J2
 have lw := hszW
 replace hszW := Lib.hid hszW
 go_enter Tryz.func64, Tryz.ntmps64
 go_upto_region 1 with fail
 have HS : ∀ W', Below W.heap.size W W' → (fun w'' => VK w'' w.heap.size 3 (p : Int) n1 A1 l1.length c1 ⟨#[]⟩ B1 0 d1 ∧ VK w'' (w.heap.size + 1) 3 (q : Int) n2 A2 l2.length c2 ⟨#[]⟩ B2 0 d2) W' := fun W' h => ⟨vk_of K0 h, vk_of K1 h⟩
 have H0 := HS _ (Below.refl _ _)
 replace HS := Lib.hid HS
 try dsimp only at H0
 clear lw
 go_region_held3 (fun w'' => VK w'' w.heap.size 3 (p : Int) n1 A1 l1.length c1 ⟨#[]⟩ B1 0 d1 ∧ VK w'' (w.heap.size + 1) 3 (q : Int) n2 A2 l2.length c2 ⟨#[]⟩ B2 0 d2) ((first | (with_reducible exact H0) | (with_reducible exact ⟨vk_drew H0.1, vk_drew H0.2⟩)))
  ((first
   | (go_at_call 47; have hmark := q8; refine (hC _ _ _ _ _ _ _ _ _ (I7.on b8) I8).mono ?_; rintro e w9 ⟨rfl, b9⟩; have q9 := q8.trans (b9.mono q8.size); clear H0; have H0 := HS.out _ q9; (try dsimp only at H0))
   | (go_at_call 121; have hmark := q7; refine (hs2 _ q7).mono ?_; rintro e w8 ⟨s8, A8, c8, l8, rfl, I8, b8⟩; have q8 := q7.trans (b8.mono q7.size); clear H0; have H0 := HS.out _ q8; (try dsimp only at H0))
   | (go_at_call 121; refine (hs1 _ (below_drew (Below.refl W.heap.size W))).mono ?_; rintro e w7 ⟨s7, A7, c7, l7, rfl, I7, b7⟩; have q7 := (below_drew (Below.refl W.heap.size W)).trans (b7.mono (below_drew (Below.refl W.heap.size W)).size); clear H0; have H0 := HS.out _ q7; (try dsimp only at H0))))
 go_wp2_with fail
 go_ret
 exact ⟨rfl, hbW.trans (q9.mono hbW.size)⟩
theorem RCompare_calls (a b : VA) (w : World) (ha : a.At w) (hb : b.At w) (h1 : a.ok = true) (h2 : b.ok = true) : Calls Tryz.prog 64 #[a.val, b.val] w fun e w' => e = .returned (.int .i64 (cmpZ a.u b.u)) ∧ Below w.heap.size w w' := by
 obtain ⟨p, s1, A1, c1, l1, B1, d1, e1, i1, D1, -, q1⟩ := VA.destruct ha.rd.words h1
 obtain ⟨q, s2, A2, c2, l2, B2, d2, e2, i2, D2, -, q2⟩ := VA.destruct hb.rd.words h2
 unfold VA.u
 rw [q1, q2]
 generalize a.z = za at *
 generalize b.z = zb at *
 subst e1 e2
 exact RCompare_z s1 s2 A1 A2 c1 c2 l1 l2 za zb p q B1 B2 d1 d2 w ⟨ha.rd, ha.cap, i1⟩ ⟨hb.rd, hb.cap, i2⟩ D1 D2
theorem made_err (z : Int) (p : Nat) : (madeE z p).2.2 = 0 ∨ (madeE z p).2.2 = 3 := by
 unfold madeE
 split
 · exact .inl rfl
 · exact .inr rfl
theorem made_isD {z : Int} {p : Nat} (hp : p ≤ 20) (h : (madeE z p).2.2 = 0) : IsD (madeE z p).1 (madeE z p).2.1 ∧ unitsZ (madeE z p).1 (madeE z p).2.1 = z * 10 ^ (20 - p) := by
 unfold madeE at *
 split at h
 · rename_i hl
   rw [if_pos hl]
   by_cases h0 : p = 0
   · subst h0
     have hm : madeZ z 0 = (z * 10, 1) := if_pos rfl
     rw [hm] at hl ⊢
     refine ⟨⟨Nat.le_refl 1, show (1 : Nat) ≤ 20 by decide, hl, fun h => absurd (show 1 < 1 from h) (by decide)⟩, ?_⟩
     show z * 10 * 10 ^ 19 = z * 10 ^ 20
     rw [Int.mul_assoc, Int.mul_comm 10, ← Int.pow_succ]
   · have hm : madeZ z p = strip z p := if_neg h0
     rw [hm] at hl ⊢
     obtain ⟨h1, h2, h3, h4⟩ := strip_pos z p (by omega)
     refine ⟨⟨h1, Nat.le_trans h2 hp, hl, h4⟩, ?_⟩
     unfold unitsZ
     conv => rhs; rw [h3]
     rw [Int.mul_assoc, ← Int.pow_add]
     congr 2
     dsimp only
     omega
 · exact absurd h (by decide)
theorem strip_isD {u : Int} (h : (stripE u).2.2 = 0) : IsD (stripE u).1 (stripE u).2.1 ∧ unitsZ (stripE u).1 (stripE u).2.1 = u := by
 have h2 := made_isD (z := u) (Nat.le_refl 20) h
 rw [Nat.sub_self, Int.pow_zero, Int.mul_one] at h2
 exact h2
theorem ok_isD {a : VA} (hw : Words a.l) (ha : a.ok = true) : IsD a.z a.q ∧ a.p = (a.q : Int) := ⟨(VA.open' hw ha).isD, (VA.open' hw ha).p⟩
def fmB (x : VA) : Bool := lightB x && x.ok
theorem fm_not {xs : List VA} {k : Nat} {r : Bool} (hr : Hid (xs.all fmB = r)) (hlt : k < xs.length) (h : fmB xs[k] = false) : r = false := by
 have := hr.out
 cases r
 · rfl
 · have h2 := List.all_eq_true.1 this xs[k] (List.getElem_mem hlt)
   rw [h] at h2; cases h2
theorem lawformed_c (g : Nat) (xs : List VA) (w : World) (hg : g < w.heap.size) (hx : ValsAt w g xs) (hn : xs.length ≤ 8) :
 Calls Tryz.prog 28 #[.slice (some ⟨g, 0, none⟩) xs.length xs.length] w fun e w' => e = .returned (.bool (xs.all fmB)) ∧ Below w.heap.size w w' := by
 obtain ⟨r, hr⟩ : ∃ r, xs.all fmB = r := ⟨_, rfl⟩
 rw [hr]
 replace hr := Lib.hid hr
 go_enter Tryz.func28, Tryz.ntmps28
 go_wp2_with fail
 go_loopw [3] (fun i W => ∃ k : Nat, i = .int .i64 (k : Int) ∧ k ≤ xs.length ∧ Hid ((xs.take k).all fmB = true) ∧ Below w.heap.size w W) (fun i _ => xs.length - (intOf i).toNat)
 case atStart => exact ⟨0, rfl, Nat.zero_le _, rfl, Below.refl _ _⟩
 case round =>
  obtain ⟨k, rfl, hk, hall, hbl⟩ := hrel
  by_cases hlt : k < xs.length
  · have x0 := (hbl.cell (p := ⟨g, k * 6, none⟩) hg).trans (hx.c0 k hlt)
    have x1 := (hbl.cell (p := ⟨g, k * 6 + 1, none⟩) hg).trans (hx.c1 k hlt)
    have x2 := (hbl.cell (p := ⟨g, k * 6 + 2, none⟩) hg).trans (hx.c2 k hlt)
    have x3 := (hbl.cell (p := ⟨g, k * 6 + 3, none⟩) hg).trans (hx.c3 k hlt)
    have x4 := (hbl.cell (p := ⟨g, k * 6 + 4, none⟩) hg).trans (hx.c4 k hlt)
    have x5 := (hbl.cell (p := ⟨g, k * 6 + 5, none⟩) hg).trans (hx.c5 k hlt)
    have y0 := fun W' (h : Below wr.heap.size wr W') => ((h.cell (p := ⟨g, k * 6, none⟩) (Nat.lt_of_lt_of_le hg hbl.size)).trans x0)
    have y1 := fun W' (h : Below wr.heap.size wr W') => ((h.cell (p := ⟨g, k * 6 + 1, none⟩) (Nat.lt_of_lt_of_le hg hbl.size)).trans x1)
    have y2 := fun W' (h : Below wr.heap.size wr W') => ((h.cell (p := ⟨g, k * 6 + 2, none⟩) (Nat.lt_of_lt_of_le hg hbl.size)).trans x2)
    have y3 := fun W' (h : Below wr.heap.size wr W') => ((h.cell (p := ⟨g, k * 6 + 3, none⟩) (Nat.lt_of_lt_of_le hg hbl.size)).trans x3)
    have y4 := fun W' (h : Below wr.heap.size wr W') => ((h.cell (p := ⟨g, k * 6 + 4, none⟩) (Nat.lt_of_lt_of_le hg hbl.size)).trans x4)
    have y5 := fun W' (h : Below wr.heap.size wr W') => ((h.cell (p := ⟨g, k * 6 + 5, none⟩) (Nat.lt_of_lt_of_le hg hbl.size)).trans x5)
    have hat := (hx.at' k hlt).on hbl
    have hno := fm_not hr hlt
    have hyes : fmB xs[k] = true → (xs.take (k + 1)).all fmB = true := fun h => by
     rw [List.take_succ_eq_append_getElem hlt, List.all_append, hall.out]
     simp [h]
    obtain ⟨x, hxk⟩ : ∃ x, xs[k] = x := ⟨_, rfl⟩
    rw [hxk] at x0 x1 x2 x3 x4 x5 y0 y1 y2 y3 y4 y5 hat hno hyes
    have ha1 := al1 wr (.cells #[.int .i64 x.k, .int .i64 x.p, .bool x.s, .slice x.A x.l.length x.c, .string x.S, .slice x.B x.m x.d] 27)
    have hl := light_c wr.heap.size [x] (wr.alloc (.cells #[.int .i64 x.k, .int .i64 x.p, .bool x.s, .slice x.A x.l.length x.c, .string x.S, .slice x.B x.m x.d] 27)) (vals_one x _ _ ⟨World.alloc_heap_new wr _⟩ (hat.on ha1)) (by simp)
    have hi := is_c x (wr.alloc (.cells #[.int .i64 x.k, .int .i64 x.p, .bool x.s, .slice x.A x.l.length x.c, .string x.S, .slice x.B x.m x.d] 27)) (hat.on ha1)
    have y0 := y0 _ ha1
    have y1 := y1 _ ha1
    have y2 := y2 _ ha1
    have y3 := y3 _ ha1
    have y4 := y4 _ ha1
    have y5 := y5 _ ha1
    have hfb : fmB x = (lightB x && x.ok) := rfl
    have hla : [x].all lightB = lightB x := by simp
    rw [hla] at hl
    clear hx hxk hat hla
    cases hlx : lightB x
    · rw [hlx] at hl
      obtain rfl := hno (by rw [hfb, hlx]; rfl)
      clear hno hyes hfb hi hlx
      go_wp2_with (go_at_call 17; refine hl.mono ?_; rintro e w4 ⟨rfl, rfl⟩)
      go_ret
      exact ⟨rfl, hbl.trans (ha1.mono hbl.size)⟩
    · rw [hlx] at hl
      cases hok : x.ok
      · rw [hok] at hi
        obtain rfl := hno (by rw [hfb, hlx, hok]; rfl)
        clear hno hyes hfb hlx hok
        go_wp2_with first
         | (go_at_call 31; refine hi.mono ?_; rintro e w5 ⟨rfl, b5⟩)
         | (go_at_call 17; refine hl.mono ?_; rintro e w4 ⟨rfl, rfl⟩)
        go_ret
        exact ⟨rfl, hbl.trans ((ha1.trans (b5.mono ha1.size)).mono hbl.size)⟩
      · rw [hok] at hi
        have hy := Lib.hid (hyes (by rw [hfb, hlx, hok]; rfl))
        clear hno hyes hfb hlx hok
        go_wp2_with first
         | (go_at_call 31; refine hi.mono ?_; rintro e w5 ⟨rfl, b5⟩)
         | (go_at_call 17; refine hl.mono ?_; rintro e w4 ⟨rfl, rfl⟩)
        exact ⟨⟨k + 1, by simp, by omega, hy, hbl.trans ((ha1.trans (b5.mono ha1.size)).mono hbl.size)⟩, by simp only [intOf]; omega⟩
  · obtain rfl : r = true := by rw [← hr.out, ← hall.out, List.take_of_length_le (by omega)]
    go_wp2_with fail
    go_ret
    exact ⟨rfl, hbl⟩
theorem cmp_anti (x y : Int) : cmpZ x y = -cmpZ y x := by
 unfold cmpZ
 split <;> split <;> omega
theorem cmp_zero {x y : Int} : cmpZ x y = 0 ↔ x = y := by
 unfold cmpZ
 split
 · omega
 · split <;> omega
theorem cmp_le {x y : Int} : cmpZ x y ≤ 0 ↔ x ≤ y := by
 unfold cmpZ
 split
 · omega
 · split <;> omega
theorem cmp_range (x y : Int) : -1 ≤ cmpZ x y ∧ cmpZ x y ≤ 1 := by
 unfold cmpZ
 split
 · omega
 · split <;> omega
theorem near_pow_mono {x y : Int} {j : Nat} (h : x ≤ y) : nearZ x (10 ^ j) ≤ nearZ y (10 ^ j) := by
 unfold nearZ
 have := ten_pos j
 rw [if_neg (by omega), if_neg (by omega)]
 exact near_mono this h
theorem round_u {a : VA} (wa : Words a.l) (ha : a.ok = true) {k : Nat} (hk : k ≤ 20) (h : (roundX a k).2.2 = 0) : IsD (roundX a k).1 (roundX a k).2.1 ∧ unitsZ (roundX a k).1 (roundX a k).2.1 = nearZ a.u (10 ^ (20 - k)) * 10 ^ (20 - k) := by
 obtain ⟨da, hp⟩ := ok_isD wa ha
 have hr : roundX a k = if a.p ≤ (k : Int) then (a.z, a.q, 0) else madeE (nearZ a.z (10 ^ (a.q - k))) k := by
  unfold roundX
  rw [one_ok ha, if_neg (by omega), Int.toNat_natCast]
 rw [hr] at h ⊢
 rw [hp] at h ⊢
 by_cases hle : (a.q : Int) ≤ (k : Int)
 · rw [if_pos hle]
   refine ⟨da, ?_⟩
   have e : a.u = a.z * 10 ^ (k - a.q) * 10 ^ (20 - k) := by
    unfold VA.u unitsZ
    rw [Int.mul_assoc, ← Int.pow_add]
    congr 2
    omega
   show a.u = _
   rw [e, near_whole _ (ten_pos _)]
 · rw [if_neg hle] at h ⊢
   have hd := made_isD hk h
   refine ⟨hd.1, hd.2.trans ?_⟩
   rw [round_units a.z da.hi (by omega)]
   rfl
theorem units_neg (z : Int) (p : Nat) : unitsZ (-z) p = -unitsZ z p := Int.neg_mul ..
theorem units_nonneg {z : Int} {p : Nat} : unitsZ z p < 0 ↔ z < 0 := by
 unfold unitsZ
 have := ten_pos (20 - p)
 constructor
 · intro h
   rcases Int.lt_or_le z 0 with h' | h'
   · exact h'
   · have := Int.mul_nonneg h' (Int.le_of_lt this)
     omega
 · exact fun h => Int.mul_neg_of_neg_of_pos h this
theorem floor_u {a : VA} (wa : Words a.l) (ha : a.ok = true) : floorX a = (a.u / 10 ^ 20, 0) := by
 unfold floorX
 rw [if_pos ha, floor_units a.z (ok_isD wa ha).1.hi]
 rfl
theorem ceil_u {a : VA} (wa : Words a.l) (ha : a.ok = true) : ceilX a = (-((-a.u) / 10 ^ 20), 0) := by
 unfold ceilX
 rw [if_pos ha, floor_units (-a.z) (ok_isD wa ha).1.hi, units_neg]
 rfl
theorem fix_u {a : VA} (wa : Words a.l) (ha : a.ok = true) : fixX a = (if a.u < 0 then -((-a.u) / 10 ^ 20) else a.u / 10 ^ 20, 0) := by
 unfold fixX
 have h : a.u < 0 ↔ a.z < 0 := units_nonneg
 by_cases hz : a.z < 0
 · rw [if_pos hz, if_pos (h.2 hz), ceil_u wa ha]
 · rw [if_neg hz, if_neg (fun h' => hz (h.1 h')), floor_u wa ha]
theorem floor_mono {x y T : Int} (hT : 0 < T) (h : x ≤ y) : x / T ≤ y / T := Int.ediv_le_ediv hT h
theorem ceil_mono {x y T : Int} (hT : 0 < T) (h : x ≤ y) : -((-x) / T) ≤ -((-y) / T) := Int.neg_le_neg (Int.ediv_le_ediv hT (by omega))
theorem fix_mono {x y T : Int} (hT : 0 < T) (h : x ≤ y) : (if x < 0 then -((-x) / T) else x / T) ≤ (if y < 0 then -((-y) / T) else y / T) := by
 by_cases h1 : x < 0
 · rw [if_pos h1]
   by_cases h2 : y < 0
   · rw [if_pos h2]
     exact ceil_mono hT h
   · rw [if_neg h2]
     have h3 : 0 ≤ (-x) / T := Int.ediv_nonneg (by omega) (by omega)
     have h4 : 0 ≤ y / T := Int.ediv_nonneg (by omega) (by omega)
     omega
 · rw [if_neg h1, if_neg (by omega)]
   exact floor_mono hT h
theorem mul_mono {x y c : Int} (hc : 0 ≤ c) (h : x ≤ y) : nearZ (x * c) (10 ^ 20) ≤ nearZ (y * c) (10 ^ 20) := near_pow_mono (j := 20) (Int.mul_le_mul_of_nonneg_right h hc)
end Dc
end Go.Proofs.YtjghnghceeijeaaGreatDoor
