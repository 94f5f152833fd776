/-
  Contracts of the walks below.
-/
import Derived.Test.YtjghnghceeijeaaGreatDoorDb26
set_option maxRecDepth 100000
set_option maxHeartbeats 4000000
set_option linter.unusedVariables false
set_option linter.unusedSimpArgs false
namespace Go.Proofs.YtjghnghceeijeaaGreatDoor
namespace Dc
open Go.RowKit Go.Shelf Go.BigFrame Go.Proofs.YtjghnghceeijeaaGreatDoor.Nm
attribute [local go_sem] Oper.semAt_some
theorem keep22 {w W : World} {g j : Nat} {s1 s2 : Bool} {A1 A2 : Option Addr} {m1 m2 c1 c2 : Nat} {t : TypeId} (K : Blk w g #[.bool s1, .slice A1 m1 c1] t) (J : Blk w j #[.bool s2, .slice A2 m2 c2] t) (h : Below w.heap.size w W) :
 W.cell? ⟨g, 0, none⟩ = some (.bool s1) ∧ W.cell? ⟨g, 1, none⟩ = some (.slice A1 m1 c1) ∧ W.cell? ⟨j, 0, none⟩ = some (.bool s2) ∧ W.cell? ⟨j, 1, none⟩ = some (.slice A2 m2 c2) := ⟨cell_at (K.on h).h 0 _ rfl, cell_at (K.on h).h 1 _ rfl, cell_at (J.on h).h 0 _ rfl, cell_at (J.on h).h 1 _ rfl⟩
set_option maxHeartbeats 64000000 in
theorem ceil1_z (n1 n2 : Bool) (A1 A2 : Option Addr) (c1 c2 : Nat) (l1 l2 : List Nat) (z1 z2 : Int) (w : World) (I1 : IV w n1 A1 c1 l1 z1) (I2 : IV w n2 A2 c2 l2 z2) (f1 : Lz 40 z1) (f2 : Lz 3 z2) (h0 : 0 < z2) :
 Calls Tryz.prog 132 #[iv n1 A1 l1.length c1, iv n2 A2 l2.length c2] w (RetI (-((-z1) / z2)) w) := by
 obtain ⟨W, hW, hbW, K0, K1, K2, hszW⟩ := box3 w #[.bool n1, .slice A1 l1.length c1] 24 #[.bool n2, .slice A2 l2.length c2] 24 #[.bool false, .slice none 0 0] 24
 have J1 := I1.on hbW
 have J2 := I2.on hbW
 have farg := f1.neg
 have hg := fun W' (h : Below W.heap.size W W') => negative_z n1 A1 c1 l1 z1 W' (J1.on h) (f1.mono (by decide))
 have hsp := fun W' (h : Below W.heap.size W W') s A c l (I : IV W' s A c l (-z1)) => split_z s n2 A A2 c c2 l l2 (-z1) z2 W' I (J2.on h) (farg.mono (by decide)) (f2.mono (by decide)) h0
 obtain ⟨x0, x1⟩ := cL2 K0.h
 obtain ⟨y0, y1⟩ := cL2 K1.h
 have fq : Lz 300 ((-z1) / z2) := (farg.le (Int.natAbs_ediv_le_natAbs _ _)).mono (by decide)
 generalize (-z1) / z2 = q at *
 generalize (-z1) % z2 = r at *
 replace fq := Lib.hid fq
 replace hszW := Lib.hid hszW
 have HS := Lib.hid I1.sgn
 clear f1 f2 h0 farg I1 I2
 go_enter Tryz.func132, Tryz.ntmps132
 go_upto_region 1 with fail
 clear hW
 go_cut [5] from 7 to 13 (fun pv wx => ∃ G s' A' c' l', pv = .pointer (some ⟨G, 0, none⟩) ∧ Blk wx G #[.bool s', .slice A' (List.length l') c'] 24 ∧ IV wx s' A' c' l' q ∧ Below W.heap.size W wx)
 case first =>
  go_region_held3 (fun w'' => w''.cell? ⟨w.heap.size, 0, none⟩ = some (.bool n1) ∧ w''.cell? ⟨w.heap.size, 1, none⟩ = some (.slice A1 l1.length c1) ∧ w''.cell? ⟨w.heap.size + 1, 0, none⟩ = some (.bool n2) ∧ w''.cell? ⟨w.heap.size + 1, 1, none⟩ = some (.slice A2 l2.length c2)) ((first | (with_reducible exact ⟨x0, x1, y0, y1⟩) | (refine keep22 K0 K1 ?_; (repeat' (with_reducible first | exact Below.refl _ _ | exact q6 | exact q7 | refine below_drew ?_ | refine below_al ?_ _ | refine below_set ?_ _ ?_)); (all_goals (first | exact q6.size | exact q7.size | exact Nat.le_refl _ | exact Nat.le_succ_of_le q7.size | exact Nat.le_succ_of_le q6.size | exact Nat.le_succ _)))))
   ((first
    | (go_at_call 130; have hmark := q6; refine (hsp _ (by (repeat' (with_reducible first | exact Below.refl _ _ | exact q6 | exact q7 | refine below_drew ?_ | refine below_al ?_ _ | refine below_set ?_ _ ?_))) _ _ _ _ (by (repeat' (with_reducible first | exact I6 | refine iv_up ?_)))).mono ?_; rintro e w7 ⟨s7, A7, c7, l7, s8, A8, c8, l8, rfl, I7, I8, b7⟩; have p7 : Below w6.heap.size w6 w7 := (by refine below_via ?_ b7; (repeat' (with_reducible first | exact Below.refl _ _ | refine below_al ?_ _))); have q7 := q6.trans (p7.mono q6.size); (try (replace Ta := Ta.on p7)); (try (replace Tb := Tb.on p7)); (first | (have Tab : Blk w7 w6.heap.size #[.bool false, .slice none 0 0] 24 ∧ Blk w7 (w6.heap.size + 1) #[.bool false, .slice none 0 0] 24 := (by with_reducible exact blk_al2 b7); obtain ⟨Ta, Tb⟩ := Tab) | (have Tb : Blk w7 w6.heap.size #[.bool false, .slice none 0 0] 24 := (by with_reducible exact blk_al1 b7)) | skip); (try (have na1 := Nat.ne_of_lt (blk_lt Ta); have na2 := Ne.symm na1)); (try (have nb1 := Nat.ne_of_lt (blk_lt Tb); have nb2 := Ne.symm nb1)); (try (have nc1 : W.heap.size ≠ w6.heap.size := Nat.ne_of_lt (Nat.lt_of_lt_of_le (Nat.lt_succ_self _) (by first | exact hlt6 | exact Nat.le_of_succ_le hlt6)); have nc2 := Ne.symm nc1)); (try (have ta0 := cell_at Ta.h 0 _ rfl; have ta1 := cell_at Ta.h 1 _ rfl; have ta2 := frozen_at Ta.h 0; have ta3 := frozen_at Ta.h 1; have ta4 := fun o => cell_at (Ta.on (al1 w7 o)).h 0 _ rfl; have ta5 := fun o => cell_at (Ta.on (al1 w7 o)).h 1 _ rfl; have ta6 := fun o => frozen_at (Ta.on (al1 w7 o)).h 0; have ta7 := fun o => frozen_at (Ta.on (al1 w7 o)).h 1)); (try (have tb0 := cell_at Tb.h 0 _ rfl; have tb1 := cell_at Tb.h 1 _ rfl; have tb2 := frozen_at Tb.h 0; have tb3 := frozen_at Tb.h 1; have tb4 := fun o => cell_at (Tb.on (al1 w7 o)).h 0 _ rfl; have tb5 := fun o => cell_at (Tb.on (al1 w7 o)).h 1 _ rfl; have tb6 := fun o => frozen_at (Tb.on (al1 w7 o)).h 0; have tb7 := fun o => frozen_at (Tb.on (al1 w7 o)).h 1)); clear x0 x1 y0 y1; have x0 : w7.cell? ⟨w.heap.size, 0, none⟩ = some (.bool n1) := cell_at (K0.on q7).h 0 _ rfl; have x1 : w7.cell? ⟨w.heap.size, 1, none⟩ = some (.slice A1 l1.length c1) := cell_at (K0.on q7).h 1 _ rfl; have y0 : w7.cell? ⟨w.heap.size + 1, 0, none⟩ = some (.bool n2) := cell_at (K1.on q7).h 0 _ rfl; have y1 : w7.cell? ⟨w.heap.size + 1, 1, none⟩ = some (.slice A2 l2.length c2) := cell_at (K1.on q7).h 1 _ rfl)
    | (go_at_call 113; refine (hg _ (by (repeat' (with_reducible first | exact Below.refl _ _ | exact q6 | exact q7 | refine below_drew ?_ | refine below_al ?_ _ | refine below_set ?_ _ ?_)))).mono ?_; rintro e w6 ⟨s6, A6, c6, l6, rfl, I6, b6⟩; (first | (have Tab : Blk w6 W.heap.size #[.bool false, .slice none 0 0] 24 ∧ Blk w6 (W.heap.size + 1) #[.bool false, .slice none 0 0] 24 := (by with_reducible exact blk_al2d b6); obtain ⟨Ta, Tb⟩ := Tab) | (have Ta : Blk w6 W.heap.size #[.bool false, .slice none 0 0] 24 := (by with_reducible exact blk_al1d b6)) | skip); (try (have hlt6 := blk_lt Ta)); have q6 : Below W.heap.size W w6 := (by refine below_via ?_ b6; (repeat' (with_reducible first | exact Below.refl _ _ | refine below_drew ?_ | refine below_al ?_ _))); clear x0 x1 y0 y1; have x0 : w6.cell? ⟨w.heap.size, 0, none⟩ = some (.bool n1) := cell_at (K0.on q6).h 0 _ rfl; have x1 : w6.cell? ⟨w.heap.size, 1, none⟩ = some (.slice A1 l1.length c1) := cell_at (K0.on q6).h 1 _ rfl; have y0 : w6.cell? ⟨w.heap.size + 1, 0, none⟩ = some (.bool n2) := cell_at (K1.on q6).h 0 _ rfl; have y1 : w6.cell? ⟨w.heap.size + 1, 1, none⟩ = some (.slice A2 l2.length c2) := cell_at (K1.on q6).h 1 _ rfl)))
  all_goals
   go_wp2_with fail
   go_meet
   refine ⟨_, s7, A7, c7, l7, rfl, ?_, ?_, ?_⟩
   all_goals (repeat' (with_reducible first | exact I7 | exact I8 | exact Tb | exact Ta | exact q7 | exact blk_new _ _ _ | exact blk_new2 _ _ _ _ | apply blk_drew | apply iv_drew | apply below_drew | apply blk_up | apply iv_up | apply below_al | apply blk_s1 | apply blk_s0 | (apply blk_ne (by first | assumption | omega)) | apply iv_set | apply below_set))
   all_goals (first | exact q6.size | exact q7.size | exact Nat.le_refl _ | exact Nat.le_succ_of_le q7.size | exact Nat.le_succ_of_le q6.size | exact Nat.le_succ _)
 case rest =>
  obtain ⟨G, s9, A9, c9, l9, rfl, KG, IG, bG⟩ := hcut
  have K8 := K2.on bG
  have hb8 := hbW.trans (bG.mono hbW.size)
  have ng := negative_z s9 A9 c9 l9 q wc IG fq.out
  obtain ⟨u0, u1⟩ := cL2 KG.h
  obtain ⟨v0, v1⟩ := cL2 K8.h
  obtain ⟨e0, e1⟩ := fZ2 K8.h
  have t0 := cell_at (K0.on bG).h 0 _ rfl
  clear x0 x1 y0 y1 t0
  go_wp2_with (go_at_call 113; refine ng.mono ?_; rintro e w12 ⟨s12, A12, c12, l12, rfl, I12, b12⟩; obtain ⟨i0, i1⟩ := cL2 (K8.on b12).h; obtain ⟨j0, j1⟩ := fZ2 (K8.on b12).h)
  exact ret_cell rfl rfl rfl (set_blk (set_blk (K8.on b12).h 0 _) 1 _) (retI_end I12 (K8.on b12) (hb8.trans (b12.mono hb8.size)) (by omega))
theorem bare_ceilX (a : VA) : (ceilX a).2 ≠ 0 → (ceilX a).1 = 0 := by
 unfold ceilX
 split
 · exact fun h => absurd rfl h
 · exact fun _ => rfl
def RetIE (x : Int × Int) (w : World) (e : Ending) (w' : World) : Prop := ∃ s A c l, e = .returned (.tuple #[iv s A l.length c, .int .i64 x.2]) ∧ IV w' s A c l x.1 ∧ Below w.heap.size w w'
def PostW (g : Nat) (x : Int × Int) (w : World) (e : Ending) (w' : World) : Prop :=
 Went x.2 e ∧ Off (fun k => k = g) w w' ∧ (x.2 = 0 → ∃ s A c l, Blk w' g #[.bool s, .slice A (List.length l) c] 24 ∧ IV w' s A c l x.1) ∧ (x.2 ≠ 0 → Blk w' g #[.bool false, .slice none 0 0] 24)
theorem whole1_no (a : VA) (ga gf gn : Nat) (w : World) (Ka : Blk w ga #[.int .i64 a.k, .int .i64 a.p, .bool a.s, .slice a.A a.l.length a.c, .string a.S, .slice a.B a.m a.d] 27) (Kn : Blk w gn #[.bool false, .slice none 0 0] 24) (ha : a.At w) (hno : a.ok = false) :
 Calls Tryz.prog 197 #[.pointer (some ⟨ga, 0, none⟩), .pointer (some ⟨gf, 0, none⟩), .pointer (some ⟨gn, 0, none⟩)] w (PostW gn (0, 2) w) := by
 have hdc := decimals_c w.heap.size [a] (w.alloc (.cells #[.int .i64 a.k, .int .i64 a.p, .bool a.s, .slice a.A a.l.length a.c, .string a.S, .slice a.B a.m a.d] 27)) (by simp) (vals_one a _ _ ⟨World.alloc_heap_new w _⟩ (ha.on (al1 w _))) (by simp)
 rw [decE_one, if_neg (by rw [hno]; decide)] at hdc
 clear hno
 obtain ⟨x0, x1, x2, x3, x4, x5⟩ := cL6 Ka.h
 have a1 := al1 w (.cells #[.int .i64 a.k, .int .i64 a.p, .bool a.s, .slice a.A a.l.length a.c, .string a.S, .slice a.B a.m a.d] 27)
 go_enter Tryz.func197, Tryz.ntmps197
 go_wp2_with (go_at_call 77; refine hdc.mono ?_; rintro e w5 ⟨hw, b5⟩; obtain rfl := hw.2 (by decide); have q5 := a1.trans (b5.mono a1.size))
 exact ⟨rfl, ⟨fun h => absurd h (by decide), fun _ => rfl⟩, .of_below q5, fun h => absurd h (by decide), fun _ => Kn.on q5⟩
theorem whole1_ceil (n1 : Bool) (A1 : Option Addr) (c1 : Nat) (l1 : List Nat) (z1 : Int) (p : Nat) (B1 : Option Addr) (d1 ga gf gn : Nat) (w : World) (Ka : Blk w ga #[.int .i64 3, .int .i64 (p : Int), .bool n1, .slice A1 l1.length c1, .string ⟨#[]⟩, .slice B1 0 d1] 27) (Kf : Blk w gf #[Value.func (.func 132) #[] #[]] 55) (Kn : Blk w gn #[.bool false, .slice none 0 0] 24) (n1' : gn ≠ ga) (n2' : gn ≠ gf) (I1 : IV w n1 A1 c1 l1 z1) (D1 : IsD z1 p) :
 Calls Tryz.prog 197 #[.pointer (some ⟨ga, 0, none⟩), .pointer (some ⟨gf, 0, none⟩), .pointer (some ⟨gn, 0, none⟩)] w (PostW gn (-((-z1) / 10 ^ p), 0) w) := by
 have ha : (VA.mk 3 (p : Int) n1 A1 c1 l1 ⟨#[]⟩ B1 0 d1).At w := ⟨I1.rd, I1.cap⟩
 have hdc := decimals_c w.heap.size [(VA.mk 3 (p : Int) n1 A1 c1 l1 ⟨#[]⟩ B1 0 d1)] (w.alloc (.cells #[.int .i64 3, .int .i64 (p : Int), .bool n1, .slice A1 l1.length c1, .string ⟨#[]⟩, .slice B1 0 d1] 27)) (by simp) (vals_one (VA.mk 3 (p : Int) n1 A1 c1 l1 ⟨#[]⟩ B1 0 d1) _ _ ⟨World.alloc_heap_new w _⟩ (ha.on (al1 w _))) (by simp)
 rw [decE_one, VA.ok_made I1.isZ D1, if_pos rfl] at hdc
 have a1 := al1 w (.cells #[.int .i64 3, .int .i64 (p : Int), .bool n1, .slice A1 l1.length c1, .string ⟨#[]⟩, .slice B1 0 d1] 27)
 have hp21 : p < 21 := by have := D1.hi; omega
 have T1 := fun W' g (hP : Pows W' g) => powers1_z g p hp21 W' hP
 have C1 := fun W' (h : Below w.heap.size w W') s A c l (I : IV W' s A c l (10 ^ p)) => ceil1_z n1 s A1 A c1 c l1 l z1 (10 ^ p) W' (I1.on h) I D1.lz (lz_ten p (by omega)) (ten_pos p)
 obtain ⟨R, hR⟩ : ∃ R, (-((-z1) / 10 ^ p)) = R := ⟨_, rfl⟩
 rw [hR] at C1 ⊢
 clear hR
 generalize (10 : Int) ^ p = tp at *
 obtain ⟨x0, x1, x2, x3, x4, x5⟩ := cL6 Ka.h
 clear D1 ha hp21
 go_enter Tryz.func197, Tryz.ntmps197
 go_upto_region 1 with (go_at_call 77; refine hdc.mono ?_; rintro e w5 ⟨hw, b5⟩; obtain rfl := hw.1 rfl; have q5 := a1.trans (b5.mono a1.size))
 have r0 := cell_at (Ka.on q5).h 1 _ rfl
 have r1 := cell_at (Ka.on q5).h 2 _ rfl
 have r2 := cell_at (Ka.on q5).h 3 _ rfl
 have r3 := cell_at (Kf.on q5).h 0 _ rfl
 clear x0 x1 x2 x3 x4 x5 hdc a1
 refine wp_region_any (by kernel_rfl) ?_
 refine pT 1 (Value.pointer (some ⟨ga, 2, none⟩)) ?_
 try simp only [Act.put, aQ, bQ, cQ]
 refine pT 4 (Value.pointer (some ⟨ga, 1, none⟩)) ?_
 try simp only [Act.put, aQ, bQ, cQ]
 refine wpAny_of_F (S := fun w'' => w''.cell? ⟨ga, 1, none⟩ = some (.int .i64 (p : Int)) ∧ w''.cell? ⟨ga, 2, none⟩ = some (.bool n1) ∧ w''.cell? ⟨ga, 3, none⟩ = some (.slice A1 l1.length c1) ∧ w''.cell? ⟨gf, 0, none⟩ = some (Value.func (Fn.func 132) #[] #[])) (late := [8]) _ _ _ _ ?_
 refine fT 0 6 (Value.func (Fn.func 132) #[] #[]) ⟨r0, r1, r2, r3⟩ ?_
 try simp only [Act.put, aQ, bQ, cQ]
 refine fT 2 6 (Value.agg #[.bool n1, .slice A1 l1.length c1]) ⟨r0, r1, r2, r3⟩ ?_
 try simp only [Act.put, aQ, bQ, cQ]
 refine fT 5 6 (Value.int .i64 (p : Int)) ⟨r0, r1, r2, r3⟩ ?_
 try simp only [Act.put, aQ, bQ, cQ]
 refine wpAnyF_one (i := 3) (by kernel_rfl) rfl (fun K hK => ?_)
 go_simp
 go_at_call 80; refine (powers_z _).mono ?_; rintro e w10 ⟨g, rfl, P10, b10, hg10⟩; have q10 := (q5.trans (below_drew (Below.refl _ w5))).trans (b10.mono q5.size); replace r0 := cell_at (Ka.on q10).h 1 _ rfl; replace r1 := cell_at (Ka.on q10).h 2 _ rfl; replace r2 := cell_at (Ka.on q10).h 3 _ rfl; replace r3 := cell_at (Kf.on q10).h 0 _ rfl
 go_wp2_with fail
 refine hK.out _ _ (Or.inr ⟨r0, r1, r2, r3⟩) ?_
 clear hK K
 try simp only [Act.put, aQ, bQ, cQ]
 refine wpAnyF_one (i := 6) (by kernel_rfl) rfl (fun K hK => ?_)
 go_simp
 go_at_call 150; refine (T1 _ g P10).mono ?_; rintro e w11 ⟨s11, A11, c11, l11, rfl, I11, b11⟩; have q11 := q10.trans (b11.mono q10.size); replace r0 := cell_at (Ka.on q11).h 1 _ rfl; replace r1 := cell_at (Ka.on q11).h 2 _ rfl; replace r2 := cell_at (Ka.on q11).h 3 _ rfl; replace r3 := cell_at (Kf.on q11).h 0 _ rfl
 go_wp2_with fail
 refine hK.out _ _ (Or.inr ⟨r0, r1, r2, r3⟩) ?_
 clear hK K
 try simp only [Act.put, aQ, bQ, cQ]
 refine wpAnyF_one (i := 7) (by kernel_rfl) rfl (fun K hK => ?_)
 go_simp
 go_at_call 132; refine (C1 _ q11 _ _ _ _ I11).mono ?_; rintro e w12 ⟨s12, A12, c12, l12, rfl, I12, b12⟩; have q12 := q11.trans (b12.mono q11.size); replace r0 := cell_at (Ka.on q12).h 1 _ rfl; replace r1 := cell_at (Ka.on q12).h 2 _ rfl; replace r2 := cell_at (Ka.on q12).h 3 _ rfl; replace r3 := cell_at (Kf.on q12).h 0 _ rfl; have K12 := Kn.on q12; obtain ⟨i0, i1⟩ := cL2 K12.h; obtain ⟨j0, j1⟩ := fZ2 K12.h
 go_wp2_with fail
 refine hK.out _ _ (Or.inr ⟨r0, r1, r2, r3⟩) ?_
 clear hK K
 try simp only [Act.put, aQ, bQ, cQ]
 refine wpAnyF_one (i := 8) (by kernel_rfl) rfl (fun K hK => ?_)
 go_simp
 refine hK.out _ _ (Or.inl (by decide)) ?_
 clear hK K
 try simp only [Act.put, aQ, bQ, cQ]
 refine wpAnyF_done (by kernel_rfl) ?_ _
 obtain ⟨X, hX, KX, NX, OX⟩ := storeI (s' := s12) (A' := A12) (n' := l12.length) (c' := c12) K12
 rw [hX]
 clear r0 r1 r2 r3 i0 i1 j0 j1
 go_wp2_with fail
 go_end0
 exact ⟨⟨fun _ => rfl, fun h => absurd rfl h⟩, (Off.of_below q12).trans OX, fun _ => ⟨s12, A12, c12, l12, KX, I12.nudge NX⟩, fun h => absurd rfl h⟩
theorem whole1_ceil_all (a : VA) (ga gf gn : Nat) (w : World) (Ka : Blk w ga #[.int .i64 a.k, .int .i64 a.p, .bool a.s, .slice a.A a.l.length a.c, .string a.S, .slice a.B a.m a.d] 27) (Kf : Blk w gf #[Value.func (.func 132) #[] #[]] 55) (Kn : Blk w gn #[.bool false, .slice none 0 0] 24) (n1' : gn ≠ ga) (n2' : gn ≠ gf) (ha : a.At w) :
 Calls Tryz.prog 197 #[.pointer (some ⟨ga, 0, none⟩), .pointer (some ⟨gf, 0, none⟩), .pointer (some ⟨gn, 0, none⟩)] w (PostW gn (ceilX a) w) := by
 have hX : ceilX a = if a.ok = true then (-((-a.z) / 10 ^ a.q), 0) else (0, 2) := rfl
 rw [hX]
 cases hok : a.ok
 · exact whole1_no a ga gf gn w Ka Kn ha hok
 · rw [if_pos rfl]
   obtain ⟨p, s1, A1, c1, l1, B1, d1, e1, i1, D1, -, q1⟩ := VA.destruct ha.rd.words hok
   rw [q1]
   generalize a.z = za at *
   subst e1
   exact whole1_ceil s1 A1 c1 l1 za p B1 d1 ga gf gn w Ka Kf Kn n1' n2' ⟨ha.rd, ha.cap, i1⟩ D1
theorem whole_ceil (a : VA) (w : World) (ha : a.At w) :
 Calls Tryz.prog 128 #[a.val, Value.func (.func 132) #[] #[]] w (RetIE (ceilX a) w) := by
 have hmf := mkf
 obtain ⟨W, hW, hbW, K0, K1, K2, hszW⟩ := box3 w #[.int .i64 a.k, .int .i64 a.p, .bool a.s, .slice a.A a.l.length a.c, .string a.S, .slice a.B a.m a.d] 27 #[Value.func (.func 132) #[] #[]] 55 #[.bool false, .slice none 0 0] 24
 have hal : Below W.heap.size W (W.alloc (.cells #[.int .i64 0] 30)) := al1 W _
 have lw := hszW
 have hx0 : (ceilX a).2 ≠ 0 → (ceilX a).1 = 0 := bare_ceilX a
 have hv := guard_calls 197 #[.pointer (some ⟨w.heap.size, 0, none⟩), .pointer (some ⟨w.heap.size + 1, 0, none⟩), .pointer (some ⟨w.heap.size + 1 + 1, 0, none⟩)] (enters_of Tryz.func197 (by kernel_rfl) rfl) W (ceilX a).2
  (fun w' => Off (fun k => k = w.heap.size + 1 + 1) w w' ∧ ∃ s A c l, Blk w' (w.heap.size + 1 + 1) #[.bool s, .slice A (List.length l) c] 24 ∧ IV w' s A c l (ceilX a).1)
  ((whole1_ceil_all a _ _ _ _ (K0.on hal) (K1.on hal) (K2.on hal) (by omega) (by omega) ((ha.on hbW).on hal)).mono (by
   rintro e w' ⟨h1, h2, h3, h4⟩
   have hle := h2.size
   rw [World.size_alloc] at hle
   refine ⟨h1, h2.blk (by omega) ⟨World.alloc_heap_new W _⟩, by omega, (Off.of_below (hbW.trans (hal.mono hbW.size))).trans h2, ?_⟩
   by_cases h0 : (ceilX a).2 = 0
   · exact h3 h0
   · exact ⟨false, none, 0, [], h4 h0, by rw [hx0 h0]; exact IV.zero w'⟩))
 obtain ⟨x, hx⟩ : ∃ x, ceilX a = x := ⟨_, rfl⟩
 rw [hx] at hv ⊢
 obtain ⟨z, er⟩ := x
 dsimp only at hv
 clear hx hx0
 replace hszW := Lib.hid hszW
 replace lw := Lib.hid lw
 go_enter Tryz.func128, Tryz.ntmps128
 go_wp2_with (go_at_call 98; refine hv.mono ?_; rintro e w5 ⟨rfl, w4, ⟨o4, s5, A5, c5, l5, K4, I4⟩, n5⟩; have K5 : Blk w5 (w.heap.size + 1 + 1) #[.bool s5, .slice A5 l5.length c5] 24 := ⟨(n5.low.block _ (by have := lw.out; omega)).trans K4.h⟩; obtain ⟨u0, u1⟩ := cL2 K5.h; obtain ⟨f0, f1⟩ := fZ2 K5.h)
 obtain ⟨X, hX, KX, NX, OX⟩ := storeI (s' := s5) (A' := A5) (n' := l5.length) (c' := c5) K5
 rw [hX]
 have hb4 : Below w.heap.size w w4 := o4.below (Nat.le_refl _) (by rintro k rfl; omega)
 exact ret_cell_tmp rfl rfl rfl KX.h ⟨s5, A5, c5, l5, rfl, (I4.nudge n5).nudge NX, (hb4.trans (n5.low.mono (by have := lw.out; omega))).trans (NX.low.mono (by omega))⟩
theorem DCeil_calls (a : VA) (w : World) (ha : a.At w) : Calls Tryz.prog 52 #[a.val] w (RetIE (ceilX a) w) := by
 obtain ⟨W, hW, hbW, K0, K1, hszW⟩ := box2 w #[.int .i64 a.k, .int .i64 a.p, .bool a.s, .slice a.A a.l.length a.c, .string a.S, .slice a.B a.m a.d] 27 #[.bool false, .slice none 0 0] 24
 obtain ⟨x0, x1, x2, x3, x4, x5⟩ := cL6 K0.h
 have hv := whole_ceil a W (ha.on hbW)
 obtain ⟨x, hx⟩ : ∃ x, ceilX a = x := ⟨_, rfl⟩
 rw [hx] at hv ⊢
 obtain ⟨z, er⟩ := x
 clear hx
 replace hszW := Lib.hid hszW
 go_enter Tryz.func52, Tryz.ntmps52
 go_wp2_with (go_at_call 128; refine hv.mono ?_; rintro e w5 ⟨s5, A5, c5, l5, rfl, I5, b5⟩; have K5 := K1.on b5; obtain ⟨u0, u1⟩ := cL2 K5.h; obtain ⟨f0, f1⟩ := fZ2 K5.h)
 obtain ⟨X, hX, KX, NX, OX⟩ := storeI (s' := s5) (A' := A5) (n' := l5.length) (c' := c5) K5
 rw [hX]
 exact ret_cell_tmp rfl rfl rfl KX.h ⟨s5, A5, c5, l5, rfl, I5.nudge NX, (hbW.trans (b5.mono hbW.size)).trans (NX.low.mono (by omega))⟩
theorem args_two (W : World) (n1 n2 : Bool) (A1 A2 : Option Addr) (c1 c2 : Nat) (l1 l2 : List Nat) (h1 : Rd W A1 l1) (hc1 : l1.length ≤ c1) (h2 : Rd W A2 l2) (hc2 : l2.length ≤ c2) : ArgsAt (W.alloc (.cells #[.bool n1, .slice A1 l1.length c1, .bool n2, .slice A2 l2.length c2] 24)) W.heap.size [⟨n1, A1, c1, l1⟩, ⟨n2, A2, c2, l2⟩] where
 neg := fun k hk => by
  rcases (show k = 0 ∨ k = 1 by simp at hk; omega) with rfl | rfl
  · exact cell_at (World.alloc_heap_new W _) 0 _ rfl
  · exact cell_at (World.alloc_heap_new W _) 2 _ rfl
 abs := fun k hk => by
  rcases (show k = 0 ∨ k = 1 by simp at hk; omega) with rfl | rfl
  · exact cell_at (World.alloc_heap_new W _) 1 _ rfl
  · exact cell_at (World.alloc_heap_new W _) 3 _ rfl
 rd := fun k hk => by
  rcases (show k = 0 ∨ k = 1 by simp at hk; omega) with rfl | rfl
  · exact ⟨h1.on (al1 W _), hc1⟩
  · exact ⟨h2.on (al1 W _), hc2⟩
theorem intE_two (x y : IntArg) : intE [x, y] = if (okI x.neg x.l && okI y.neg y.l) = true then 0 else 2 := by simp [intE, IntArg.ok]
def ratE (n1 : Bool) (l1 : List Nat) (n2 : Bool) (l2 : List Nat) : Int := if (okI n1 l1 && okI n2 l2) = true then (if toZ n2 l2 = 0 then 20 else if 290 < l1.length then 3 else 0) else 2
theorem near_mul (x d : Int) (hd : d ≠ 0) : (nearZ x d * d).natAbs ≤ 2 * x.natAbs := by
 have key : ∀ (x d : Int), 0 < d → (nearP x d * d).natAbs ≤ 2 * x.natAbs := fun x d hd => by
  have h := near_spec x hd
  generalize nearP x d = q at *
  rcases Int.lt_trichotomy q 0 with h0 | h0 | h0
  · have : q * d ≤ (-1) * d := Int.mul_le_mul_of_nonneg_right (by omega) (by omega)
    omega
  · subst h0; rw [Int.zero_mul]; exact Nat.zero_le _
  · have : 1 * d ≤ q * d := Int.mul_le_mul_of_nonneg_right (by omega) (by omega)
    omega
 unfold nearZ
 split
 · have h := key (-x) (-d) (by omega)
   rwa [Int.natAbs_neg, Int.mul_neg, Int.natAbs_neg] at h
 · exact key x d (by omega)
theorem ratio_c (n1 n2 : Bool) (A1 A2 : Option Addr) (c1 c2 : Nat) (l1 l2 : List Nat) (w : World) (h1 : Rd w A1 l1) (hc1 : l1.length ≤ c1) (h2 : Rd w A2 l2) (hc2 : l2.length ≤ c2) :
 Calls Tryz.prog 139 #[iv n1 A1 l1.length c1, iv n2 A2 l2.length c2] w fun e w' => Went (ratE n1 l1 n2 l2) e ∧ Below w.heap.size w w' := by
 obtain ⟨W, hW, hbW, K0, K1, hszW⟩ := box2 w #[.bool n1, .slice A1 l1.length c1] 24 #[.bool n2, .slice A2 l2.length c2] 24
 have hdc := integers_c W.heap.size [⟨n1, A1, c1, l1⟩, ⟨n2, A2, c2, l2⟩] (W.alloc (.cells #[.bool n1, .slice A1 l1.length c1, .bool n2, .slice A2 l2.length c2] 24)) (by simp) (args_two W n1 n2 A1 A2 c1 c2 l1 l2 (h1.on hbW) hc1 (h2.on hbW) hc2) (by simp)
 have a1 := al1 W (.cells #[.bool n1, .slice A1 l1.length c1, .bool n2, .slice A2 l2.length c2] 24)
 obtain ⟨x0, x1⟩ := cL2 K0.h
 obtain ⟨y0, y1⟩ := cL2 K1.h
 unfold ratE
 rw [intE_two] at hdc
 replace hszW := Lib.hid hszW
 cases hok : (okI n1 l1 && okI n2 l2)
 · rw [if_neg (by decide)]
   rw [hok, if_neg (by decide)] at hdc
   clear hok
   go_enter Tryz.func139, Tryz.ntmps139
   go_wp2_with (go_at_call 136; refine hdc.mono ?_; rintro e w5 ⟨hw, b5⟩; obtain rfl := hw.2 (by decide); have q5 := a1.trans (b5.mono a1.size); obtain ⟨x0, x1⟩ := cL2 (K0.on q5).h; obtain ⟨y0, y1⟩ := cL2 (K1.on q5).h)
   exact ⟨rfl, ⟨fun h => absurd h (by decide), fun _ => rfl⟩, hbW.trans (q5.mono hbW.size)⟩
 · rw [if_pos rfl]
   rw [hok, if_pos rfl] at hdc
   rw [Bool.and_eq_true] at hok
   have J2 : IV W n2 A2 c2 l2 (toZ n2 l2) := ⟨h2.on hbW, hc2, (okZ_of h2.words hok.2).isZ⟩
   have hzc := fun W' (h : Below W.heap.size W W') => zero_c n2 A2 c2 l2 (toZ n2 l2) W' (J2.on h)
   clear hok
   generalize toZ n2 l2 = z at *
   by_cases hz : z = 0
   · rw [if_pos hz]
     rw [decide_eq_true hz] at hzc
     clear hz
     go_enter Tryz.func139, Tryz.ntmps139
     go_wp2_with first
      | (go_at_call 78; have hmark := q6; refine (need_no 20 (by decide) _).mono ?_; rintro e w16 ⟨rfl, rfl⟩)
      | (go_at_call 79; have hmark := q5; refine (hzc _ q5).mono ?_; rintro e w6 ⟨rfl, b6⟩; have q6 := q5.trans (b6.mono q5.size); obtain ⟨x0, x1⟩ := cL2 (K0.on q6).h)
      | (go_at_call 136; refine hdc.mono ?_; rintro e w5 ⟨hw, b5⟩; obtain rfl := hw.1 rfl; have q5 := a1.trans (b5.mono a1.size); obtain ⟨x0, x1⟩ := cL2 (K0.on q5).h; obtain ⟨y0, y1⟩ := cL2 (K1.on q5).h)
     exact ⟨rfl, ⟨fun h => absurd h (by decide), fun _ => rfl⟩, hbW.trans (q6.mono hbW.size)⟩
   · rw [if_neg hz]
     rw [decide_eq_false hz] at hzc
     clear hz
     by_cases h290 : 290 < l1.length
     · rw [if_pos h290]
       have hI : decide ((290 : Int) < (l1.length : Int)) = true := decide_eq_true (by omega)
       go_enter Tryz.func139, Tryz.ntmps139
       go_wp2_with first
        | (go_at_call 78; have hmark := q6; refine (need_no 3 (by decide) _).mono ?_; rintro e w16 ⟨rfl, rfl⟩)
        | (go_at_call 79; have hmark := q5; refine (hzc _ q5).mono ?_; rintro e w6 ⟨rfl, b6⟩; have q6 := q5.trans (b6.mono q5.size); obtain ⟨x0, x1⟩ := cL2 (K0.on q6).h)
        | (go_at_call 136; refine hdc.mono ?_; rintro e w5 ⟨hw, b5⟩; obtain rfl := hw.1 rfl; have q5 := a1.trans (b5.mono a1.size); obtain ⟨x0, x1⟩ := cL2 (K0.on q5).h; obtain ⟨y0, y1⟩ := cL2 (K1.on q5).h)
       exact ⟨rfl, ⟨fun h => absurd h (by decide), fun _ => rfl⟩, hbW.trans (q6.mono hbW.size)⟩
     · rw [if_neg h290]
       have hI : decide ((290 : Int) < (l1.length : Int)) = false := decide_eq_false (by omega)
       go_enter Tryz.func139, Tryz.ntmps139
       go_wp2_with first
        | (go_at_call 79; have hmark := q5; refine (hzc _ q5).mono ?_; rintro e w6 ⟨rfl, b6⟩; have q6 := q5.trans (b6.mono q5.size); obtain ⟨x0, x1⟩ := cL2 (K0.on q6).h)
        | (go_at_call 136; refine hdc.mono ?_; rintro e w5 ⟨hw, b5⟩; obtain rfl := hw.1 rfl; have q5 := a1.trans (b5.mono a1.size); obtain ⟨x0, x1⟩ := cL2 (K0.on q5).h; obtain ⟨y0, y1⟩ := cL2 (K1.on q5).h)
       go_end0
       exact ⟨⟨fun _ => rfl, fun h => absurd rfl h⟩, hbW.trans (q6.mono hbW.size)⟩
def InCert (g : Nat) (er q r : Int) (w : World) : Prop := ∃ s A c l s' A' c' l', Blk w g #[.bool s, .slice A (List.length l) c, .bool s', .slice A' (List.length l') c'] 77 ∧ (er = 0 → IV w s A c l q ∧ IV w s' A' c' l' r)
theorem ccells_no {s s' : Bool} {A A' : Option Addr} {n c n' c' : Nat} (i x : Nat) : (#[.bool s, .slice A n c, .bool s', .slice A' n' c'] : Array Value)[i]? ≠ some (.int .u32 (x : Int)) := by
 intro h
 rcases i with _ | _ | _ | _ | i <;> simp at h
theorem storeC {W : World} {g : Nat} {t : TypeId} {s s' u : Bool} {A A' B : Option Addr} {n c n' c' m d : Nat} (h : Blk W g #[.bool s, .slice A n c, .bool s', .slice A' n' c'] t) (i : Nat) (hi : i = 0 ∨ i = 2) :
 ∃ X, ((W.setCell ⟨g, i, none⟩ (.bool u)).setCell ⟨g, i + 1, none⟩ (.slice B m d)) = X ∧ Blk X g (if i = 0 then #[.bool u, .slice B m d, .bool s', .slice A' n' c'] else #[.bool s, .slice A n c, .bool u, .slice B m d]) t ∧ Nudge g W X ∧ Off (fun k => k = g) W X := by
 rcases hi with rfl | rfl
 · have h0 : Blk (W.setCell ⟨g, 0, none⟩ (.bool u)) g #[.bool u, .slice A n c, .bool s', .slice A' n' c'] t := ⟨set_blk h.h 0 _⟩
   have q0 : Nudge g W (W.setCell ⟨g, 0, none⟩ (.bool u)) := (Nudge.of_below (.refl _ W) (Nat.le_of_lt (blk_lt h))).set (Nat.le_refl _) h ccells_no 0 _
   have o0 : Off (fun k => k = g) W (W.setCell ⟨g, 0, none⟩ (.bool u)) := (Off.refl (fun k => k = g) W).set (.inl rfl) 0 _
   generalize W.setCell ⟨g, 0, none⟩ (.bool u) = X at *
   exact ⟨_, rfl, ⟨set_blk h0.h 1 _⟩, q0.set (Nat.le_refl _) h0 ccells_no 1 _, o0.set (.inl rfl) 1 _⟩
 · have h0 : Blk (W.setCell ⟨g, 2, none⟩ (.bool u)) g #[.bool s, .slice A n c, .bool u, .slice A' n' c'] t := ⟨set_blk h.h 2 _⟩
   have q0 : Nudge g W (W.setCell ⟨g, 2, none⟩ (.bool u)) := (Nudge.of_below (.refl _ W) (Nat.le_of_lt (blk_lt h))).set (Nat.le_refl _) h ccells_no 2 _
   have o0 : Off (fun k => k = g) W (W.setCell ⟨g, 2, none⟩ (.bool u)) := (Off.refl (fun k => k = g) W).set (.inl rfl) 2 _
   generalize W.setCell ⟨g, 2, none⟩ (.bool u) = X at *
   exact ⟨_, rfl, ⟨set_blk h0.h 3 _⟩, q0.set (Nat.le_refl _) h0 ccells_no 3 _, o0.set (.inl rfl) 3 _⟩
theorem InCert.nudge {g n : Nat} {er q r : Int} {w W : World} (h : InCert g er q r w) (hb : Nudge n w W) (hg : g < n) : InCert g er q r W := by
 obtain ⟨s, A, c, l, s', A', c', l', K, hI⟩ := h
 exact ⟨s, A, c, l, s', A', c', l', ⟨(hb.low.block g hg).trans K.h⟩, fun h0 => ⟨(hI h0).1.nudge hb, (hI h0).2.nudge hb⟩⟩
theorem rat1_no (n1 n2 : Bool) (A1 A2 : Option Addr) (c1 c2 : Nat) (l1 l2 : List Nat) (ga gb gc : Nat) (w : World) (Ka : Blk w ga #[.bool n1, .slice A1 l1.length c1] 24) (Kb : Blk w gb #[.bool n2, .slice A2 l2.length c2] 24) (h1 : Rd w A1 l1) (hc1 : l1.length ≤ c1) (h2 : Rd w A2 l2) (hc2 : l2.length ≤ c2) (er : Int) (he : ratE n1 l1 n2 l2 = er) (hne : er ≠ 0) :
 Calls Tryz.prog 138 #[.pointer (some ⟨ga, 0, none⟩), .pointer (some ⟨gb, 0, none⟩), .pointer (some ⟨gc, 0, none⟩)] w fun e w' => e = .panicked (failure er) ∧ Below w.heap.size w w' := by
 obtain ⟨W, hW, hbW, K0, hszW⟩ := box1 w (vcells 0 0 false none 0 0 ⟨#[]⟩ none 0 0) 27
 have hr := ratio_c n1 n2 A1 A2 c1 c2 l1 l2 W (h1.on hbW) hc1 (h2.on hbW) hc2
 rw [he] at hr
 clear he
 replace hne := Lib.hid hne
 obtain ⟨x0, x1⟩ := cL2 (Ka.on hbW).h
 obtain ⟨y0, y1⟩ := cL2 (Kb.on hbW).h
 replace hszW := Lib.hid hszW
 go_enter Tryz.func138, Tryz.ntmps138
 go_wp2_with (go_at_call 139; refine hr.mono ?_; rintro e w5 ⟨hw, b5⟩; obtain rfl := hw.2 hne.out)
 exact ⟨rfl, rfl, hbW.trans (b5.mono hbW.size)⟩
theorem keep2i {w W : World} {g : Nat} {s : Bool} {A : Option Addr} {n c : Nat} {t : TypeId} (K : Blk w g #[.bool s, .slice A n c] t) (h : Below w.heap.size w W) : W.cell? ⟨g, 0, none⟩ = some (.bool s) ∧ W.cell? ⟨g, 1, none⟩ = some (.slice A n c) := ⟨cell_at (K.on h).h 0 _ rfl, cell_at (K.on h).h 1 _ rfl⟩
theorem rd2 {W : World} {a0 a1 : Addr} {x0 x1 : Option Value} (h : W.cell? a0 = x0 ∧ W.cell? a1 = x1) : W.drew.cell? a0 = x0 ∧ W.drew.cell? a1 = x1 := h
theorem rat1_z (n1 n2 : Bool) (A1 A2 : Option Addr) (c1 c2 : Nat) (l1 l2 : List Nat) (z1 z2 : Int) (ga gb gc : Nat) (w : World) (Ka : Blk w ga #[.bool n1, .slice A1 l1.length c1] 24) (Kb : Blk w gb #[.bool n2, .slice A2 l2.length c2] 24) (Kc : Blk w gc #[.bool false, .slice none 0 0, .bool false, .slice none 0 0] 77) (na : ga ≠ gc) (nb : gb ≠ gc) (I1 : IV w n1 A1 c1 l1 z1) (I2 : IV w n2 A2 c2 l2 z2) (f1 : Lz 290 z1) (f2 : Lz 300 z2) (h0' : z2 ≠ 0) (he : ratE n1 l1 n2 l2 = 0) :
 Calls Tryz.prog 138 #[.pointer (some ⟨ga, 0, none⟩), .pointer (some ⟨gb, 0, none⟩), .pointer (some ⟨gc, 0, none⟩)] w fun e w' => PostV (fun k => k = gc) (stripE (nearZ (z1 * 10 ^ 20) z2)) w e w' ∧ InCert gc (stripE (nearZ (z1 * 10 ^ 20) z2)).2.2 (nearZ (z1 * 10 ^ 20) z2) (z1 * 10 ^ 20 - nearZ (z1 * 10 ^ 20) z2 * z2) w' := by
 obtain ⟨W, hW, hbW, K0, hszW⟩ := box1 w (vcells 0 0 false none 0 0 ⟨#[]⟩ none 0 0) 27
 have hr := ratio_c n1 n2 A1 A2 c1 c2 l1 l2 W (I1.on hbW).rd I1.cap (I2.on hbW).rd I2.cap
 rw [he] at hr
 have J1 := I1.on hbW
 have J2 := I2.on hbW
 have La := Ka.on hbW
 have Lb := Kb.on hbW
 have Lc := Kc.on hbW
 have lc := blk_lt Kc
 have t20 := lz_ten 20 (by decide)
 have T1 := fun W' g (hP : Pows W' g) => powers1_z g 20 (by decide) W' hP
 have ex := f1.mul t20
 have M1 := fun W' (h : Below W.heap.size W W') s A c l (I : IV W' s A c l (10 ^ 20)) => mul_z n1 s A1 A c1 c l1 l z1 (10 ^ 20) W' (J1.on h) I (f1.mono (by decide)) (t20.mono (by decide)) (ex.mono (by decide))
 have eq := ex.near h0'
 have eqd : Lz 294 (nearZ (z1 * 10 ^ 20) z2 * z2) := (ex.add ex).le (by have := near_mul (z1 * 10 ^ 20) z2 h0'; omega)
 generalize z1 * 10 ^ 20 = x at *
 generalize (10 : Int) ^ 20 = tp at *
 have N1 := fun W' (h : Below W.heap.size W W') s A c l (I : IV W' s A c l x) => nearest_z s n2 A A2 c c2 l l2 x z2 W' I (J2.on h) (ex.mono (by decide)) f2 h0'
 have er := (ex.mono (by decide : 293 ≤ 294)).sub eqd
 generalize nearZ x z2 = q at *
 have M2 := fun W' s A c l (I : IV W' s A c l q) (I' : IV W' n2 A2 c2 l2 z2) => mul_z s n2 A A2 c c2 l l2 q z2 W' I I' (eq.mono (by decide)) f2 (eqd.mono (by decide))
 generalize q * z2 = qd at *
 have S2 := fun W' s A c l (I : IV W' s A c l x) s' A' c' l' (I' : IV W' s' A' c' l' qd) => sub_z s s' A A' c c' l l' x qd W' I I' (ex.mono (by decide)) (eqd.mono (by decide)) (er.mono (by decide))
 have U1 := fun W' s A c l (I : IV W' s A c l q) => units_z s A c l q W' I (eq.mono (by decide))
 obtain ⟨E, hE⟩ : ∃ E, stripE q = E := ⟨_, rfl⟩
 rw [hE] at U1 ⊢
 generalize x - qd = rs at *
 obtain ⟨x0, x1⟩ := cL2 La.h
 obtain ⟨y0, y1⟩ := cL2 Lb.h
 clear hE he Ka Kb Kc I1 I2 f1 f2 h0' t20 ex eq eqd er
 replace hszW := Lib.hid hszW
 replace na := Lib.hid na
 replace nb := Lib.hid nb
 go_enter Tryz.func138, Tryz.ntmps138
 go_upto_region 2 with (go_at_call 139; refine hr.mono ?_; rintro e w5 ⟨hw, b5⟩; obtain rfl := hw.1 rfl)
 have La5 := La.on b5
 clear x0 x1 y0 y1 hW hr
 go_cut [4] from 8 to 11 (fun pv wx => ∃ G s' A' c' l', pv = .pointer (some ⟨G, 0, none⟩) ∧ Blk wx G #[.bool s', .slice A' (List.length l') c'] 24 ∧ IV wx s' A' c' l' x ∧ Below w5.heap.size w5 wx ∧ w5.heap.size ≤ G)
 case first =>
  obtain ⟨r0, r1⟩ := cL2 La5.h
  go_region_held3 (fun w'' => w''.cell? ⟨ga, 0, none⟩ = some (.bool n1) ∧ w''.cell? ⟨ga, 1, none⟩ = some (.slice A1 l1.length c1)) ((first | (with_reducible exact ⟨r0, r1⟩) | (with_reducible exact rd2 ⟨r0, r1⟩) | (refine keep2i La5 ?_; (repeat' (with_reducible first | exact Below.refl _ _ | exact q10 | exact q11 | exact q12 | refine below_drew ?_ | refine below_al ?_ _ | refine below_set ?_ _ ?_)); (all_goals (first | exact q10.size | exact q11.size | exact q12.size | exact Nat.le_refl _)))))
   ((first
    | (go_at_call 87; have hmark := q11; refine (M1 _ (b5.trans (((by (repeat' (with_reducible first | exact Below.refl _ _ | exact q10 | exact q11 | exact q12 | refine below_drew ?_ | refine below_al ?_ _ | refine below_set ?_ _ ?_))) : Below w5.heap.size w5 _).mono b5.size)) _ _ _ _ (by (repeat' (with_reducible first | exact I11 | refine iv_up ?_)))).mono ?_; rintro e w12 ⟨s12, A12, c12, l12, rfl, I12, b12⟩; have p12 : Below w11.heap.size w11 w12 := (by refine below_via ?_ b12; (repeat' (with_reducible first | exact Below.refl _ _ | exact q10 | exact q11 | exact q12 | refine below_drew ?_ | refine below_al ?_ _ | refine below_set ?_ _ ?_))); have q12 := q11.trans (p12.mono q11.size); (try (replace Ta := Ta.on p12)); (first | (have Ta : Blk w12 w11.heap.size #[.bool false, .slice none 0 0] 24 := (by with_reducible exact blk_al1 b12)) | skip); clear r0 r1; have r0 : w12.cell? ⟨ga, 0, none⟩ = some (.bool n1) := cell_at (La5.on q12).h 0 _ rfl; have r1 : w12.cell? ⟨ga, 1, none⟩ = some (.slice A1 l1.length c1) := cell_at (La5.on q12).h 1 _ rfl; (try (have ta0 := cell_at Ta.h 0 _ rfl; have ta1 := cell_at Ta.h 1 _ rfl; have ta2 := frozen_at Ta.h 0; have ta3 := frozen_at Ta.h 1)))
    | (go_at_call 150; have hmark := q10; refine (T1 _ g (by (repeat' (with_reducible first | exact P10 | refine pows_up ?_)))).mono ?_; rintro e w11 ⟨s11, A11, c11, l11, rfl, I11, b11⟩; have p11 : Below w10.heap.size w10 w11 := (by refine below_via ?_ b11; (repeat' (with_reducible first | exact Below.refl _ _ | exact q10 | exact q11 | exact q12 | refine below_drew ?_ | refine below_al ?_ _ | refine below_set ?_ _ ?_))); have q11 := q10.trans (p11.mono q10.size); (try (replace Ta := Ta.on p11)); (first | (have Ta : Blk w11 w10.heap.size #[.bool false, .slice none 0 0] 24 := (by with_reducible exact blk_al1 b11)) | skip); clear r0 r1; have r0 : w11.cell? ⟨ga, 0, none⟩ = some (.bool n1) := cell_at (La5.on q11).h 0 _ rfl; have r1 : w11.cell? ⟨ga, 1, none⟩ = some (.slice A1 l1.length c1) := cell_at (La5.on q11).h 1 _ rfl)
    | (go_at_call 80; refine (powers_z _).mono ?_; rintro e w10 ⟨g, rfl, P10, b10, hg10⟩; have q10 : Below w5.heap.size w5 w10 := (by refine below_via ?_ b10; (repeat' (with_reducible first | exact Below.refl _ _ | exact q10 | exact q11 | exact q12 | refine below_drew ?_ | refine below_al ?_ _ | refine below_set ?_ _ ?_))); have p10 := q10; (first | (have Ta : Blk w10 w5.heap.size #[.bool false, .slice none 0 0] 24 := (by with_reducible exact blk_al1d b10)) | skip); clear r0 r1; have r0 : w10.cell? ⟨ga, 0, none⟩ = some (.bool n1) := cell_at (La5.on q10).h 0 _ rfl; have r1 : w10.cell? ⟨ga, 1, none⟩ = some (.slice A1 l1.length c1) := cell_at (La5.on q10).h 1 _ rfl)))
  all_goals
   go_wp2_with fail
   go_meet
   refine ⟨_, s12, A12, c12, l12, rfl, ?_, ?_, ?_, ?_⟩
   all_goals (repeat' (with_reducible first | exact I12 | exact Ta | exact q12 | exact blk_new _ _ _ | apply blk_drew | apply iv_drew | apply below_drew | apply blk_up | apply iv_up | apply below_al | apply blk_s1 | apply blk_s0 | apply iv_set | apply below_set))
   all_goals (first | exact q10.size | exact q11.size | exact q12.size | exact Nat.le_refl _)
 case rest =>
  obtain ⟨G, s6, A6, c6, l6, rfl, KG, IG, bG, hG⟩ := hcut
  have q6 := b5.trans (bG.mono b5.size)
  have lg6 := blk_lt KG
  have hGW : W.heap.size ≤ G := Nat.le_trans b5.size hG
  have Lb6 := Lb.on q6
  have Lc6 := Lc.on q6
  have K06 := K0.on q6
  have hb6 := hbW.trans (q6.mono hbW.size)
  have N1' := N1 wc q6 s6 A6 c6 l6 IG
  have gcW : gc < W.heap.size := by have := hszW.out; omega
  clear La La5 Lb Lc K0 N1 T1 M1
  obtain ⟨x0, x1⟩ := cL2 KG.h
  obtain ⟨y0, y1⟩ := cL2 Lb6.h
  go_upto_region 4 with (go_at_call 84; refine N1'.mono ?_; rintro e w7 ⟨s7, A7, c7, l7, rfl, I7, b7⟩; obtain ⟨u0, u1, u2, u3⟩ := cL4 (Lc6.on b7).h; obtain ⟨f0, f1, f2, f3⟩ := fZ4 (Lc6.on b7).h)
  obtain ⟨X, hX, KX, NX, OX⟩ := storeC (u := s7) (B := A7) (m := l7.length) (d := c7) (Lc6.on b7) 0 (.inl rfl)
  rw [hX]
  rw [if_pos rfl] at KX
  have lX := OX.size
  have JG := (IG.on b7).nudge NX
  have J7 := I7.nudge NX
  have RG := OX.one (KG.on b7) (by omega)
  have Rb := OX.one (Lb6.on b7) nb.out
  have R0 := OX.one (K06.on b7) (by omega)
  have oX : Off (fun k => k = gc) w X := (Off.of_below (hb6.trans (b7.mono hb6.size))).trans OX
  have JX := ((J2.on q6).on b7).nudge NX
  have b7s := b7.size
  have M3 := fun W' (h : Below X.heap.size X W') s A c l (I : IV W' s A c l q) => M2 W' s A c l I (JX.on h)
  obtain ⟨g0, g1⟩ := cL2 RG.h
  obtain ⟨g2, g3⟩ := cL2 KX.h
  obtain ⟨g4, g5⟩ := cL2 Rb.h
  clear x0 x1 y0 y1 u0 u1 u2 u3 f0 f1 f2 f3 hX N1' KG IG I7 Lb6 Lc6 K06 NX M2
  refine wp_region_any (by kernel_rfl) ?_
  refine pT 1 (Value.pointer (some ⟨gc, 0, none⟩)) ?_
  try simp only [Act.put, aQ, bQ, cQ]
  refine wpAny_of_F (S := fun w'' => w''.cell? ⟨G, 0, none⟩ = some (.bool s6) ∧ w''.cell? ⟨G, 1, none⟩ = some (.slice A6 l6.length c6) ∧ w''.cell? ⟨gc, 0, none⟩ = some (.bool s7) ∧ w''.cell? ⟨gc, 1, none⟩ = some (.slice A7 l7.length c7) ∧ w''.cell? ⟨gb, 0, none⟩ = some (.bool n2) ∧ w''.cell? ⟨gb, 1, none⟩ = some (.slice A2 l2.length c2)) (late := [7]) _ _ _ _ ?_
  refine fT 0 6 (Value.agg #[.bool s6, .slice A6 l6.length c6]) ⟨g0, g1, g2, g3, g4, g5⟩ ?_
  try simp only [Act.put, aQ, bQ, cQ]
  refine fT 2 6 (Value.agg #[.bool s7, .slice A7 l7.length c7]) ⟨g0, g1, g2, g3, g4, g5⟩ ?_
  try simp only [Act.put, aQ, bQ, cQ]
  refine fT 3 6 (Value.agg #[.bool n2, .slice A2 l2.length c2]) ⟨g0, g1, g2, g3, g4, g5⟩ ?_
  try simp only [Act.put, aQ, bQ, cQ]
  refine wpAnyF_one (i := 4) (by kernel_rfl) rfl (fun K hK => ?_)
  go_simp
  go_at_call 87; refine (M3 _ (below_drew (Below.refl X.heap.size X)) _ _ _ _ (J7.on (below_drew (Below.refl X.heap.size X)))).mono ?_; rintro e w11 ⟨s11, A11, c11, l11, rfl, I11, b11⟩; have q11 := (below_drew (Below.refl X.heap.size X)).trans b11; replace g0 := cell_at (RG.on q11).h 0 _ rfl; replace g1 := cell_at (RG.on q11).h 1 _ rfl; replace g2 := cell_at (KX.on q11).h 0 _ rfl; replace g3 := cell_at (KX.on q11).h 1 _ rfl; replace g4 := cell_at (Rb.on q11).h 0 _ rfl; replace g5 := cell_at (Rb.on q11).h 1 _ rfl
  go_wp2_with fail
  refine hK.out _ _ (Or.inr ⟨g0, g1, g2, g3, g4, g5⟩) ?_
  clear hK K
  try simp only [Act.put, aQ, bQ, cQ]
  refine wpAnyF_one (i := 5) (by kernel_rfl) rfl (fun K hK => ?_)
  go_simp
  go_at_call 90; refine (S2 _ _ _ _ _ (JG.on q11) _ _ _ _ I11).mono ?_; rintro e w12 ⟨s12, A12, c12, l12, rfl, I12, b12⟩; have q12 := q11.trans (b12.mono q11.size); replace g0 := cell_at (RG.on q12).h 0 _ rfl; replace g1 := cell_at (RG.on q12).h 1 _ rfl; replace g2 := cell_at (KX.on q12).h 0 _ rfl; replace g3 := cell_at (KX.on q12).h 1 _ rfl; replace g4 := cell_at (Rb.on q12).h 0 _ rfl; replace g5 := cell_at (Rb.on q12).h 1 _ rfl; have k0 := cell_at (KX.on q12).h 2 _ rfl; have k1 := cell_at (KX.on q12).h 3 _ rfl; obtain ⟨j0, j1, j2, j3⟩ := fZ4 (KX.on q12).h
  go_wp2_with fail
  refine hK.out _ _ (Or.inr ⟨g0, g1, g2, g3, g4, g5⟩) ?_
  clear hK K
  try simp only [Act.put, aQ, bQ, cQ]
  refine fT 6 6 (Value.pointer (some ⟨gc, 2, none⟩)) ⟨g0, g1, g2, g3, g4, g5⟩ ?_
  try simp only [Act.put, aQ, bQ, cQ]
  refine wpAnyF_one (i := 7) (by kernel_rfl) rfl (fun K hK => ?_)
  go_simp
  refine hK.out _ _ (Or.inl (by decide)) ?_
  clear hK K
  try simp only [Act.put, aQ, bQ, cQ]
  refine wpAnyF_done (by kernel_rfl) ?_ _
  obtain ⟨Y, hY, KY, NY, OY⟩ := storeC (u := s12) (B := A12) (m := l12.length) (d := c12) (KX.on q12) 2 (.inr rfl)
  rw [hY]
  rw [if_neg (by decide)] at KY
  have R0Y := OY.one (R0.on q12) (by omega)
  have JQ := (J7.on q12).nudge NY
  have JR := I12.nudge NY
  have oY : Off (fun k => k = gc) w Y := (oX.on q12).trans OY
  have U2 := U1 Y s7 A7 c7 l7 JQ
  have lwY : w.heap.size < Y.heap.size := blk_lt R0Y
  obtain ⟨v0, v1⟩ := cL2 KY.h
  clear g0 g1 g2 g3 g4 g5 k0 k1 j0 j1 j2 j3 hY U1 M3 S2 R0 RG Rb KX OX NY OY
  by_cases h0 : E.2.2 = 0
  all_goals
   go_wp2_with first
    | (go_at_call 83; refine U2.mono ?_; rintro e w9 ⟨o9, p9, p9'⟩; first | (obtain ⟨v, rfl, s9, A9, c9, l9, rfl, I9⟩ := p9 h0; rw [kd_ok h0]; clear v0 v1; obtain ⟨v0, v1, v2, v3, v4, v5⟩ := cL6 (R0Y.on o9.full).h; obtain ⟨t0, t1, t2, t3, t4, t5⟩ := fZ6 (R0Y.on o9.full).h) | (obtain rfl := p9' h0))
  · obtain ⟨Z, hZ, KZ, NZ, OZ⟩ := storeV (k' := 3) (p' := (E.2.1 : Int)) (s' := s9) (A' := A9) (n' := l9.length) (c' := c9) (S' := ⟨#[]⟩) (B' := none) (m' := 0) (d' := 0) (R0Y.on o9.full)
    rw [hZ]
    have b9 := o9.full
    have oZ : Off (fun k => k = gc) w Z := (oY.on b9).nudge NZ (Nat.le_refl _)
    exact ret_cellT rfl Tryz.underlying27 val_size rfl rfl KZ.h rfl ⟨⟨oZ, fun _ => ⟨_, rfl, s9, A9, c9, l9, by rw [kd_ok h0], I9.nudge NZ⟩, fun h => absurd h0 h⟩, s7, A7, c7, l7, s12, A12, c12, l12, OZ.one (KY.on b9) (by omega), fun _ => ⟨(JQ.on b9).nudge NZ, (JR.on b9).nudge NZ⟩⟩
  · have b9 := o9.full
    exact ⟨rfl, ⟨oY.on b9, fun h => absurd h h0, fun _ => rfl⟩, s7, A7, c7, l7, s12, A12, c12, l12, KY.on b9, fun h => absurd h h0⟩
end Dc
end Go.Proofs.YtjghnghceeijeaaGreatDoor
