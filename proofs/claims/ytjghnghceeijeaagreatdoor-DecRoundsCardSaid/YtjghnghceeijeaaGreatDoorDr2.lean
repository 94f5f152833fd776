/-
  Contracts of the walks below.
-/
import Derived.Test.YtjghnghceeijeaaGreatDoorDb28
import Derived.Test.YtjghnghceeijeaaGreatDoorDr1
set_option maxRecDepth 100000
set_option maxHeartbeats 4000000
set_option linter.unusedVariables false
set_option linter.unusedSimpArgs false
namespace Go.Proofs.YtjghnghceeijeaaGreatDoor
namespace Dc
open Go.RowKit Go.Shelf Go.BigFrame Go.Proofs.YtjghnghceeijeaaGreatDoor.Nm

end Dc
end Go.Proofs.YtjghnghceeijeaaGreatDoor
namespace Go.Proofs.YtjghnghceeijeaaGreatDoor
namespace Dc
theorem fix_eq (z : Int) {T : Int} (h : z < 0) : -(((z.natAbs : Int)) / T) = -((-z) / T) := by
 rw [show ((z.natAbs : Nat) : Int) = -z by omega]
end Dc
end Go.Proofs.YtjghnghceeijeaaGreatDoor
namespace Go.Proofs.YtjghnghceeijeaaGreatDoor
namespace Dc
open Go.RowKit Go.Shelf Go.BigFrame Go.Proofs.YtjghnghceeijeaaGreatDoor.Nm
attribute [local go_sem] Oper.semAt_some
def floorX (a : VA) : Int × Int := if a.ok = true then (a.z / 10 ^ a.q, 0) else (0, 2)
def fixX (a : VA) : Int × Int := if a.z < 0 then ceilX a else floorX a
set_option maxHeartbeats 64000000 in
theorem floor1_z (n1 n2 : Bool) (A1 A2 : Option Addr) (c1 c2 : Nat) (l1 l2 : List Nat) (z1 z2 : Int) (w : World) (I1 : IV w n1 A1 c1 l1 z1) (I2 : IV w n2 A2 c2 l2 z2) (f1 : Lz 40 z1) (f2 : Lz 3 z2) (h0 : 0 < z2) :
 Calls Tryz.prog 131 #[iv n1 A1 l1.length c1, iv n2 A2 l2.length c2] w (RetI (z1 / z2) w) := by
 obtain ⟨W, hW, hbW, K0, K1, K2, hszW⟩ := box3 w #[.bool n1, .slice A1 l1.length c1] 24 #[.bool n2, .slice A2 l2.length c2] 24 #[.bool false, .slice none 0 0] 24
 have J1 := I1.on hbW
 have J2 := I2.on hbW
 have hsp := split_z n1 n2 A1 A2 c1 c2 l1 l2 z1 z2 W J1 J2 (f1.mono (by decide)) (f2.mono (by decide)) h0
 obtain ⟨x0, x1⟩ := cL2 K0.h
 obtain ⟨y0, y1⟩ := cL2 K1.h
 generalize z1 / z2 = q at *
 generalize z1 % z2 = r at *
 replace hszW := Lib.hid hszW
 clear f1 f2 h0
 go_enter Tryz.func131, Tryz.ntmps131
 go_upto_region 2 with (go_at_call 130; refine hsp.mono ?_; rintro e w7 ⟨s7, A7, c7, l7, s8, A8, c8, l8, rfl, I7, I8, b7⟩)
 obtain ⟨W8, hW8, hbW8, R0, R1, hszW8⟩ := box2 w7 #[.bool s7, .slice A7 l7.length c7] 24 #[.bool s8, .slice A8 l8.length c8] 24
 rw [hW8]
 have b8 := b7.trans (hbW8.mono b7.size)
 have K8 := K2.on b8
 have hb8 := hbW.trans (b8.mono hbW.size)
 have J7 := I7.on hbW8
 clear x0 x1 y0 y1 hW8
 obtain ⟨u0, u1⟩ := cL2 R0.h
 obtain ⟨v0, v1⟩ := cL2 K8.h
 obtain ⟨e0, e1⟩ := fZ2 K8.h
 go_wp2_with fail
 exact ret_cell rfl rfl rfl (set_blk (set_blk K8.h 0 _) 1 _) (retI_end J7 K8 hb8 (by omega))
set_option maxHeartbeats 64000000 in
theorem fix1_z (n1 n2 : Bool) (A1 A2 : Option Addr) (c1 c2 : Nat) (l1 l2 : List Nat) (z1 z2 : Int) (w : World) (I1 : IV w n1 A1 c1 l1 z1) (I2 : IV w n2 A2 c2 l2 z2) (f1 : Lz 40 z1) (f2 : Lz 3 z2) (h0 : 0 < z2) :
 Calls Tryz.prog 129 #[iv n1 A1 l1.length c1, iv n2 A2 l2.length c2] w (RetI (if z1 < 0 then -((z1.natAbs : Int) / z2) else (z1.natAbs : Int) / z2) w) := by
 obtain ⟨W, hW, hbW, K0, K1, K2, hszW⟩ := box3 w #[.bool n1, .slice A1 l1.length c1] 24 #[.bool n2, .slice A2 l2.length c2] 24 #[.bool false, .slice none 0 0] 24
 have J1 := I1.on hbW
 have J2 := I2.on hbW
 have farg := f1.abs
 obtain ⟨R, hR⟩ : ∃ R, (if z1 < 0 then -((z1.natAbs : Int) / z2) else (z1.natAbs : Int) / z2) = R := ⟨_, rfl⟩
 rw [hR]
 have hR1 : z1 < 0 → R = -((z1.natAbs : Int) / z2) := fun h => by rw [← hR, if_pos h]
 have hR2 : ¬ z1 < 0 → R = (z1.natAbs : Int) / z2 := fun h => by rw [← hR, if_neg h]
 clear hR
 have hg := fun W' (h : Below W.heap.size W W') => size_z n1 A1 c1 l1 z1 W' (J1.on h) (f1.mono (by decide))
 have hsp := fun W' (h : Below W.heap.size W W') s A c l (I : IV W' s A c l ((z1.natAbs : Int))) => split_z s n2 A A2 c c2 l l2 ((z1.natAbs : Int)) z2 W' I (J2.on h) (farg.mono (by decide)) (f2.mono (by decide)) h0
 obtain ⟨x0, x1⟩ := cL2 K0.h
 obtain ⟨y0, y1⟩ := cL2 K1.h
 have fq : Lz 300 (((z1.natAbs : Int)) / z2) := (farg.le (Int.natAbs_ediv_le_natAbs _ _)).mono (by decide)
 generalize ((z1.natAbs : Int)) / z2 = q at *
 generalize ((z1.natAbs : Int)) % z2 = r at *
 replace fq := Lib.hid fq
 replace hR1 := Lib.hid hR1
 replace hR2 := Lib.hid hR2
 replace hszW := Lib.hid hszW
 have HS := Lib.hid I1.sgn
 clear f1 f2 h0 farg I1 I2
 go_enter Tryz.func129, Tryz.ntmps129
 go_upto_region 1 with fail
 clear hW
 go_cut [5] from 7 to 13 (fun pv wx => ∃ G s' A' c' l', pv = .pointer (some ⟨G, 0, none⟩) ∧ Blk wx G #[.bool s', .slice A' (List.length l') c'] 24 ∧ IV wx s' A' c' l' q ∧ Below W.heap.size W wx)
 case first =>
  go_region_held3 (fun w'' => w''.cell? ⟨w.heap.size, 0, none⟩ = some (.bool n1) ∧ w''.cell? ⟨w.heap.size, 1, none⟩ = some (.slice A1 l1.length c1) ∧ w''.cell? ⟨w.heap.size + 1, 0, none⟩ = some (.bool n2) ∧ w''.cell? ⟨w.heap.size + 1, 1, none⟩ = some (.slice A2 l2.length c2)) ((first | (with_reducible exact ⟨x0, x1, y0, y1⟩) | (refine keep22 K0 K1 ?_; (repeat' (with_reducible first | exact Below.refl _ _ | exact q6 | exact q7 | refine below_drew ?_ | refine below_al ?_ _ | refine below_set ?_ _ ?_)); (all_goals (first | exact q6.size | exact q7.size | exact Nat.le_refl _ | exact Nat.le_succ_of_le q7.size | exact Nat.le_succ_of_le q6.size | exact Nat.le_succ _)))))
   ((first
    | (go_at_call 130; have hmark := q6; refine (hsp _ (by (repeat' (with_reducible first | exact Below.refl _ _ | exact q6 | exact q7 | refine below_drew ?_ | refine below_al ?_ _ | refine below_set ?_ _ ?_))) _ _ _ _ (by (repeat' (with_reducible first | exact I6 | refine iv_up ?_)))).mono ?_; rintro e w7 ⟨s7, A7, c7, l7, s8, A8, c8, l8, rfl, I7, I8, b7⟩; have p7 : Below w6.heap.size w6 w7 := (by refine below_via ?_ b7; (repeat' (with_reducible first | exact Below.refl _ _ | refine below_al ?_ _))); have q7 := q6.trans (p7.mono q6.size); (try (replace Ta := Ta.on p7)); (try (replace Tb := Tb.on p7)); (first | (have Tab : Blk w7 w6.heap.size #[.bool false, .slice none 0 0] 24 ∧ Blk w7 (w6.heap.size + 1) #[.bool false, .slice none 0 0] 24 := (by with_reducible exact blk_al2 b7); obtain ⟨Ta, Tb⟩ := Tab) | (have Tb : Blk w7 w6.heap.size #[.bool false, .slice none 0 0] 24 := (by with_reducible exact blk_al1 b7)) | skip); (try (have na1 := Nat.ne_of_lt (blk_lt Ta); have na2 := Ne.symm na1)); (try (have nb1 := Nat.ne_of_lt (blk_lt Tb); have nb2 := Ne.symm nb1)); (try (have nc1 : W.heap.size ≠ w6.heap.size := Nat.ne_of_lt (Nat.lt_of_lt_of_le (Nat.lt_succ_self _) (by first | exact hlt6 | exact Nat.le_of_succ_le hlt6)); have nc2 := Ne.symm nc1)); (try (have ta0 := cell_at Ta.h 0 _ rfl; have ta1 := cell_at Ta.h 1 _ rfl; have ta2 := frozen_at Ta.h 0; have ta3 := frozen_at Ta.h 1; have ta4 := fun o => cell_at (Ta.on (al1 w7 o)).h 0 _ rfl; have ta5 := fun o => cell_at (Ta.on (al1 w7 o)).h 1 _ rfl; have ta6 := fun o => frozen_at (Ta.on (al1 w7 o)).h 0; have ta7 := fun o => frozen_at (Ta.on (al1 w7 o)).h 1)); (try (have tb0 := cell_at Tb.h 0 _ rfl; have tb1 := cell_at Tb.h 1 _ rfl; have tb2 := frozen_at Tb.h 0; have tb3 := frozen_at Tb.h 1; have tb4 := fun o => cell_at (Tb.on (al1 w7 o)).h 0 _ rfl; have tb5 := fun o => cell_at (Tb.on (al1 w7 o)).h 1 _ rfl; have tb6 := fun o => frozen_at (Tb.on (al1 w7 o)).h 0; have tb7 := fun o => frozen_at (Tb.on (al1 w7 o)).h 1)); clear x0 x1 y0 y1; have x0 : w7.cell? ⟨w.heap.size, 0, none⟩ = some (.bool n1) := cell_at (K0.on q7).h 0 _ rfl; have x1 : w7.cell? ⟨w.heap.size, 1, none⟩ = some (.slice A1 l1.length c1) := cell_at (K0.on q7).h 1 _ rfl; have y0 : w7.cell? ⟨w.heap.size + 1, 0, none⟩ = some (.bool n2) := cell_at (K1.on q7).h 0 _ rfl; have y1 : w7.cell? ⟨w.heap.size + 1, 1, none⟩ = some (.slice A2 l2.length c2) := cell_at (K1.on q7).h 1 _ rfl)
    | (go_at_call 101; refine (hg _ (by (repeat' (with_reducible first | exact Below.refl _ _ | exact q6 | exact q7 | refine below_drew ?_ | refine below_al ?_ _ | refine below_set ?_ _ ?_)))).mono ?_; rintro e w6 ⟨s6, A6, c6, l6, rfl, I6, b6⟩; (first | (have Tab : Blk w6 W.heap.size #[.bool false, .slice none 0 0] 24 ∧ Blk w6 (W.heap.size + 1) #[.bool false, .slice none 0 0] 24 := (by with_reducible exact blk_al2d b6); obtain ⟨Ta, Tb⟩ := Tab) | (have Ta : Blk w6 W.heap.size #[.bool false, .slice none 0 0] 24 := (by with_reducible exact blk_al1d b6)) | skip); (try (have hlt6 := blk_lt Ta)); have q6 : Below W.heap.size W w6 := (by refine below_via ?_ b6; (repeat' (with_reducible first | exact Below.refl _ _ | refine below_drew ?_ | refine below_al ?_ _))); clear x0 x1 y0 y1; have x0 : w6.cell? ⟨w.heap.size, 0, none⟩ = some (.bool n1) := cell_at (K0.on q6).h 0 _ rfl; have x1 : w6.cell? ⟨w.heap.size, 1, none⟩ = some (.slice A1 l1.length c1) := cell_at (K0.on q6).h 1 _ rfl; have y0 : w6.cell? ⟨w.heap.size + 1, 0, none⟩ = some (.bool n2) := cell_at (K1.on q6).h 0 _ rfl; have y1 : w6.cell? ⟨w.heap.size + 1, 1, none⟩ = some (.slice A2 l2.length c2) := cell_at (K1.on q6).h 1 _ rfl)))
  all_goals
   go_wp2_with fail
   go_meet
   refine ⟨_, s7, A7, c7, l7, rfl, ?_, ?_, ?_⟩
   all_goals (repeat' (with_reducible first | exact I7 | exact I8 | exact Tb | exact Ta | exact q7 | exact blk_new _ _ _ | exact blk_new2 _ _ _ _ | apply blk_drew | apply iv_drew | apply below_drew | apply blk_up | apply iv_up | apply below_al | apply blk_s1 | apply blk_s0 | (apply blk_ne (by first | assumption | omega)) | apply iv_set | apply below_set))
   all_goals (first | exact q6.size | exact q7.size | exact Nat.le_refl _ | exact Nat.le_succ_of_le q7.size | exact Nat.le_succ_of_le q6.size | exact Nat.le_succ _)
 case rest =>
  obtain ⟨G, s9, A9, c9, l9, rfl, KG, IG, bG⟩ := hcut
  have K8 := K2.on bG
  have hb8 := hbW.trans (bG.mono hbW.size)
  have ng := negative_z s9 A9 c9 l9 q wc IG fq.out
  obtain ⟨u0, u1⟩ := cL2 KG.h
  obtain ⟨v0, v1⟩ := cL2 K8.h
  obtain ⟨e0, e1⟩ := fZ2 K8.h
  have t0 := cell_at (K0.on bG).h 0 _ rfl
  cases n1
  · have e := hR2.out (fun h => by have := HS.out; rw [decide_eq_true h] at this; cases this)
    subst e
    clear hR1 hR2 ng
    go_wp2_with fail
    exact ret_cell rfl rfl rfl (set_blk (set_blk K8.h 0 _) 1 _) (retI_end IG K8 hb8 (by omega))
  · have e := hR1.out (of_decide_eq_true HS.out.symm)
    subst e
    clear hR1 hR2
    go_wp2_with (go_at_call 113; refine ng.mono ?_; rintro e w12 ⟨s12, A12, c12, l12, rfl, I12, b12⟩; obtain ⟨i0, i1⟩ := cL2 (K8.on b12).h; obtain ⟨j0, j1⟩ := fZ2 (K8.on b12).h)
    exact ret_cell rfl rfl rfl (set_blk (set_blk (K8.on b12).h 0 _) 1 _) (retI_end I12 (K8.on b12) (hb8.trans (b12.mono hb8.size)) (by omega))
theorem fix_open (a : VA) : fixX a = if a.ok = true then (if a.z < 0 then -((a.z.natAbs : Int) / 10 ^ a.q) else (a.z.natAbs : Int) / 10 ^ a.q, 0) else (0, 2) := by
 unfold fixX ceilX floorX
 by_cases h : a.z < 0
 · rw [if_pos h, if_pos h, fix_eq a.z h]
 · rw [if_neg h, if_neg h, show ((a.z.natAbs : Nat) : Int) = a.z by omega]
theorem bare_floorX (a : VA) : (floorX a).2 ≠ 0 → (floorX a).1 = 0 := by
 unfold floorX
 split
 · exact fun h => absurd rfl h
 · exact fun _ => rfl
theorem bare_fixX (a : VA) : (fixX a).2 ≠ 0 → (fixX a).1 = 0 := by
 unfold fixX
 split
 · exact bare_ceilX a
 · exact bare_floorX a
theorem whole1_fix (n1 : Bool) (A1 : Option Addr) (c1 : Nat) (l1 : List Nat) (z1 : Int) (p : Nat) (B1 : Option Addr) (d1 ga gf gn : Nat) (w : World) (Ka : Blk w ga #[.int .i64 3, .int .i64 (p : Int), .bool n1, .slice A1 l1.length c1, .string ⟨#[]⟩, .slice B1 0 d1] 27) (Kf : Blk w gf #[Value.func (.func 129) #[] #[]] 55) (Kn : Blk w gn #[.bool false, .slice none 0 0] 24) (n1' : gn ≠ ga) (n2' : gn ≠ gf) (I1 : IV w n1 A1 c1 l1 z1) (D1 : IsD z1 p) :
 Calls Tryz.prog 197 #[.pointer (some ⟨ga, 0, none⟩), .pointer (some ⟨gf, 0, none⟩), .pointer (some ⟨gn, 0, none⟩)] w (PostW gn (if z1 < 0 then -((z1.natAbs : Int) / 10 ^ p) else (z1.natAbs : Int) / 10 ^ p, 0) w) := by
 have ha : (VA.mk 3 (p : Int) n1 A1 c1 l1 ⟨#[]⟩ B1 0 d1).At w := ⟨I1.rd, I1.cap⟩
 have hdc := decimals_c w.heap.size [(VA.mk 3 (p : Int) n1 A1 c1 l1 ⟨#[]⟩ B1 0 d1)] (w.alloc (.cells #[.int .i64 3, .int .i64 (p : Int), .bool n1, .slice A1 l1.length c1, .string ⟨#[]⟩, .slice B1 0 d1] 27)) (by simp) (vals_one (VA.mk 3 (p : Int) n1 A1 c1 l1 ⟨#[]⟩ B1 0 d1) _ _ ⟨World.alloc_heap_new w _⟩ (ha.on (al1 w _))) (by simp)
 rw [decE_one, VA.ok_made I1.isZ D1, if_pos rfl] at hdc
 have a1 := al1 w (.cells #[.int .i64 3, .int .i64 (p : Int), .bool n1, .slice A1 l1.length c1, .string ⟨#[]⟩, .slice B1 0 d1] 27)
 have hp21 : p < 21 := by have := D1.hi; omega
 have T1 := fun W' g (hP : Pows W' g) => powers1_z g p hp21 W' hP
 have C1 := fun W' (h : Below w.heap.size w W') s A c l (I : IV W' s A c l (10 ^ p)) => fix1_z n1 s A1 A c1 c l1 l z1 (10 ^ p) W' (I1.on h) I D1.lz (lz_ten p (by omega)) (ten_pos p)
 obtain ⟨R, hR⟩ : ∃ R, (if z1 < 0 then -((z1.natAbs : Int) / 10 ^ p) else (z1.natAbs : Int) / 10 ^ p) = R := ⟨_, rfl⟩
 rw [hR] at C1 ⊢
 clear hR
 generalize (10 : Int) ^ p = tp at *
 obtain ⟨x0, x1, x2, x3, x4, x5⟩ := cL6 Ka.h
 clear D1 ha hp21
 go_enter Tryz.func197, Tryz.ntmps197
 go_upto_region 1 with (go_at_call 77; refine hdc.mono ?_; rintro e w5 ⟨hw, b5⟩; obtain rfl := hw.1 rfl; have q5 := a1.trans (b5.mono a1.size))
 have r0 := cell_at (Ka.on q5).h 1 _ rfl
 have r1 := cell_at (Ka.on q5).h 2 _ rfl
 have r2 := cell_at (Ka.on q5).h 3 _ rfl
 have r3 := cell_at (Kf.on q5).h 0 _ rfl
 clear x0 x1 x2 x3 x4 x5 hdc a1
 refine wp_region_any (by kernel_rfl) ?_
 refine pT 1 (Value.pointer (some ⟨ga, 2, none⟩)) ?_
 try simp only [Act.put, aQ, bQ, cQ]
 refine pT 4 (Value.pointer (some ⟨ga, 1, none⟩)) ?_
 try simp only [Act.put, aQ, bQ, cQ]
 refine wpAny_of_F (S := fun w'' => w''.cell? ⟨ga, 1, none⟩ = some (.int .i64 (p : Int)) ∧ w''.cell? ⟨ga, 2, none⟩ = some (.bool n1) ∧ w''.cell? ⟨ga, 3, none⟩ = some (.slice A1 l1.length c1) ∧ w''.cell? ⟨gf, 0, none⟩ = some (Value.func (Fn.func 129) #[] #[])) (late := [8]) _ _ _ _ ?_
 refine fT 0 6 (Value.func (Fn.func 129) #[] #[]) ⟨r0, r1, r2, r3⟩ ?_
 try simp only [Act.put, aQ, bQ, cQ]
 refine fT 2 6 (Value.agg #[.bool n1, .slice A1 l1.length c1]) ⟨r0, r1, r2, r3⟩ ?_
 try simp only [Act.put, aQ, bQ, cQ]
 refine fT 5 6 (Value.int .i64 (p : Int)) ⟨r0, r1, r2, r3⟩ ?_
 try simp only [Act.put, aQ, bQ, cQ]
 refine wpAnyF_one (i := 3) (by kernel_rfl) rfl (fun K hK => ?_)
 go_simp
 go_at_call 80; refine (powers_z _).mono ?_; rintro e w10 ⟨g, rfl, P10, b10, hg10⟩; have q10 := (q5.trans (below_drew (Below.refl _ w5))).trans (b10.mono q5.size); replace r0 := cell_at (Ka.on q10).h 1 _ rfl; replace r1 := cell_at (Ka.on q10).h 2 _ rfl; replace r2 := cell_at (Ka.on q10).h 3 _ rfl; replace r3 := cell_at (Kf.on q10).h 0 _ rfl
 go_wp2_with fail
 refine hK.out _ _ (Or.inr ⟨r0, r1, r2, r3⟩) ?_
 clear hK K
 try simp only [Act.put, aQ, bQ, cQ]
 refine wpAnyF_one (i := 6) (by kernel_rfl) rfl (fun K hK => ?_)
 go_simp
 go_at_call 150; refine (T1 _ g P10).mono ?_; rintro e w11 ⟨s11, A11, c11, l11, rfl, I11, b11⟩; have q11 := q10.trans (b11.mono q10.size); replace r0 := cell_at (Ka.on q11).h 1 _ rfl; replace r1 := cell_at (Ka.on q11).h 2 _ rfl; replace r2 := cell_at (Ka.on q11).h 3 _ rfl; replace r3 := cell_at (Kf.on q11).h 0 _ rfl
 go_wp2_with fail
 refine hK.out _ _ (Or.inr ⟨r0, r1, r2, r3⟩) ?_
 clear hK K
 try simp only [Act.put, aQ, bQ, cQ]
 refine wpAnyF_one (i := 7) (by kernel_rfl) rfl (fun K hK => ?_)
 go_simp
 go_at_call 129; refine (C1 _ q11 _ _ _ _ I11).mono ?_; rintro e w12 ⟨s12, A12, c12, l12, rfl, I12, b12⟩; have q12 := q11.trans (b12.mono q11.size); replace r0 := cell_at (Ka.on q12).h 1 _ rfl; replace r1 := cell_at (Ka.on q12).h 2 _ rfl; replace r2 := cell_at (Ka.on q12).h 3 _ rfl; replace r3 := cell_at (Kf.on q12).h 0 _ rfl; have K12 := Kn.on q12; obtain ⟨i0, i1⟩ := cL2 K12.h; obtain ⟨j0, j1⟩ := fZ2 K12.h
 go_wp2_with fail
 refine hK.out _ _ (Or.inr ⟨r0, r1, r2, r3⟩) ?_
 clear hK K
 try simp only [Act.put, aQ, bQ, cQ]
 refine wpAnyF_one (i := 8) (by kernel_rfl) rfl (fun K hK => ?_)
 go_simp
 refine hK.out _ _ (Or.inl (by decide)) ?_
 clear hK K
 try simp only [Act.put, aQ, bQ, cQ]
 refine wpAnyF_done (by kernel_rfl) ?_ _
 obtain ⟨X, hX, KX, NX, OX⟩ := storeI (s' := s12) (A' := A12) (n' := l12.length) (c' := c12) K12
 rw [hX]
 clear r0 r1 r2 r3 i0 i1 j0 j1
 go_wp2_with fail
 go_end0
 exact ⟨⟨fun _ => rfl, fun h => absurd rfl h⟩, (Off.of_below q12).trans OX, fun _ => ⟨s12, A12, c12, l12, KX, I12.nudge NX⟩, fun h => absurd rfl h⟩
theorem whole1_fix_all (a : VA) (ga gf gn : Nat) (w : World) (Ka : Blk w ga #[.int .i64 a.k, .int .i64 a.p, .bool a.s, .slice a.A a.l.length a.c, .string a.S, .slice a.B a.m a.d] 27) (Kf : Blk w gf #[Value.func (.func 129) #[] #[]] 55) (Kn : Blk w gn #[.bool false, .slice none 0 0] 24) (n1' : gn ≠ ga) (n2' : gn ≠ gf) (ha : a.At w) :
 Calls Tryz.prog 197 #[.pointer (some ⟨ga, 0, none⟩), .pointer (some ⟨gf, 0, none⟩), .pointer (some ⟨gn, 0, none⟩)] w (PostW gn (fixX a) w) := by
 have hX : fixX a = if a.ok = true then (if a.z < 0 then -((a.z.natAbs : Int) / 10 ^ a.q) else (a.z.natAbs : Int) / 10 ^ a.q, 0) else (0, 2) := fix_open a
 rw [hX]
 cases hok : a.ok
 · exact whole1_no a ga gf gn w Ka Kn ha hok
 · rw [if_pos rfl]
   obtain ⟨p, s1, A1, c1, l1, B1, d1, e1, i1, D1, -, q1⟩ := VA.destruct ha.rd.words hok
   rw [q1]
   generalize a.z = za at *
   subst e1
   exact whole1_fix s1 A1 c1 l1 za p B1 d1 ga gf gn w Ka Kf Kn n1' n2' ⟨ha.rd, ha.cap, i1⟩ D1
theorem whole_fix (a : VA) (w : World) (ha : a.At w) :
 Calls Tryz.prog 128 #[a.val, Value.func (.func 129) #[] #[]] w (RetIE (fixX a) w) := by
 have hmf := mkf
 obtain ⟨W, hW, hbW, K0, K1, K2, hszW⟩ := box3 w #[.int .i64 a.k, .int .i64 a.p, .bool a.s, .slice a.A a.l.length a.c, .string a.S, .slice a.B a.m a.d] 27 #[Value.func (.func 129) #[] #[]] 55 #[.bool false, .slice none 0 0] 24
 have hal : Below W.heap.size W (W.alloc (.cells #[.int .i64 0] 30)) := al1 W _
 have lw := hszW
 have hx0 : (fixX a).2 ≠ 0 → (fixX a).1 = 0 := bare_fixX a
 have hv := guard_calls 197 #[.pointer (some ⟨w.heap.size, 0, none⟩), .pointer (some ⟨w.heap.size + 1, 0, none⟩), .pointer (some ⟨w.heap.size + 1 + 1, 0, none⟩)] (enters_of Tryz.func197 (by kernel_rfl) rfl) W (fixX a).2
  (fun w' => Off (fun k => k = w.heap.size + 1 + 1) w w' ∧ ∃ s A c l, Blk w' (w.heap.size + 1 + 1) #[.bool s, .slice A (List.length l) c] 24 ∧ IV w' s A c l (fixX a).1)
  ((whole1_fix_all a _ _ _ _ (K0.on hal) (K1.on hal) (K2.on hal) (by omega) (by omega) ((ha.on hbW).on hal)).mono (by
   rintro e w' ⟨h1, h2, h3, h4⟩
   have hle := h2.size
   rw [World.size_alloc] at hle
   refine ⟨h1, h2.blk (by omega) ⟨World.alloc_heap_new W _⟩, by omega, (Off.of_below (hbW.trans (hal.mono hbW.size))).trans h2, ?_⟩
   by_cases h0 : (fixX a).2 = 0
   · exact h3 h0
   · exact ⟨false, none, 0, [], h4 h0, by rw [hx0 h0]; exact IV.zero w'⟩))
 obtain ⟨x, hx⟩ : ∃ x, fixX a = x := ⟨_, rfl⟩
 rw [hx] at hv ⊢
 obtain ⟨z, er⟩ := x
 dsimp only at hv
 clear hx hx0
 replace hszW := Lib.hid hszW
 replace lw := Lib.hid lw
 go_enter Tryz.func128, Tryz.ntmps128
 go_wp2_with (go_at_call 98; refine hv.mono ?_; rintro e w5 ⟨rfl, w4, ⟨o4, s5, A5, c5, l5, K4, I4⟩, n5⟩; have K5 : Blk w5 (w.heap.size + 1 + 1) #[.bool s5, .slice A5 l5.length c5] 24 := ⟨(n5.low.block _ (by have := lw.out; omega)).trans K4.h⟩; obtain ⟨u0, u1⟩ := cL2 K5.h; obtain ⟨f0, f1⟩ := fZ2 K5.h)
 obtain ⟨X, hX, KX, NX, OX⟩ := storeI (s' := s5) (A' := A5) (n' := l5.length) (c' := c5) K5
 rw [hX]
 have hb4 : Below w.heap.size w w4 := o4.below (Nat.le_refl _) (by rintro k rfl; omega)
 exact ret_cell_tmp rfl rfl rfl KX.h ⟨s5, A5, c5, l5, rfl, (I4.nudge n5).nudge NX, (hb4.trans (n5.low.mono (by have := lw.out; omega))).trans (NX.low.mono (by omega))⟩
theorem DFix_calls (a : VA) (w : World) (ha : a.At w) : Calls Tryz.prog 50 #[a.val] w (RetIE (fixX a) w) := by
 obtain ⟨W, hW, hbW, K0, K1, hszW⟩ := box2 w #[.int .i64 a.k, .int .i64 a.p, .bool a.s, .slice a.A a.l.length a.c, .string a.S, .slice a.B a.m a.d] 27 #[.bool false, .slice none 0 0] 24
 obtain ⟨x0, x1, x2, x3, x4, x5⟩ := cL6 K0.h
 have hv := whole_fix a W (ha.on hbW)
 obtain ⟨x, hx⟩ : ∃ x, fixX a = x := ⟨_, rfl⟩
 rw [hx] at hv ⊢
 obtain ⟨z, er⟩ := x
 clear hx
 replace hszW := Lib.hid hszW
 go_enter Tryz.func50, Tryz.ntmps50
 go_wp2_with (go_at_call 128; refine hv.mono ?_; rintro e w5 ⟨s5, A5, c5, l5, rfl, I5, b5⟩; have K5 := K1.on b5; obtain ⟨u0, u1⟩ := cL2 K5.h; obtain ⟨f0, f1⟩ := fZ2 K5.h)
 obtain ⟨X, hX, KX, NX, OX⟩ := storeI (s' := s5) (A' := A5) (n' := l5.length) (c' := c5) K5
 rw [hX]
 exact ret_cell_tmp rfl rfl rfl KX.h ⟨s5, A5, c5, l5, rfl, I5.nudge NX, (hbW.trans (b5.mono hbW.size)).trans (NX.low.mono (by omega))⟩
theorem whole1_floor (n1 : Bool) (A1 : Option Addr) (c1 : Nat) (l1 : List Nat) (z1 : Int) (p : Nat) (B1 : Option Addr) (d1 ga gf gn : Nat) (w : World) (Ka : Blk w ga #[.int .i64 3, .int .i64 (p : Int), .bool n1, .slice A1 l1.length c1, .string ⟨#[]⟩, .slice B1 0 d1] 27) (Kf : Blk w gf #[Value.func (.func 131) #[] #[]] 55) (Kn : Blk w gn #[.bool false, .slice none 0 0] 24) (n1' : gn ≠ ga) (n2' : gn ≠ gf) (I1 : IV w n1 A1 c1 l1 z1) (D1 : IsD z1 p) :
 Calls Tryz.prog 197 #[.pointer (some ⟨ga, 0, none⟩), .pointer (some ⟨gf, 0, none⟩), .pointer (some ⟨gn, 0, none⟩)] w (PostW gn (z1 / 10 ^ p, 0) w) := by
 have ha : (VA.mk 3 (p : Int) n1 A1 c1 l1 ⟨#[]⟩ B1 0 d1).At w := ⟨I1.rd, I1.cap⟩
 have hdc := decimals_c w.heap.size [(VA.mk 3 (p : Int) n1 A1 c1 l1 ⟨#[]⟩ B1 0 d1)] (w.alloc (.cells #[.int .i64 3, .int .i64 (p : Int), .bool n1, .slice A1 l1.length c1, .string ⟨#[]⟩, .slice B1 0 d1] 27)) (by simp) (vals_one (VA.mk 3 (p : Int) n1 A1 c1 l1 ⟨#[]⟩ B1 0 d1) _ _ ⟨World.alloc_heap_new w _⟩ (ha.on (al1 w _))) (by simp)
 rw [decE_one, VA.ok_made I1.isZ D1, if_pos rfl] at hdc
 have a1 := al1 w (.cells #[.int .i64 3, .int .i64 (p : Int), .bool n1, .slice A1 l1.length c1, .string ⟨#[]⟩, .slice B1 0 d1] 27)
 have hp21 : p < 21 := by have := D1.hi; omega
 have T1 := fun W' g (hP : Pows W' g) => powers1_z g p hp21 W' hP
 have C1 := fun W' (h : Below w.heap.size w W') s A c l (I : IV W' s A c l (10 ^ p)) => floor1_z n1 s A1 A c1 c l1 l z1 (10 ^ p) W' (I1.on h) I D1.lz (lz_ten p (by omega)) (ten_pos p)
 obtain ⟨R, hR⟩ : ∃ R, (z1 / 10 ^ p) = R := ⟨_, rfl⟩
 rw [hR] at C1 ⊢
 clear hR
 generalize (10 : Int) ^ p = tp at *
 obtain ⟨x0, x1, x2, x3, x4, x5⟩ := cL6 Ka.h
 clear D1 ha hp21
 go_enter Tryz.func197, Tryz.ntmps197
 go_upto_region 1 with (go_at_call 77; refine hdc.mono ?_; rintro e w5 ⟨hw, b5⟩; obtain rfl := hw.1 rfl; have q5 := a1.trans (b5.mono a1.size))
 have r0 := cell_at (Ka.on q5).h 1 _ rfl
 have r1 := cell_at (Ka.on q5).h 2 _ rfl
 have r2 := cell_at (Ka.on q5).h 3 _ rfl
 have r3 := cell_at (Kf.on q5).h 0 _ rfl
 clear x0 x1 x2 x3 x4 x5 hdc a1
 refine wp_region_any (by kernel_rfl) ?_
 refine pT 1 (Value.pointer (some ⟨ga, 2, none⟩)) ?_
 try simp only [Act.put, aQ, bQ, cQ]
 refine pT 4 (Value.pointer (some ⟨ga, 1, none⟩)) ?_
 try simp only [Act.put, aQ, bQ, cQ]
 refine wpAny_of_F (S := fun w'' => w''.cell? ⟨ga, 1, none⟩ = some (.int .i64 (p : Int)) ∧ w''.cell? ⟨ga, 2, none⟩ = some (.bool n1) ∧ w''.cell? ⟨ga, 3, none⟩ = some (.slice A1 l1.length c1) ∧ w''.cell? ⟨gf, 0, none⟩ = some (Value.func (Fn.func 131) #[] #[])) (late := [8]) _ _ _ _ ?_
 refine fT 0 6 (Value.func (Fn.func 131) #[] #[]) ⟨r0, r1, r2, r3⟩ ?_
 try simp only [Act.put, aQ, bQ, cQ]
 refine fT 2 6 (Value.agg #[.bool n1, .slice A1 l1.length c1]) ⟨r0, r1, r2, r3⟩ ?_
 try simp only [Act.put, aQ, bQ, cQ]
 refine fT 5 6 (Value.int .i64 (p : Int)) ⟨r0, r1, r2, r3⟩ ?_
 try simp only [Act.put, aQ, bQ, cQ]
 refine wpAnyF_one (i := 3) (by kernel_rfl) rfl (fun K hK => ?_)
 go_simp
 go_at_call 80; refine (powers_z _).mono ?_; rintro e w10 ⟨g, rfl, P10, b10, hg10⟩; have q10 := (q5.trans (below_drew (Below.refl _ w5))).trans (b10.mono q5.size); replace r0 := cell_at (Ka.on q10).h 1 _ rfl; replace r1 := cell_at (Ka.on q10).h 2 _ rfl; replace r2 := cell_at (Ka.on q10).h 3 _ rfl; replace r3 := cell_at (Kf.on q10).h 0 _ rfl
 go_wp2_with fail
 refine hK.out _ _ (Or.inr ⟨r0, r1, r2, r3⟩) ?_
 clear hK K
 try simp only [Act.put, aQ, bQ, cQ]
 refine wpAnyF_one (i := 6) (by kernel_rfl) rfl (fun K hK => ?_)
 go_simp
 go_at_call 150; refine (T1 _ g P10).mono ?_; rintro e w11 ⟨s11, A11, c11, l11, rfl, I11, b11⟩; have q11 := q10.trans (b11.mono q10.size); replace r0 := cell_at (Ka.on q11).h 1 _ rfl; replace r1 := cell_at (Ka.on q11).h 2 _ rfl; replace r2 := cell_at (Ka.on q11).h 3 _ rfl; replace r3 := cell_at (Kf.on q11).h 0 _ rfl
 go_wp2_with fail
 refine hK.out _ _ (Or.inr ⟨r0, r1, r2, r3⟩) ?_
 clear hK K
 try simp only [Act.put, aQ, bQ, cQ]
 refine wpAnyF_one (i := 7) (by kernel_rfl) rfl (fun K hK => ?_)
 go_simp
 go_at_call 131; refine (C1 _ q11 _ _ _ _ I11).mono ?_; rintro e w12 ⟨s12, A12, c12, l12, rfl, I12, b12⟩; have q12 := q11.trans (b12.mono q11.size); replace r0 := cell_at (Ka.on q12).h 1 _ rfl; replace r1 := cell_at (Ka.on q12).h 2 _ rfl; replace r2 := cell_at (Ka.on q12).h 3 _ rfl; replace r3 := cell_at (Kf.on q12).h 0 _ rfl; have K12 := Kn.on q12; obtain ⟨i0, i1⟩ := cL2 K12.h; obtain ⟨j0, j1⟩ := fZ2 K12.h
 go_wp2_with fail
 refine hK.out _ _ (Or.inr ⟨r0, r1, r2, r3⟩) ?_
 clear hK K
 try simp only [Act.put, aQ, bQ, cQ]
 refine wpAnyF_one (i := 8) (by kernel_rfl) rfl (fun K hK => ?_)
 go_simp
 refine hK.out _ _ (Or.inl (by decide)) ?_
 clear hK K
 try simp only [Act.put, aQ, bQ, cQ]
 refine wpAnyF_done (by kernel_rfl) ?_ _
 obtain ⟨X, hX, KX, NX, OX⟩ := storeI (s' := s12) (A' := A12) (n' := l12.length) (c' := c12) K12
 rw [hX]
 clear r0 r1 r2 r3 i0 i1 j0 j1
 go_wp2_with fail
 go_end0
 exact ⟨⟨fun _ => rfl, fun h => absurd rfl h⟩, (Off.of_below q12).trans OX, fun _ => ⟨s12, A12, c12, l12, KX, I12.nudge NX⟩, fun h => absurd rfl h⟩
theorem whole1_floor_all (a : VA) (ga gf gn : Nat) (w : World) (Ka : Blk w ga #[.int .i64 a.k, .int .i64 a.p, .bool a.s, .slice a.A a.l.length a.c, .string a.S, .slice a.B a.m a.d] 27) (Kf : Blk w gf #[Value.func (.func 131) #[] #[]] 55) (Kn : Blk w gn #[.bool false, .slice none 0 0] 24) (n1' : gn ≠ ga) (n2' : gn ≠ gf) (ha : a.At w) :
 Calls Tryz.prog 197 #[.pointer (some ⟨ga, 0, none⟩), .pointer (some ⟨gf, 0, none⟩), .pointer (some ⟨gn, 0, none⟩)] w (PostW gn (floorX a) w) := by
 have hX : floorX a = if a.ok = true then (a.z / 10 ^ a.q, 0) else (0, 2) := rfl
 rw [hX]
 cases hok : a.ok
 · exact whole1_no a ga gf gn w Ka Kn ha hok
 · rw [if_pos rfl]
   obtain ⟨p, s1, A1, c1, l1, B1, d1, e1, i1, D1, -, q1⟩ := VA.destruct ha.rd.words hok
   rw [q1]
   generalize a.z = za at *
   subst e1
   exact whole1_floor s1 A1 c1 l1 za p B1 d1 ga gf gn w Ka Kf Kn n1' n2' ⟨ha.rd, ha.cap, i1⟩ D1
theorem whole_floor (a : VA) (w : World) (ha : a.At w) :
 Calls Tryz.prog 128 #[a.val, Value.func (.func 131) #[] #[]] w (RetIE (floorX a) w) := by
 have hmf := mkf
 obtain ⟨W, hW, hbW, K0, K1, K2, hszW⟩ := box3 w #[.int .i64 a.k, .int .i64 a.p, .bool a.s, .slice a.A a.l.length a.c, .string a.S, .slice a.B a.m a.d] 27 #[Value.func (.func 131) #[] #[]] 55 #[.bool false, .slice none 0 0] 24
 have hal : Below W.heap.size W (W.alloc (.cells #[.int .i64 0] 30)) := al1 W _
 have lw := hszW
 have hx0 : (floorX a).2 ≠ 0 → (floorX a).1 = 0 := bare_floorX a
 have hv := guard_calls 197 #[.pointer (some ⟨w.heap.size, 0, none⟩), .pointer (some ⟨w.heap.size + 1, 0, none⟩), .pointer (some ⟨w.heap.size + 1 + 1, 0, none⟩)] (enters_of Tryz.func197 (by kernel_rfl) rfl) W (floorX a).2
  (fun w' => Off (fun k => k = w.heap.size + 1 + 1) w w' ∧ ∃ s A c l, Blk w' (w.heap.size + 1 + 1) #[.bool s, .slice A (List.length l) c] 24 ∧ IV w' s A c l (floorX a).1)
  ((whole1_floor_all a _ _ _ _ (K0.on hal) (K1.on hal) (K2.on hal) (by omega) (by omega) ((ha.on hbW).on hal)).mono (by
   rintro e w' ⟨h1, h2, h3, h4⟩
   have hle := h2.size
   rw [World.size_alloc] at hle
   refine ⟨h1, h2.blk (by omega) ⟨World.alloc_heap_new W _⟩, by omega, (Off.of_below (hbW.trans (hal.mono hbW.size))).trans h2, ?_⟩
   by_cases h0 : (floorX a).2 = 0
   · exact h3 h0
   · exact ⟨false, none, 0, [], h4 h0, by rw [hx0 h0]; exact IV.zero w'⟩))
 obtain ⟨x, hx⟩ : ∃ x, floorX a = x := ⟨_, rfl⟩
 rw [hx] at hv ⊢
 obtain ⟨z, er⟩ := x
 dsimp only at hv
 clear hx hx0
 replace hszW := Lib.hid hszW
 replace lw := Lib.hid lw
 go_enter Tryz.func128, Tryz.ntmps128
 go_wp2_with (go_at_call 98; refine hv.mono ?_; rintro e w5 ⟨rfl, w4, ⟨o4, s5, A5, c5, l5, K4, I4⟩, n5⟩; have K5 : Blk w5 (w.heap.size + 1 + 1) #[.bool s5, .slice A5 l5.length c5] 24 := ⟨(n5.low.block _ (by have := lw.out; omega)).trans K4.h⟩; obtain ⟨u0, u1⟩ := cL2 K5.h; obtain ⟨f0, f1⟩ := fZ2 K5.h)
 obtain ⟨X, hX, KX, NX, OX⟩ := storeI (s' := s5) (A' := A5) (n' := l5.length) (c' := c5) K5
 rw [hX]
 have hb4 : Below w.heap.size w w4 := o4.below (Nat.le_refl _) (by rintro k rfl; omega)
 exact ret_cell_tmp rfl rfl rfl KX.h ⟨s5, A5, c5, l5, rfl, (I4.nudge n5).nudge NX, (hb4.trans (n5.low.mono (by have := lw.out; omega))).trans (NX.low.mono (by omega))⟩
theorem DFloor_calls (a : VA) (w : World) (ha : a.At w) : Calls Tryz.prog 51 #[a.val] w (RetIE (floorX a) w) := by
 obtain ⟨W, hW, hbW, K0, K1, hszW⟩ := box2 w #[.int .i64 a.k, .int .i64 a.p, .bool a.s, .slice a.A a.l.length a.c, .string a.S, .slice a.B a.m a.d] 27 #[.bool false, .slice none 0 0] 24
 obtain ⟨x0, x1, x2, x3, x4, x5⟩ := cL6 K0.h
 have hv := whole_floor a W (ha.on hbW)
 obtain ⟨x, hx⟩ : ∃ x, floorX a = x := ⟨_, rfl⟩
 rw [hx] at hv ⊢
 obtain ⟨z, er⟩ := x
 clear hx
 replace hszW := Lib.hid hszW
 go_enter Tryz.func51, Tryz.ntmps51
 go_wp2_with (go_at_call 128; refine hv.mono ?_; rintro e w5 ⟨s5, A5, c5, l5, rfl, I5, b5⟩; have K5 := K1.on b5; obtain ⟨u0, u1⟩ := cL2 K5.h; obtain ⟨f0, f1⟩ := fZ2 K5.h)
 obtain ⟨X, hX, KX, NX, OX⟩ := storeI (s' := s5) (A' := A5) (n' := l5.length) (c' := c5) K5
 rw [hX]
 exact ret_cell_tmp rfl rfl rfl KX.h ⟨s5, A5, c5, l5, rfl, I5.nudge NX, (hbW.trans (b5.mono hbW.size)).trans (NX.low.mono (by omega))⟩
theorem rsum_i (n1 n2 : Bool) (A1 A2 : Option Addr) (c1 c2 : Nat) (l1 l2 : List Nat) (z1 z2 : Int) (w : World) (I1 : IV w n1 A1 c1 l1 z1) (I2 : IV w n2 A2 c2 l2 z2) {k j : Nat} (f1 : Lz k z1) (f2 : Lz j z2) (hk : k ≤ 60000) (hj : j ≤ 60000) :
 Calls Tryz.prog 46 #[iv n1 A1 l1.length c1, iv n2 A2 l2.length c2] w (RetI (z1 + z2) w) :=
 (Sum_calls n1 n2 A1 A2 c1 c2 l1 l2 z1 z2 w I1.rd I2.rd I1.cap I2.cap I1.isZ I2.isZ (Nat.le_trans (I1.small f1 hk) (by decide)) (Nat.le_trans (I2.small f2 hj) (by decide))).mono fun _ _ h => .of h
theorem rminus_i (n1 : Bool) (A1 : Option Addr) (c1 : Nat) (l1 : List Nat) (z1 : Int) (w : World) (I1 : IV w n1 A1 c1 l1 z1) : Calls Tryz.prog 37 #[iv n1 A1 l1.length c1] w (RetI (-z1) w) := (Minus_calls n1 A1 c1 l1 z1 w I1.rd I1.cap I1.isZ).mono fun _ _ h => .of h
theorem rcmp_i (n1 n2 : Bool) (A1 A2 : Option Addr) (c1 c2 : Nat) (l1 l2 : List Nat) (z1 z2 : Int) (w : World) (I1 : IV w n1 A1 c1 l1 z1) (I2 : IV w n2 A2 c2 l2 z2) : Calls Tryz.prog 47 #[iv n1 A1 l1.length c1, iv n2 A2 l2.length c2] w fun e w' => e = .returned (.int .i64 (cmpZ z1 z2)) ∧ Below w.heap.size w w' := RCompare_calls n1 n2 A1 A2 c1 c2 l1 l2 z1 z2 w I1.rd I2.rd I1.cap I2.cap I1.isZ I2.isZ
end Dc
end Go.Proofs.YtjghnghceeijeaaGreatDoor
