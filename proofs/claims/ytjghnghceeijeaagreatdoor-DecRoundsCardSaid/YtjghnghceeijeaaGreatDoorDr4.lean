/-
  Contracts of the walks below.
-/
import Derived.Test.YtjghnghceeijeaaGreatDoorDb32
import Derived.Test.YtjghnghceeijeaaGreatDoorDr3
set_option maxRecDepth 100000
set_option maxHeartbeats 4000000
set_option linter.unusedVariables false
set_option linter.unusedSimpArgs false
namespace Go.Proofs.YtjghnghceeijeaaGreatDoor
namespace Dc
open Go.RowKit Go.Shelf Go.BigFrame Go.Proofs.YtjghnghceeijeaaGreatDoor.Nm
attribute [local go_sem] Oper.semAt_some
theorem RFloor_no (a : VA) (w : World) (ha : a.At w) (hno : a.ok = false) :
 Calls Tryz.prog 56 #[a.val] w (RetWh (0, 2) w) := by
 obtain ⟨W, hW, hbW, K0, K1, hszW⟩ := box2 w #[.int .i64 a.k, .int .i64 a.p, .bool a.s, .slice a.A a.l.length a.c, .string a.S, .slice a.B a.m a.d] 27 #[.bool false, .slice none 0 0, .int .i64 0] 68
 obtain ⟨x0, x1, x2, x3, x4, x5⟩ := cL6 K0.h
 obtain ⟨e0, e1, e2⟩ := cL3 K1.h
 obtain ⟨f0, f1, f2⟩ := fZ3 K1.h
 have his := is_c a W (ha.on hbW)
 rw [hno] at his
 clear hno
 go_enter Tryz.func56, Tryz.ntmps56
 go_wp2_with (go_at_call 31; refine his.mono ?_; rintro e w5 ⟨rfl, b5⟩; clear x0 x1 x2 x3 x4 x5 e0 e1 e2 f0 f1 f2; obtain ⟨x0, x1, x2, x3, x4, x5⟩ := cL6 (K0.on b5).h; obtain ⟨e0, e1, e2⟩ := cL3 (K1.on b5).h; obtain ⟨f0, f1, f2⟩ := fZ3 (K1.on b5).h)
 have hb8 := hbW.trans (b5.mono hbW.size)
 obtain ⟨Y, hY, KY, NY, OY⟩ := storeW (s' := false) (A' := none) (n' := 0) (c' := 0) (e' := 2) (K1.on b5)
 rw [hY]
 exact ret_cellT rfl Tryz.underlying68 rwhole_size rfl rfl KY.h rfl (retWh_end (l := []) rfl (IV.zero _) (hb8.trans (NY.low.mono (by omega))))
theorem RFloor_z (n1 : Bool) (A1 : Option Addr) (c1 : Nat) (l1 : List Nat) (z1 : Int) (p : Nat) (B1 : Option Addr) (d1 : Nat) (w : World) (I1 : IV w n1 A1 c1 l1 z1) (D1 : IsD z1 p) :
 Calls Tryz.prog 56 #[(vv 3 (p : Int) n1 A1 l1.length c1 ⟨#[]⟩ B1 0 d1)] w (RetWh (z1 / 10 ^ p, 0) w) := by
 obtain ⟨W, hW, hbW, K0, K1, hszW⟩ := box2 w #[.int .i64 3, .int .i64 (p : Int), .bool n1, .slice A1 l1.length c1, .string ⟨#[]⟩, .slice B1 0 d1] 27 #[.bool false, .slice none 0 0, .int .i64 0] 68
 obtain ⟨x0, x1, x2, x3, x4, x5⟩ := cL6 K0.h
 obtain ⟨e0, e1, e2⟩ := cL3 K1.h
 obtain ⟨f0, f1, f2⟩ := fZ3 K1.h
 have J1 := I1.on hbW
 have his : Calls Tryz.prog 31 #[(vv 3 (p : Int) n1 A1 l1.length c1 ⟨#[]⟩ B1 0 d1)] W (fun e w' => e = .returned (.bool true) ∧ Below W.heap.size W w') := by
  have := is_c (VA.mk 3 (p : Int) n1 A1 c1 l1 ⟨#[]⟩ B1 0 d1) W ⟨J1.rd, J1.cap⟩
  rwa [VA.ok_made I1.isZ D1] at this
 have f1 := D1.lz
 have hp := D1.hi
 have hT : ∀ W', Calls Tryz.prog 35 #[.int .i64 (p : Int)] W' (RetI (10 ^ p) W') := fun W' => Ten_i p (by omega) W'
 have ft : Lz 8 ((10 : Int) ^ p) := lz_ten_eight p (by omega)
 have tp : 0 < (10 : Int) ^ p := ten_pos p
 clear D1 I1 hp
 generalize (10 : Int) ^ p = t at *
 have hdv := fun W' (h : Below W.heap.size W W') s A c l (I : IV W' s A c l t) => rdiv_i n1 s A1 A c1 c l1 l z1 t W' (J1.on h) I f1 ft (by decide) (by decide) tp
 obtain ⟨q, hq⟩ : ∃ q, z1 / t = q := ⟨_, rfl⟩
 obtain ⟨r, hr⟩ : ∃ r, z1 % t = r := ⟨_, rfl⟩
 rw [hq, hr] at hdv
 rw [hq]
 clear hq hr f1 ft tp
 replace hszW := Lib.hid hszW
 go_enter Tryz.func56, Tryz.ntmps56
 go_upto_region 3 with (go_at_call 31; refine his.mono ?_; rintro e w5 ⟨rfl, b5⟩; clear x0 x1 x2 x3 x4 x5 e0 e1 e2 f0 f1 f2; obtain ⟨x0, x1, x2, x3, x4, x5⟩ := cL6 (K0.on b5).h; obtain ⟨e0, e1, e2⟩ := cL3 (K1.on b5).h; obtain ⟨f0, f1, f2⟩ := fZ3 (K1.on b5).h)
 have hb5 := hbW.trans (b5.mono hbW.size)
 have lb5 := b5.size
 have M5 := fun W' (h : Below w5.heap.size w5 W') => hdv W' (b5.trans (h.mono b5.size))
 replace K0 := K0.on b5
 replace K1 := K1.on b5
 have lw1 := blk_lt K1
 clear x0 x1 x2 x3 x4 x5 e0 e1 e2 f0 f1 f2 hW his J1 hdv
 go_cut [3] from 8 to 14 (fun pv wx => ∃ G s1 A1' c1' l1' s2 A2' c2' l2', pv = .pointer (some ⟨G, 0, none⟩) ∧ Blk wx G #[.bool s1, .slice A1' (List.length l1') c1', .bool s2, .slice A2' (List.length l2') c2'] 111 ∧ IV wx s1 A1' c1' l1' (q) ∧ IV wx s2 A2' c2' l2' (r) ∧ Below w5.heap.size w5 wx ∧ w5.heap.size ≤ G)
 case first =>
  have r0 : w5.cell? ⟨w.heap.size, 1, none⟩ = some (.int .i64 (p : Int)) := cell_at K0.h 1 _ rfl
  have r1 : w5.cell? ⟨w.heap.size, 2, none⟩ = some (.bool n1) := cell_at K0.h 2 _ rfl
  have r2 : w5.cell? ⟨w.heap.size, 3, none⟩ = some (.slice A1 l1.length c1) := cell_at K0.h 3 _ rfl
  go_region_held3 (fun w'' => w''.cell? ⟨w.heap.size, 1, none⟩ = some (.int .i64 (p : Int)) ∧ w''.cell? ⟨w.heap.size, 2, none⟩ = some (.bool n1) ∧ w''.cell? ⟨w.heap.size, 3, none⟩ = some (.slice A1 l1.length c1)) ((first | (with_reducible exact ⟨r0, r1, r2⟩) | (with_reducible exact rd5 ⟨r0, r1, r2⟩) | (refine keep3 K0 ?_; (repeat' (with_reducible first | exact Below.refl _ _ | exact q6 | exact q7 | refine below_drew ?_ | refine below_al ?_ _ | refine below_set ?_ _ ?_)); (all_goals (first | exact q6.size | exact q7.size | exact Nat.le_refl _)))))
   ((first
    | (go_at_call 103; have hmark := q6; refine (M5 _ (by (repeat' (with_reducible first | exact Below.refl _ _ | exact q6 | exact q7 | refine below_drew ?_ | refine below_al ?_ _ | refine below_set ?_ _ ?_))) _ _ _ _ (by (repeat' (with_reducible first | exact I6 | refine iv_up ?_)))).mono ?_; rintro e w7 ⟨s7, A7, c7, l7, s8, A8, c8, l8, rfl, I7, I8, b7⟩; have p7 : Below w6.heap.size w6 w7 := (by refine below_via ?_ b7; (repeat' (with_reducible first | exact Below.refl _ _ | exact q6 | exact q7 | refine below_drew ?_ | refine below_al ?_ _ | refine below_set ?_ _ ?_))); have q7 := q6.trans (p7.mono q6.size); (try (replace Ta := Ta.on p7)); (first | (have Ta : Blk w7 w6.heap.size #[.bool false, .slice none 0 0, .bool false, .slice none 0 0] 111 := (by with_reducible exact blk_al1 b7)) | skip); clear r0 r1 r2; have r0 : w7.cell? ⟨w.heap.size, 1, none⟩ = some (.int .i64 (p : Int)) := cell_at (K0.on q7).h 1 _ rfl; have r1 : w7.cell? ⟨w.heap.size, 2, none⟩ = some (.bool n1) := cell_at (K0.on q7).h 2 _ rfl; have r2 : w7.cell? ⟨w.heap.size, 3, none⟩ = some (.slice A1 l1.length c1) := cell_at (K0.on q7).h 3 _ rfl; (try (have ta0 := cell_at Ta.h 0 _ rfl; have ta1 := cell_at Ta.h 1 _ rfl; have ta2 := cell_at Ta.h 2 _ rfl; have ta3 := cell_at Ta.h 3 _ rfl; have ta4 := frozen_at Ta.h 0; have ta5 := frozen_at Ta.h 1; have ta6 := frozen_at Ta.h 2; have ta7 := frozen_at Ta.h 3)))
    | (go_at_call 35; refine (hT _).mono ?_; rintro e w6 ⟨s6, A6, c6, l6, rfl, I6, b6⟩; have q6 : Below w5.heap.size w5 w6 := (by refine below_via ?_ b6; (repeat' (with_reducible first | exact Below.refl _ _ | exact q6 | exact q7 | refine below_drew ?_ | refine below_al ?_ _ | refine below_set ?_ _ ?_))); have p6 := q6; (first | (have Ta : Blk w6 w5.heap.size #[.bool false, .slice none 0 0, .bool false, .slice none 0 0] 111 := (by with_reducible exact blk_al1d b6)) | skip); clear r0 r1 r2; have r0 : w6.cell? ⟨w.heap.size, 1, none⟩ = some (.int .i64 (p : Int)) := cell_at (K0.on q6).h 1 _ rfl; have r1 : w6.cell? ⟨w.heap.size, 2, none⟩ = some (.bool n1) := cell_at (K0.on q6).h 2 _ rfl; have r2 : w6.cell? ⟨w.heap.size, 3, none⟩ = some (.slice A1 l1.length c1) := cell_at (K0.on q6).h 3 _ rfl)))
  all_goals
   go_wp2_with fail
   go_meet
   refine ⟨_, s7, A7, c7, l7, s8, A8, c8, l8, rfl, ?_, ?_, ?_, ?_, ?_⟩
   all_goals (repeat' (with_reducible first | exact I7 | exact I8 | exact Ta | exact q7 | exact blk_new _ _ _ | apply blk_drew | apply iv_drew | apply below_drew | apply blk_up | apply iv_up | apply below_al | apply blk4_s3 | apply blk4_s2 | apply blk4_s1 | apply blk4_s0 | apply iv_set4 | apply below_set))
   all_goals (first | exact q6.size | exact q7.size | exact Nat.le_refl _)
 case rest =>
  obtain ⟨G, s9, A9, c9, l9, s8, A8, c8, l8, rfl, KG, IG, IR, bG, hG⟩ := hcut
  have hbc := hb5.trans (bG.mono hb5.size)
  replace K1 := K1.on bG
  clear IR K0
  obtain ⟨g0, g1⟩ := cL2 KG.h
  obtain ⟨e0, e1, e2⟩ := cL3 (K1).h; obtain ⟨f0, f1, f2⟩ := fZ3 (K1).h
  go_wp2_with fail
  obtain ⟨Y, hY, KY, NY, OY⟩ := storeW (s' := s9) (A' := A9) (n' := l9.length) (c' := c9) (e' := 0) K1
  rw [hY]
  exact ret_cellT rfl Tryz.underlying68 rwhole_size rfl rfl KY.h rfl (retWh_end rfl (IG.nudge NY) (hbc.trans (NY.low.mono (by omega))))
theorem RFloor_calls (a : VA) (w : World) (ha : a.At w) : Calls Tryz.prog 56 #[a.val] w (RetWh (floorX a) w) := by
 unfold floorX
 cases hok : a.ok
 · rw [if_neg (by decide)]
   exact RFloor_no a w ha hok
 · rw [if_pos rfl]
   obtain ⟨p, s1, A1, c1, l1, B1, d1, e1, i1, D1, u1, q1⟩ := VA.destruct ha.rd.words hok
   rw [q1]
   generalize a.z = za at *
   subst e1
   exact RFloor_z s1 A1 c1 l1 za p B1 d1 w ⟨ha.rd, ha.cap, i1⟩ D1
theorem RCeil_no (a : VA) (w : World) (ha : a.At w) (hno : a.ok = false) :
 Calls Tryz.prog 57 #[a.val] w (RetWh (0, 2) w) := by
 obtain ⟨W, hW, hbW, K0, K1, hszW⟩ := box2 w #[.int .i64 a.k, .int .i64 a.p, .bool a.s, .slice a.A a.l.length a.c, .string a.S, .slice a.B a.m a.d] 27 #[.bool false, .slice none 0 0, .int .i64 0] 68
 obtain ⟨x0, x1, x2, x3, x4, x5⟩ := cL6 K0.h
 obtain ⟨e0, e1, e2⟩ := cL3 K1.h
 obtain ⟨f0, f1, f2⟩ := fZ3 K1.h
 have his := is_c a W (ha.on hbW)
 rw [hno] at his
 clear hno
 go_enter Tryz.func57, Tryz.ntmps57
 go_wp2_with (go_at_call 31; refine his.mono ?_; rintro e w5 ⟨rfl, b5⟩; clear x0 x1 x2 x3 x4 x5 e0 e1 e2 f0 f1 f2; obtain ⟨x0, x1, x2, x3, x4, x5⟩ := cL6 (K0.on b5).h; obtain ⟨e0, e1, e2⟩ := cL3 (K1.on b5).h; obtain ⟨f0, f1, f2⟩ := fZ3 (K1.on b5).h)
 have hb8 := hbW.trans (b5.mono hbW.size)
 obtain ⟨Y, hY, KY, NY, OY⟩ := storeW (s' := false) (A' := none) (n' := 0) (c' := 0) (e' := 2) (K1.on b5)
 rw [hY]
 exact ret_cellT rfl Tryz.underlying68 rwhole_size rfl rfl KY.h rfl (retWh_end (l := []) rfl (IV.zero _) (hb8.trans (NY.low.mono (by omega))))
theorem RCeil_z (n1 : Bool) (A1 : Option Addr) (c1 : Nat) (l1 : List Nat) (z1 : Int) (p : Nat) (B1 : Option Addr) (d1 : Nat) (w : World) (I1 : IV w n1 A1 c1 l1 z1) (D1 : IsD z1 p) :
 Calls Tryz.prog 57 #[(vv 3 (p : Int) n1 A1 l1.length c1 ⟨#[]⟩ B1 0 d1)] w (RetWh (-((-z1) / 10 ^ p), 0) w) := by
 obtain ⟨W, hW, hbW, K0, K1, hszW⟩ := box2 w #[.int .i64 3, .int .i64 (p : Int), .bool n1, .slice A1 l1.length c1, .string ⟨#[]⟩, .slice B1 0 d1] 27 #[.bool false, .slice none 0 0, .int .i64 0] 68
 obtain ⟨x0, x1, x2, x3, x4, x5⟩ := cL6 K0.h
 obtain ⟨e0, e1, e2⟩ := cL3 K1.h
 obtain ⟨f0, f1, f2⟩ := fZ3 K1.h
 have J1 := I1.on hbW
 have his : Calls Tryz.prog 31 #[(vv 3 (p : Int) n1 A1 l1.length c1 ⟨#[]⟩ B1 0 d1)] W (fun e w' => e = .returned (.bool true) ∧ Below W.heap.size W w') := by
  have := is_c (VA.mk 3 (p : Int) n1 A1 c1 l1 ⟨#[]⟩ B1 0 d1) W ⟨J1.rd, J1.cap⟩
  rwa [VA.ok_made I1.isZ D1] at this
 have f1 := D1.lz
 have hp := D1.hi
 have hT : ∀ W', Calls Tryz.prog 35 #[.int .i64 (p : Int)] W' (RetI (10 ^ p) W') := fun W' => Ten_i p (by omega) W'
 have ft : Lz 8 ((10 : Int) ^ p) := lz_ten_eight p (by omega)
 have tp : 0 < (10 : Int) ^ p := ten_pos p
 clear D1 I1 hp
 generalize (10 : Int) ^ p = t at *
 have fm := f1.neg
 have hmn := fun W' (h : Below W.heap.size W W') => rminus_i n1 A1 c1 l1 z1 W' (J1.on h)
 generalize -z1 = m at *
 have hdv := fun W' s' A' c' l' (I' : IV W' s' A' c' l' m) s A c l (I : IV W' s A c l t) => rdiv_i s' s A' A c' c l' l m t W' I' I fm ft (by decide) (by decide) tp
 obtain ⟨q, hq⟩ : ∃ q, m / t = q := ⟨_, rfl⟩
 obtain ⟨r, hr⟩ : ∃ r, m % t = r := ⟨_, rfl⟩
 rw [hq, hr] at hdv
 rw [hq]
 clear hq hr f1 ft tp fm
 replace hszW := Lib.hid hszW
 go_enter Tryz.func57, Tryz.ntmps57
 go_upto_region 3 with (go_at_call 31; refine his.mono ?_; rintro e w5 ⟨rfl, b5⟩; clear x0 x1 x2 x3 x4 x5 e0 e1 e2 f0 f1 f2; obtain ⟨x0, x1, x2, x3, x4, x5⟩ := cL6 (K0.on b5).h; obtain ⟨e0, e1, e2⟩ := cL3 (K1.on b5).h; obtain ⟨f0, f1, f2⟩ := fZ3 (K1.on b5).h)
 have hb5 := hbW.trans (b5.mono hbW.size)
 have lb5 := b5.size
 have M5 := fun W' (h : Below w5.heap.size w5 W') => hmn W' (b5.trans (h.mono b5.size))
 replace K0 := K0.on b5
 replace K1 := K1.on b5
 have lw1 := blk_lt K1
 clear x0 x1 x2 x3 x4 x5 e0 e1 e2 f0 f1 f2 hW his J1 hmn
 go_cut [3] from 8 to 15 (fun pv wx => ∃ G s1 A1' c1' l1' s2 A2' c2' l2', pv = .pointer (some ⟨G, 0, none⟩) ∧ Blk wx G #[.bool s1, .slice A1' (List.length l1') c1', .bool s2, .slice A2' (List.length l2') c2'] 111 ∧ IV wx s1 A1' c1' l1' (q) ∧ IV wx s2 A2' c2' l2' (r) ∧ Below w5.heap.size w5 wx ∧ w5.heap.size ≤ G)
 case first =>
  have r0 : w5.cell? ⟨w.heap.size, 1, none⟩ = some (.int .i64 (p : Int)) := cell_at K0.h 1 _ rfl
  have r1 : w5.cell? ⟨w.heap.size, 2, none⟩ = some (.bool n1) := cell_at K0.h 2 _ rfl
  have r2 : w5.cell? ⟨w.heap.size, 3, none⟩ = some (.slice A1 l1.length c1) := cell_at K0.h 3 _ rfl
  go_region_held3 (fun w'' => w''.cell? ⟨w.heap.size, 1, none⟩ = some (.int .i64 (p : Int)) ∧ w''.cell? ⟨w.heap.size, 2, none⟩ = some (.bool n1) ∧ w''.cell? ⟨w.heap.size, 3, none⟩ = some (.slice A1 l1.length c1)) ((first | (with_reducible exact ⟨r0, r1, r2⟩) | (with_reducible exact rd5 ⟨r0, r1, r2⟩) | (refine keep3 K0 ?_; (repeat' (with_reducible first | exact Below.refl _ _ | exact q15 | exact q6 | exact q7 | refine below_drew ?_ | refine below_al ?_ _ | refine below_set ?_ _ ?_)); (all_goals (first | exact q15.size | exact q6.size | exact q7.size | exact Nat.le_refl _)))))
   ((first
    | (go_at_call 103; have hmark := q6; refine (hdv _ _ _ _ _ (by (repeat' (with_reducible first | exact I16 | refine iv_up ?_))) _ _ _ _ (by (repeat' (with_reducible first | exact I6 | refine iv_up ?_)))).mono ?_; rintro e w7 ⟨s7, A7, c7, l7, s8, A8, c8, l8, rfl, I7, I8, b7⟩; have p7 : Below w6.heap.size w6 w7 := (by refine below_via ?_ b7; (repeat' (with_reducible first | exact Below.refl _ _ | exact q15 | exact q6 | exact q7 | refine below_drew ?_ | refine below_al ?_ _ | refine below_set ?_ _ ?_))); have q7 := q6.trans (p7.mono q6.size); (try (replace Ta := Ta.on p7)); (first | (have Ta : Blk w7 w6.heap.size #[.bool false, .slice none 0 0, .bool false, .slice none 0 0] 111 := (by with_reducible exact blk_al1 b7)) | skip); clear r0 r1 r2; have r0 : w7.cell? ⟨w.heap.size, 1, none⟩ = some (.int .i64 (p : Int)) := cell_at (K0.on q7).h 1 _ rfl; have r1 : w7.cell? ⟨w.heap.size, 2, none⟩ = some (.bool n1) := cell_at (K0.on q7).h 2 _ rfl; have r2 : w7.cell? ⟨w.heap.size, 3, none⟩ = some (.slice A1 l1.length c1) := cell_at (K0.on q7).h 3 _ rfl; (try (have ta0 := cell_at Ta.h 0 _ rfl; have ta1 := cell_at Ta.h 1 _ rfl; have ta2 := cell_at Ta.h 2 _ rfl; have ta3 := cell_at Ta.h 3 _ rfl; have ta4 := frozen_at Ta.h 0; have ta5 := frozen_at Ta.h 1; have ta6 := frozen_at Ta.h 2; have ta7 := frozen_at Ta.h 3)))
    | (go_at_call 35; have hmark := q15; refine (hT _).mono ?_; rintro e w6 ⟨s6, A6, c6, l6, rfl, I6, b6⟩; have I16 : IV w6 s15 A15 c15 l15 m := (by first | with_reducible exact I15.on b6 | with_reducible exact (iv_up I15).on b6); have p6 : Below w15.heap.size w15 w6 := (by refine below_via ?_ b6; (repeat' (with_reducible first | exact Below.refl _ _ | exact q15 | exact q6 | exact q7 | refine below_drew ?_ | refine below_al ?_ _ | refine below_set ?_ _ ?_))); have q6 := q15.trans (p6.mono q15.size); (try (replace Ta := Ta.on p6)); (first | (have Ta : Blk w6 w15.heap.size #[.bool false, .slice none 0 0, .bool false, .slice none 0 0] 111 := (by with_reducible exact blk_al1 b6)) | skip); clear r0 r1 r2; have r0 : w6.cell? ⟨w.heap.size, 1, none⟩ = some (.int .i64 (p : Int)) := cell_at (K0.on q6).h 1 _ rfl; have r1 : w6.cell? ⟨w.heap.size, 2, none⟩ = some (.bool n1) := cell_at (K0.on q6).h 2 _ rfl; have r2 : w6.cell? ⟨w.heap.size, 3, none⟩ = some (.slice A1 l1.length c1) := cell_at (K0.on q6).h 3 _ rfl)
    | (go_at_call 37; refine (M5 _ (by (repeat' (with_reducible first | exact Below.refl _ _ | exact q15 | exact q6 | exact q7 | refine below_drew ?_ | refine below_al ?_ _ | refine below_set ?_ _ ?_)))).mono ?_; rintro e w15 ⟨s15, A15, c15, l15, rfl, I15, b15⟩; have q15 : Below w5.heap.size w5 w15 := (by refine below_via ?_ b15; (repeat' (with_reducible first | exact Below.refl _ _ | exact q15 | exact q6 | exact q7 | refine below_drew ?_ | refine below_al ?_ _ | refine below_set ?_ _ ?_))); have p15 := q15; (first | (have Ta : Blk w15 w5.heap.size #[.bool false, .slice none 0 0, .bool false, .slice none 0 0] 111 := (by with_reducible exact blk_al1d b15)) | skip); clear r0 r1 r2; have r0 : w15.cell? ⟨w.heap.size, 1, none⟩ = some (.int .i64 (p : Int)) := cell_at (K0.on q15).h 1 _ rfl; have r1 : w15.cell? ⟨w.heap.size, 2, none⟩ = some (.bool n1) := cell_at (K0.on q15).h 2 _ rfl; have r2 : w15.cell? ⟨w.heap.size, 3, none⟩ = some (.slice A1 l1.length c1) := cell_at (K0.on q15).h 3 _ rfl)))
  all_goals
   go_wp2_with fail
   go_meet
   refine ⟨_, s7, A7, c7, l7, s8, A8, c8, l8, rfl, ?_, ?_, ?_, ?_, ?_⟩
   all_goals (repeat' (with_reducible first | exact I7 | exact I8 | exact Ta | exact q7 | exact blk_new _ _ _ | apply blk_drew | apply iv_drew | apply below_drew | apply blk_up | apply iv_up | apply below_al | apply blk4_s3 | apply blk4_s2 | apply blk4_s1 | apply blk4_s0 | apply iv_set4 | apply below_set))
   all_goals (first | exact q15.size | exact q6.size | exact q7.size | exact Nat.le_refl _)
 case rest =>
  obtain ⟨G, s9, A9, c9, l9, s8, A8, c8, l8, rfl, KG, IG, IR, bG, hG⟩ := hcut
  have hbc := hb5.trans (bG.mono hb5.size)
  replace K1 := K1.on bG
  clear IR K0
  have hmq := fun W' (h : Below wc.heap.size wc W') => rminus_i s9 A9 c9 l9 q W' (IG.on h)
  generalize -q = nq at *
  clear hT hdv M5
  obtain ⟨g0, g1⟩ := cL2 KG.h
  go_wp2_with (go_at_call 37; refine (hmq _ (Below.refl _ _)).mono ?_; rintro e w20 ⟨s20, A20, c20, l20, rfl, I20, b20⟩; obtain ⟨e0, e1, e2⟩ := cL3 (K1.on b20).h; obtain ⟨f0, f1, f2⟩ := fZ3 (K1.on b20).h)
  have hbd := hbc.trans (b20.mono hbc.size)
  obtain ⟨Y, hY, KY, NY, OY⟩ := storeW (s' := s20) (A' := A20) (n' := l20.length) (c' := c20) (e' := 0) (K1.on b20)
  rw [hY]
  exact ret_cellT rfl Tryz.underlying68 rwhole_size rfl rfl KY.h rfl (retWh_end rfl (I20.nudge NY) (hbd.trans (NY.low.mono (by omega))))
theorem RCeil_calls (a : VA) (w : World) (ha : a.At w) : Calls Tryz.prog 57 #[a.val] w (RetWh (ceilX a) w) := by
 unfold ceilX
 cases hok : a.ok
 · rw [if_neg (by decide)]
   exact RCeil_no a w ha hok
 · rw [if_pos rfl]
   obtain ⟨p, s1, A1, c1, l1, B1, d1, e1, i1, D1, u1, q1⟩ := VA.destruct ha.rd.words hok
   rw [q1]
   generalize a.z = za at *
   subst e1
   exact RCeil_z s1 A1 c1 l1 za p B1 d1 w ⟨ha.rd, ha.cap, i1⟩ D1
theorem fix_of {a : VA} (h : Words a.l) : fixX a = if a.s = true then ceilX a else floorX a := by
 unfold fixX
 cases hok : a.ok
 · have h1 : ceilX a = floorX a := by unfold ceilX floorX; rw [hok]; rfl
   rw [h1]
   split <;> split <;> rfl
 · obtain ⟨p, s1, A1, c1, l1, B1, d1, e1, i1, D1, u1, q1⟩ := VA.destruct h hok
   have hs : a.s = decide (a.z < 0) := by subst e1; exact i1.sgn
   rw [hs]
   by_cases hz : a.z < 0
   · rw [if_pos hz, decide_eq_true hz, if_pos rfl]
   · rw [if_neg hz, decide_eq_false hz, if_neg (by decide)]
theorem RFix_calls (a : VA) (w : World) (ha : a.At w) : Calls Tryz.prog 55 #[a.val] w (RetWh (fixX a) w) := by
 rw [fix_of ha.rd.words]
 have hf := fun W (h : Below w.heap.size w W) => RFloor_calls a W (ha.on h)
 have hc := fun W (h : Below w.heap.size w W) => RCeil_calls a W (ha.on h)
 obtain ⟨u, hu⟩ : ∃ u, floorX a = u := ⟨_, rfl⟩
 obtain ⟨v, hv⟩ : ∃ v, ceilX a = v := ⟨_, rfl⟩
 rw [hu] at hf ⊢
 rw [hv] at hc ⊢
 clear hu hv ha
 obtain ⟨k, p, s, A, c, l, S, B, m, d⟩ := a
 dsimp only [VA.val] at hf hc ⊢
 obtain ⟨W, hW, hbW, K0, K1, hszW⟩ := box2 w #[.int .i64 k, .int .i64 p, .bool s, .slice A l.length c, .string S, .slice B m d] 27 #[.bool false, .slice none 0 0, .int .i64 0] 68
 replace hf := hf W hbW
 replace hc := hc W hbW
 obtain ⟨x0, x1, x2, x3, x4, x5⟩ := cL6 K0.h
 replace hszW := Lib.hid hszW
 cases s
 · rw [if_neg (by decide)]
   clear hc
   go_enter Tryz.func55, Tryz.ntmps55
   go_wp2_with (go_at_call 56; refine hf.mono ?_; rintro e w5 ⟨s5, A5, c5, l5, rfl, I5, b5⟩; obtain ⟨e0, e1, e2⟩ := cL3 (K1.on b5).h; obtain ⟨f0, f1, f2⟩ := fZ3 (K1.on b5).h)
   have hb5 := hbW.trans (b5.mono hbW.size)
   have K5 := K1.on b5
   obtain ⟨Y, hY, KY, NY, OY⟩ := storeW (s' := s5) (A' := A5) (n' := l5.length) (c' := c5) (e' := u.2) K5
   rw [hY]
   exact ret_cellT rfl Tryz.underlying68 rwhole_size rfl rfl KY.h rfl (retWh_end rfl (I5.nudge NY) (hb5.trans (NY.low.mono (by omega))))
 · rw [if_pos rfl]
   clear hf
   go_enter Tryz.func55, Tryz.ntmps55
   go_wp2_with (go_at_call 57; refine hc.mono ?_; rintro e w5 ⟨s5, A5, c5, l5, rfl, I5, b5⟩; obtain ⟨e0, e1, e2⟩ := cL3 (K1.on b5).h; obtain ⟨f0, f1, f2⟩ := fZ3 (K1.on b5).h)
   have hb5 := hbW.trans (b5.mono hbW.size)
   have K5 := K1.on b5
   obtain ⟨Y, hY, KY, NY, OY⟩ := storeW (s' := s5) (A' := A5) (n' := l5.length) (c' := c5) (e' := v.2) K5
   rw [hY]
   exact ret_cellT rfl Tryz.underlying68 rwhole_size rfl rfl KY.h rfl (retWh_end rfl (I5.nudge NY) (hb5.trans (NY.low.mono (by omega))))
theorem whole_calls (x : Int × Int) (n1 n2 : Bool) (A1 A2 : Option Addr) (c1 c2 : Nat) (l1 l2 : List Nat) (w : World) (I1 : IV w n1 A1 c1 l1 x.1) (I2 : IV w n2 A2 c2 l2 x.1) :
 Calls Tryz.prog 54 #[iv n1 A1 l1.length c1, .int .i64 x.2, .agg #[.bool n2, .slice A2 l2.length c2, .int .i64 x.2]] w fun e w' => e = .returned (.bool true) ∧ Below w.heap.size w w' := by
 obtain ⟨z, er⟩ := x
 dsimp only at I1 I2 ⊢
 obtain ⟨W, hW, hbW, K0, K1, hszW⟩ := box2 w #[.bool n1, .slice A1 l1.length c1] 24 #[.bool n2, .slice A2 l2.length c2, .int .i64 er] 68
 have hs := Same_calls n1 n2 A1 A2 c1 c2 l1 l2 W (I1.on hbW).rd (I2.on hbW).rd I1.cap I2.cap
 rw [sameI_z I1.isZ I2.isZ, decide_eq_true rfl] at hs
 obtain ⟨x0, x1⟩ := cL2 K0.h
 obtain ⟨y0, y1, y2⟩ := cL3 K1.h
 clear hszW
 go_enter Tryz.func54, Tryz.ntmps54
 go_wp2_with (go_at_call 67; refine hs.mono ?_; rintro e w5 ⟨rfl, b5⟩)
 go_ret
 exact ⟨rfl, hbW.trans (b5.mono hbW.size)⟩
theorem RRound_no (a : VA) (k : Int) (w : World) (ha : a.At w) (hno : a.ok = false) :
 Calls Tryz.prog 53 #[a.val, .int .i64 k] w (RetG (err 2) w) := by
 obtain ⟨W, hW, hbW, K0, K1, hszW⟩ := box2 w #[.int .i64 a.k, .int .i64 a.p, .bool a.s, .slice a.A a.l.length a.c, .string a.S, .slice a.B a.m a.d] 27 #[.int .i64 0, .int .i64 0, .bool false, .slice none 0 0, .string ⟨#[]⟩, .slice none 0 0, .int .i64 0] 36
 obtain ⟨x0, x1, x2, x3, x4, x5⟩ := cL6 K0.h
 obtain ⟨e0, e1, e2, e3, e4, e5, e6⟩ := cL7 K1.h
 obtain ⟨f0, f1, f2, f3, f4, f5, f6⟩ := fZ7 K1.h
 have his := is_c a W (ha.on hbW)
 rw [hno] at his
 clear hno
 go_enter Tryz.func53, Tryz.ntmps53
 go_wp2_with (go_at_call 31; refine his.mono ?_; rintro e w5 ⟨rfl, b5⟩; clear x0 x1 x2 x3 x4 x5 e0 e1 e2 e3 e4 e5 e6 f0 f1 f2 f3 f4 f5 f6; obtain ⟨x0, x1, x2, x3, x4, x5⟩ := cL6 (K0.on b5).h; obtain ⟨e0, e1, e2, e3, e4, e5, e6⟩ := cL7 (K1.on b5).h; obtain ⟨f0, f1, f2, f3, f4, f5, f6⟩ := fZ7 (K1.on b5).h)
 have hb8 := hbW.trans (b5.mono hbW.size)
 obtain ⟨X, hX, KX, NX, OX⟩ := storeG (k' := 0) (p' := 0) (s' := false) (A' := none) (n' := 0) (c' := 0) (S' := ⟨#[]⟩) (B' := none) (m' := 0) (d' := 0) (e' := 2) (K1.on b5)
 rw [hX]
 exact ret_cellT rfl Tryz.underlying36 rgot_size rfl rfl KX.h rfl (retG_err 2 (by decide) ((hb8).trans (NX.low.mono (by omega))))
theorem RRound_z (n1 : Bool) (A1 : Option Addr) (c1 : Nat) (l1 : List Nat) (z1 : Int) (p : Nat) (B1 : Option Addr) (d1 : Nat) (k : Int) (w : World) (I1 : IV w n1 A1 c1 l1 z1) (D1 : IsD z1 p) :
 Calls Tryz.prog 53 #[(vv 3 (p : Int) n1 A1 l1.length c1 ⟨#[]⟩ B1 0 d1), .int .i64 k] w (RetG (if k < 0 ∨ 20 < k then err 1 else if (p : Int) ≤ k then (z1, p, 0) else madeE (nearZ z1 (10 ^ (p - k.toNat))) k.toNat) w) := by
 obtain ⟨W, hW, hbW, K0, K1, hszW⟩ := box2 w #[.int .i64 3, .int .i64 (p : Int), .bool n1, .slice A1 l1.length c1, .string ⟨#[]⟩, .slice B1 0 d1] 27 #[.int .i64 0, .int .i64 0, .bool false, .slice none 0 0, .string ⟨#[]⟩, .slice none 0 0, .int .i64 0] 36
 obtain ⟨x0, x1, x2, x3, x4, x5⟩ := cL6 K0.h
 obtain ⟨e0, e1, e2, e3, e4, e5, e6⟩ := cL7 K1.h
 obtain ⟨f0, f1, f2, f3, f4, f5, f6⟩ := fZ7 K1.h
 have J1 := I1.on hbW
 have his : Calls Tryz.prog 31 #[(vv 3 (p : Int) n1 A1 l1.length c1 ⟨#[]⟩ B1 0 d1)] W (fun e w' => e = .returned (.bool true) ∧ Below W.heap.size W w') := by
  have := is_c (VA.mk 3 (p : Int) n1 A1 c1 l1 ⟨#[]⟩ B1 0 d1) W ⟨J1.rd, J1.cap⟩
  rwa [VA.ok_made I1.isZ D1] at this
 have f1' := D1.lz
 have hp := D1.hi
 clear D1 I1
 by_cases hk0 : k < 0
 · rw [if_pos (.inl hk0)]
   have kb : decide (k < 0) = true := decide_eq_true hk0
   clear hk0
   go_enter Tryz.func53, Tryz.ntmps53
   go_wp2_with (go_at_call 31; refine his.mono ?_; rintro e w5 ⟨rfl, b5⟩; clear x0 x1 x2 x3 x4 x5 e0 e1 e2 e3 e4 e5 e6 f0 f1 f2 f3 f4 f5 f6; obtain ⟨x0, x1, x2, x3, x4, x5⟩ := cL6 (K0.on b5).h; obtain ⟨e0, e1, e2, e3, e4, e5, e6⟩ := cL7 (K1.on b5).h; obtain ⟨f0, f1, f2, f3, f4, f5, f6⟩ := fZ7 (K1.on b5).h)
   have hb8 := hbW.trans (b5.mono hbW.size)
   obtain ⟨X, hX, KX, NX, OX⟩ := storeG (k' := 0) (p' := 0) (s' := false) (A' := none) (n' := 0) (c' := 0) (S' := ⟨#[]⟩) (B' := none) (m' := 0) (d' := 0) (e' := 1) (K1.on b5)
   rw [hX]
   exact ret_cellT rfl Tryz.underlying36 rgot_size rfl rfl KX.h rfl (retG_err 1 (by decide) ((hb8).trans (NX.low.mono (by omega))))
 · have kb : decide (k < 0) = false := decide_eq_false hk0
   obtain ⟨j, rfl⟩ : ∃ j : Nat, k = (j : Int) := ⟨k.toNat, by omega⟩
   by_cases hk1 : 20 < (j : Int)
   · rw [if_pos (.inr hk1)]
     have kc : decide (20 < (j : Int)) = true := decide_eq_true hk1
     clear hk0 hk1
     go_enter Tryz.func53, Tryz.ntmps53
     go_wp2_with (go_at_call 31; refine his.mono ?_; rintro e w5 ⟨rfl, b5⟩; clear x0 x1 x2 x3 x4 x5 e0 e1 e2 e3 e4 e5 e6 f0 f1 f2 f3 f4 f5 f6; obtain ⟨x0, x1, x2, x3, x4, x5⟩ := cL6 (K0.on b5).h; obtain ⟨e0, e1, e2, e3, e4, e5, e6⟩ := cL7 (K1.on b5).h; obtain ⟨f0, f1, f2, f3, f4, f5, f6⟩ := fZ7 (K1.on b5).h)
     have hb8 := hbW.trans (b5.mono hbW.size)
     obtain ⟨X, hX, KX, NX, OX⟩ := storeG (k' := 0) (p' := 0) (s' := false) (A' := none) (n' := 0) (c' := 0) (S' := ⟨#[]⟩) (B' := none) (m' := 0) (d' := 0) (e' := 1) (K1.on b5)
     rw [hX]
     exact ret_cellT rfl Tryz.underlying36 rgot_size rfl rfl KX.h rfl (retG_err 1 (by decide) ((hb8).trans (NX.low.mono (by omega))))
   · have kc : decide (20 < (j : Int)) = false := decide_eq_false hk1
     rw [if_neg (by omega), Int.toNat_natCast]
     by_cases hk2 : (p : Int) ≤ (j : Int)
     · rw [if_pos hk2]
       have kd' : decide (p ≤ j) = true := decide_eq_true (by omega)
       clear hk0 hk1 hk2 hp
       go_enter Tryz.func53, Tryz.ntmps53
       go_wp2_with (go_at_call 31; refine his.mono ?_; rintro e w5 ⟨rfl, b5⟩; clear x0 x1 x2 x3 x4 x5 e0 e1 e2 e3 e4 e5 e6 f0 f1 f2 f3 f4 f5 f6; obtain ⟨x0, x1, x2, x3, x4, x5⟩ := cL6 (K0.on b5).h; obtain ⟨e0, e1, e2, e3, e4, e5, e6⟩ := cL7 (K1.on b5).h; obtain ⟨f0, f1, f2, f3, f4, f5, f6⟩ := fZ7 (K1.on b5).h)
       have hb8 := hbW.trans (b5.mono hbW.size)
       have I8 := J1.on b5
       obtain ⟨X, hX, KX, NX, OX⟩ := storeG (k' := 3) (p' := (p : Int)) (s' := n1) (A' := A1) (n' := l1.length) (c' := c1) (S' := ⟨#[]⟩) (B' := B1) (m' := 0) (d' := d1) (e' := 0) (K1.on b5)
       rw [hX]
       exact ret_cellT rfl Tryz.underlying36 rgot_size rfl rfl KX.h rfl ⟨n1, A1, c1, l1, B1, d1, rfl, I8.nudge NX, hb8.trans (NX.low.mono (by omega))⟩
     · rw [if_neg hk2]
       have kd' : decide (p ≤ j) = false := decide_eq_false (by omega)
       have hx : IntKind.i64.wrap ((p : Int) - (j : Int)) = ((p - j : Nat) : Int) := by rw [IntKind.wrap_i64]; omega
       have hj20 : j ≤ 20 := by omega
       have hT : ∀ W', Calls Tryz.prog 35 #[.int .i64 ((p - j : Nat) : Int)] W' (RetI (10 ^ (p - j)) W') := fun W' => Ten_i (p - j) (by omega) W'
       have ft : Lz 8 ((10 : Int) ^ (p - j)) := lz_ten_eight (p - j) (by omega)
       have tp : (10 : Int) ^ (p - j) ≠ 0 := Int.ne_of_gt (ten_pos (p - j))
       generalize (10 : Int) ^ (p - j) = t at *
       generalize p - j = i at *
       have hN := fun W' (h : Below W.heap.size W W') s A c l (I : IV W' s A c l t) => Near_i n1 s A1 A c1 c l1 l z1 t W' (J1.on h) I f1' ft (by decide) (by decide) tp
       have fn := f1'.near (d := t) tp
       generalize nearZ z1 t = n at *
       have hL : ∀ W' s A c l (I : IV W' s A c l n), Calls Tryz.prog 97 #[iv s A (List.length l) c, .int .i64 (j : Int)] W' (RetG (madeE n j) W') := fun W' s A c l I => Least_i s A c l n j hj20 W' I fn (by decide)
       obtain ⟨E, hE⟩ : ∃ E, madeE n j = E := ⟨_, rfl⟩
       rw [hE] at hL ⊢
       clear hE fn ft tp f1' hk0 hk1 hk2 hp hj20
       replace hszW := Lib.hid hszW
       go_enter Tryz.func53, Tryz.ntmps53
       go_upto_region 7 with (go_at_call 31; refine his.mono ?_; rintro e w5 ⟨rfl, b5⟩; clear x0 x1 x2 x3 x4 x5 e0 e1 e2 e3 e4 e5 e6 f0 f1 f2 f3 f4 f5 f6; obtain ⟨x0, x1, x2, x3, x4, x5⟩ := cL6 (K0.on b5).h; obtain ⟨e0, e1, e2, e3, e4, e5, e6⟩ := cL7 (K1.on b5).h; obtain ⟨f0, f1, f2, f3, f4, f5, f6⟩ := fZ7 (K1.on b5).h)
       have hb5 := hbW.trans (b5.mono hbW.size)
       have N5 := fun W' (h : Below w5.heap.size w5 W') => hN W' (b5.trans (h.mono b5.size))
       replace K0 := K0.on b5
       replace K1 := K1.on b5
       clear hN his J1 hW
       clear x0 x1 x2 x3 x4 x5 e0 e1 e2 e3 e4 e5 e6 f0 f1 f2 f3 f4 f5 f6
       have x1 : w5.cell? ⟨w.heap.size, 1, none⟩ = some (.int .i64 (p : Int)) := cell_at K0.h 1 _ rfl
       have x2 : w5.cell? ⟨w.heap.size, 2, none⟩ = some (.bool n1) := cell_at K0.h 2 _ rfl
       have x3 : w5.cell? ⟨w.heap.size, 3, none⟩ = some (.slice A1 l1.length c1) := cell_at K0.h 3 _ rfl
       have hne0 : w.heap.size ≠ w.heap.size + 1 := by omega
       go_region_held3 (fun w'' => w''.cell? ⟨w.heap.size, 1, none⟩ = some (.int .i64 (p : Int)) ∧ w''.cell? ⟨w.heap.size, 2, none⟩ = some (.bool n1) ∧ w''.cell? ⟨w.heap.size, 3, none⟩ = some (.slice A1 l1.length c1)) ((first | (with_reducible exact ⟨x1, x2, x3⟩) | (with_reducible exact rd5 ⟨x1, x2, x3⟩) | (with_reducible exact ⟨set7_ne x1 hne0, set7_ne x2 hne0, set7_ne x3 hne0⟩)))
        ((first
         | (go_at_call 97; have hmark := q7; refine (hL _ _ _ _ _ I7).mono ?_; rintro e w8 ⟨s8, A8, c8, l8, B8, d8, rfl, I8, b8⟩; have q8 := q7.trans (b8.mono q7.size); clear x1 x2 x3; have x1 : w8.cell? ⟨w.heap.size, 1, none⟩ = some (.int .i64 (p : Int)) := cell_at (K0.on q8).h 1 _ rfl; have x2 : w8.cell? ⟨w.heap.size, 2, none⟩ = some (.bool n1) := cell_at (K0.on q8).h 2 _ rfl; have x3 : w8.cell? ⟨w.heap.size, 3, none⟩ = some (.slice A1 l1.length c1) := cell_at (K0.on q8).h 3 _ rfl; obtain ⟨e0, e1, e2, e3, e4, e5, e6⟩ := cL7 (K1.on q8).h; obtain ⟨f0, f1, f2, f3, f4, f5, f6⟩ := fZ7 (K1.on q8).h)
         | (go_at_call 133; have hmark := q6; refine (N5 _ q6 _ _ _ _ I6).mono ?_; rintro e w7 ⟨s7, A7, c7, l7, rfl, I7, b7⟩; have q7 := q6.trans (b7.mono q6.size); clear x1 x2 x3; have x1 : w7.cell? ⟨w.heap.size, 1, none⟩ = some (.int .i64 (p : Int)) := cell_at (K0.on q7).h 1 _ rfl; have x2 : w7.cell? ⟨w.heap.size, 2, none⟩ = some (.bool n1) := cell_at (K0.on q7).h 2 _ rfl; have x3 : w7.cell? ⟨w.heap.size, 3, none⟩ = some (.slice A1 l1.length c1) := cell_at (K0.on q7).h 3 _ rfl)
         | (go_at_call 35; refine (hT _).mono ?_; rintro e w6 ⟨s6, A6, c6, l6, rfl, I6, b6⟩; have q6 := (below_drew (Below.refl w5.heap.size w5)).trans b6; clear x1 x2 x3; have x1 : w6.cell? ⟨w.heap.size, 1, none⟩ = some (.int .i64 (p : Int)) := cell_at (K0.on q6).h 1 _ rfl; have x2 : w6.cell? ⟨w.heap.size, 2, none⟩ = some (.bool n1) := cell_at (K0.on q6).h 2 _ rfl; have x3 : w6.cell? ⟨w.heap.size, 3, none⟩ = some (.slice A1 l1.length c1) := cell_at (K0.on q6).h 3 _ rfl)))
       go_wp2_with fail
       have hb8 := hb5.trans (q8.mono hb5.size)
       obtain ⟨X, hX, KX, NX, OX⟩ := storeG (k' := kd E) (p' := (E.2.1 : Int)) (s' := s8) (A' := A8) (n' := l8.length) (c' := c8) (S' := ⟨#[]⟩) (B' := B8) (m' := 0) (d' := d8) (e' := E.2.2) (K1.on q8)
       rw [hX]
       exact ret_cellT rfl Tryz.underlying36 rgot_size rfl rfl KX.h rfl ⟨s8, A8, c8, l8, B8, d8, rfl, I8.nudge NX, (hb8).trans (NX.low.mono (by omega))⟩
theorem RRound_calls (a : VA) (k : Int) (w : World) (ha : a.At w) : Calls Tryz.prog 53 #[a.val, .int .i64 k] w (RetG (roundX a k) w) := by
 unfold roundX
 cases hok : a.ok
 · rw [one_no hok]
   exact RRound_no a k w ha hok
 · rw [one_ok hok]
   obtain ⟨p, s1, A1, c1, l1, B1, d1, e1, i1, D1, u1, q1⟩ := VA.destruct ha.rd.words hok
   rw [q1]
   have hp : a.p = (p : Int) := by rw [e1]
   rw [hp]
   generalize a.z = za at *
   subst e1
   exact RRound_z s1 A1 c1 l1 za p B1 d1 k w ⟨ha.rd, ha.cap, i1⟩ D1
abbrev NK (w : World) (g : Nat) (s : Bool) (A : Option Addr) (n c : Nat) : Prop := w.cell? ⟨g, 0, none⟩ = some (.bool s) ∧ w.cell? ⟨g, 1, none⟩ = some (.slice A n c)
theorem nk_of {W W' : World} {g : Nat} {s : Bool} {A : Option Addr} {n c : Nat} {t : TypeId} (h : Blk W g #[.bool s, .slice A n c] t) (hb : Below W.heap.size W W') : NK W' g s A n c := ⟨cell_at (h.on hb).h 0 _ rfl, cell_at (h.on hb).h 1 _ rfl⟩
theorem nk_drew {W : World} {g : Nat} {s : Bool} {A : Option Addr} {n c : Nat} (h : NK W g s A n c) : NK W.drew g s A n c := h
theorem DecRounds_calls (a : VA) (k : Int) (w : World) (ha : a.At w) (hd0 : DigW w) (m : Int) (hm : w.cell? ⟨1, 0, none⟩ = some (.int .i64 m)) :
 Calls Tryz.prog 10 #[a.val, .int .i64 k] w fun e w' => e = .returned (.bool true) ∧ Below w.heap.size w w' := by
 obtain ⟨W, hW, hbW, K0, hszW⟩ := box1 w #[.int .i64 a.k, .int .i64 a.p, .bool a.s, .slice a.A a.l.length a.c, .string a.S, .slice a.B a.m a.d] 27
 have hs := sane_c W (hd0.on hbW) m ((hbW.cell (p := ⟨1, 0, none⟩) (World.block_lt_of_cell? w _ hm)).trans hm)
 have hl := fun w5 (h : Below W.heap.size W w5) => light_c w5.heap.size [a] (w5.alloc (.cells #[.int .i64 a.k, .int .i64 a.p, .bool a.s, .slice a.A a.l.length a.c, .string a.S, .slice a.B a.m a.d] 27)) (vals_one a _ _ ⟨World.alloc_heap_new w5 _⟩ (((ha.on hbW).on h).on (al1 w5 _))) (by simp)
 have hd7 := fun W' (h : Below W.heap.size W W') => DRound_calls a k W' ((ha.on hbW).on h)
 have hr7 := fun W' (h : Below W.heap.size W W') => RRound_calls a k W' ((ha.on hbW).on h)
 obtain ⟨x, hx⟩ : ∃ x, roundX a k = x := ⟨_, rfl⟩
 rw [hx] at hd7 hr7
 have hd8 := fun W' (h : Below W.heap.size W W') => DFix_calls a W' ((ha.on hbW).on h)
 have hr8 := fun W' (h : Below W.heap.size W W') => RFix_calls a W' ((ha.on hbW).on h)
 obtain ⟨y, hy⟩ : ∃ y, fixX a = y := ⟨_, rfl⟩
 rw [hy] at hd8 hr8
 have hd9 := fun W' (h : Below W.heap.size W W') => DFloor_calls a W' ((ha.on hbW).on h)
 have hr9 := fun W' (h : Below W.heap.size W W') => RFloor_calls a W' ((ha.on hbW).on h)
 obtain ⟨u, hu⟩ : ∃ u, floorX a = u := ⟨_, rfl⟩
 rw [hu] at hd9 hr9
 have hd10 := fun W' (h : Below W.heap.size W W') => DCeil_calls a W' ((ha.on hbW).on h)
 have hr10 := fun W' (h : Below W.heap.size W W') => RCeil_calls a W' ((ha.on hbW).on h)
 obtain ⟨v, hv⟩ : ∃ v, ceilX a = v := ⟨_, rfl⟩
 rw [hv] at hd10 hr10
 obtain ⟨lb, hlb⟩ : ∃ r, [a].all lightB = r := ⟨_, rfl⟩
 rw [hlb] at hl
 clear hx hy hu hv hlb hm hd0
 replace hszW := Lib.hid hszW
 obtain ⟨x0, x1, x2, x3, x4, x5⟩ := cL6 K0.h
 cases lb
 · go_enter Tryz.func10, Tryz.ntmps10
   go_wp2_with first
    | (go_at_call 17; have hmark := b5; refine (hl _ b5).mono ?_; rintro e w6 ⟨rfl, rfl⟩)
    | (go_at_call 16; refine hs.mono ?_; rintro e w5 ⟨rfl, b5⟩; clear x0 x1 x2 x3 x4 x5; obtain ⟨x0, x1, x2, x3, x4, x5⟩ := cL6 (K0.on b5).h)
   go_ret
   exact ⟨rfl, hbW.trans ((b5.trans ((al1 w5 (.cells #[.int .i64 a.k, .int .i64 a.p, .bool a.s, .slice a.A a.l.length a.c, .string a.S, .slice a.B a.m a.d] 27)).mono b5.size)).mono hbW.size)⟩
 · go_enter Tryz.func10, Tryz.ntmps10
   go_upto_region 8 with first
    | (go_at_call 52; have hmark := p9; refine (hd10 _ p9).mono ?_; rintro e w10 ⟨s10, A10, c10, l10, rfl, I10, b10⟩; have q10 := p9.trans (b10.mono p9.size); have a10 := al1 w10 (.cells #[.bool s10, .slice A10 l10.length c10] 24); have p10 := q10.trans (a10.mono q10.size); clear x0 x1 x2 x3 x4 x5; obtain ⟨x0, x1, x2, x3, x4, x5⟩ := cL6 (K0.on p10).h)
    | (go_at_call 51; have hmark := p8; refine (hd9 _ p8).mono ?_; rintro e w9 ⟨s9, A9, c9, l9, rfl, I9, b9⟩; have q9 := p8.trans (b9.mono p8.size); have a9 := al1 w9 (.cells #[.bool s9, .slice A9 l9.length c9] 24); have p9 := q9.trans (a9.mono q9.size); clear x0 x1 x2 x3 x4 x5; obtain ⟨x0, x1, x2, x3, x4, x5⟩ := cL6 (K0.on p9).h)
    | (go_at_call 50; have hmark := p7; refine (hd8 _ p7).mono ?_; rintro e w8 ⟨s8, A8, c8, l8, rfl, I8, b8⟩; have q8 := p7.trans (b8.mono p7.size); have a8 := al1 w8 (.cells #[.bool s8, .slice A8 l8.length c8] 24); have p8 := q8.trans (a8.mono q8.size); clear x0 x1 x2 x3 x4 x5; obtain ⟨x0, x1, x2, x3, x4, x5⟩ := cL6 (K0.on p8).h)
    | (go_at_call 49; have hmark := p6; refine (hd7 _ p6).mono ?_; rintro e w7 ⟨v7, rfl, ⟨s7, A7, c7, l7, rfl, I7⟩, b7⟩; have q7 := p6.trans (b7.mono p6.size); have a7 := al1 w7 (.cells #[.int .i64 (kd x), .int .i64 (x.2.1 : Int), .bool s7, .slice A7 l7.length c7, .string ⟨#[]⟩, .slice none 0 0] 27); have p7 := q7.trans (a7.mono q7.size); clear x0 x1 x2 x3 x4 x5; obtain ⟨x0, x1, x2, x3, x4, x5⟩ := cL6 (K0.on p7).h)
    | (go_at_call 17; have hmark := b5; refine (hl _ b5).mono ?_; rintro e w6 ⟨rfl, rfl⟩; have p6 := b5.trans ((al1 w5 (.cells #[.int .i64 a.k, .int .i64 a.p, .bool a.s, .slice a.A a.l.length a.c, .string a.S, .slice a.B a.m a.d] 27)).mono b5.size); clear x0 x1 x2 x3 x4 x5; obtain ⟨x0, x1, x2, x3, x4, x5⟩ := cL6 (K0.on p6).h)
    | (go_at_call 16; refine hs.mono ?_; rintro e w5 ⟨rfl, b5⟩; clear x0 x1 x2 x3 x4 x5; obtain ⟨x0, x1, x2, x3, x4, x5⟩ := cL6 (K0.on b5).h)
   obtain ⟨W9, hW9, hb9, KW10, hsz9⟩ := box1 w10 #[.bool s10, .slice A10 l10.length c10] 24
   rw [hW9]
   have f10 := b10.trans (hb9.mono b10.size)
   have e9 := a9.trans (f10.mono a9.size)
   have f9 := b9.trans (e9.mono b9.size)
   have e8 := a8.trans (f9.mono a8.size)
   have f8 := b8.trans (e8.mono b8.size)
   have e7 := a7.trans (f8.mono a7.size)
   have KW9 := (blk_new w9 #[.bool s9, .slice A9 l9.length c9] 24).on f10
   have KW8 := (blk_new w8 #[.bool s8, .slice A8 l8.length c8] 24).on f9
   have KW7 := (blk_new w7 #[.int .i64 (kd x), .int .i64 (x.2.1 : Int), .bool s7, .slice A7 l7.length c7, .string ⟨#[]⟩, .slice none 0 0] 27).on f8
   have qW9 := q10.trans (hb9.mono q10.size)
   have KA := K0.on qW9
   replace I7 := I7.on e7
   replace I8 := I8.on e8
   replace I9 := I9.on e9
   replace I10 := I10.on hb9
   have hr7' := fun W' (h : Below W9.heap.size W9 W') => hr7 W' (qW9.trans (h.mono qW9.size))
   have hr8' := fun W' (h : Below W9.heap.size W9 W') => hr8 W' (qW9.trans (h.mono qW9.size))
   have hr9' := fun W' (h : Below W9.heap.size W9 W') => hr9 W' (qW9.trans (h.mono qW9.size))
   have hr10' := fun W' (h : Below W9.heap.size W9 W') => hr10 W' (qW9.trans (h.mono qW9.size))
   have qW := hbW.trans (qW9.mono hbW.size)
   clear x0 x1 x2 x3 x4 x5 hs hl hd7 hd8 hd9 hd10 hr7 hr8 hr9 hr10 hW9 f10 f9 f8 e9 e8 e7 hb9 qW9 b10 q10 p10 a10 b9 q9 p9 a9 b8 q8 p8 a8 b7 q7 p7 a7 p6 b5 K0 ha hbW
   generalize w10.heap.size = g10 at *
   generalize w9.heap.size = g9 at *
   generalize w8.heap.size = g8 at *
   generalize w7.heap.size = g7 at *
   have HS : ∀ W', Below W9.heap.size W9 W' → (fun w'' => VK w'' g7 (kd x) (x.2.1 : Int) s7 A7 l7.length c7 ⟨#[]⟩ none 0 0 ∧ NK w'' g8 s8 A8 l8.length c8 ∧ NK w'' g9 s9 A9 l9.length c9 ∧ NK w'' g10 s10 A10 l10.length c10 ∧ VK w'' w.heap.size a.k a.p a.s a.A a.l.length a.c a.S a.B a.m a.d) W' := fun W' q => ⟨vk_of KW7 q, nk_of KW8 q, nk_of KW9 q, nk_of KW10 q, vk_of KA q⟩
   have H0 := HS _ (Below.refl _ _)
   replace HS := Lib.hid HS
   try dsimp only at H0
   go_region_held3 (fun w'' => VK w'' g7 (kd x) (x.2.1 : Int) s7 A7 l7.length c7 ⟨#[]⟩ none 0 0 ∧ NK w'' g8 s8 A8 l8.length c8 ∧ NK w'' g9 s9 A9 l9.length c9 ∧ NK w'' g10 s10 A10 l10.length c10 ∧ VK w'' w.heap.size a.k a.p a.s a.A a.l.length a.c a.S a.B a.m a.d) ((first | (with_reducible exact H0) | (with_reducible exact ⟨vk_drew H0.1, nk_drew H0.2.1, nk_drew H0.2.2.1, nk_drew H0.2.2.2.1, vk_drew H0.2.2.2.2⟩)))
    ((first
     | (go_at_call 54; have hmark := q26; refine (whole_calls v s10 s26 A10 A26 c10 c26 l10 l26 _ (I10.on q26) I26).mono ?_; rintro e w27 ⟨rfl, b27⟩; have q27 := q26.trans (b27.mono q26.size); clear H0; have H0 := HS.out _ q27; (try dsimp only at H0))
     | (go_at_call 57; have hmark := q25; refine (hr10' _ q25).mono ?_; rintro e w26 ⟨s26, A26, c26, l26, rfl, I26, b26⟩; have q26 := q25.trans (b26.mono q25.size); clear H0; have H0 := HS.out _ q26; (try dsimp only at H0))
     | (go_at_call 54; have hmark := q24; refine (whole_calls u s9 s24 A9 A24 c9 c24 l9 l24 _ (I9.on q24) I24).mono ?_; rintro e w25 ⟨rfl, b25⟩; have q25 := q24.trans (b25.mono q24.size); clear H0; have H0 := HS.out _ q25; (try dsimp only at H0))
     | (go_at_call 56; have hmark := q23; refine (hr9' _ q23).mono ?_; rintro e w24 ⟨s24, A24, c24, l24, rfl, I24, b24⟩; have q24 := q23.trans (b24.mono q23.size); clear H0; have H0 := HS.out _ q24; (try dsimp only at H0))
     | (go_at_call 54; have hmark := q22; refine (whole_calls y s8 s22 A8 A22 c8 c22 l8 l22 _ (I8.on q22) I22).mono ?_; rintro e w23 ⟨rfl, b23⟩; have q23 := q22.trans (b23.mono q22.size); clear H0; have H0 := HS.out _ q23; (try dsimp only at H0))
     | (go_at_call 55; have hmark := q21; refine (hr8' _ q21).mono ?_; rintro e w22 ⟨s22, A22, c22, l22, rfl, I22, b22⟩; have q22 := q21.trans (b22.mono q21.size); clear H0; have H0 := HS.out _ q22; (try dsimp only at H0))
     | (go_at_call 20; have hmark := q20; refine (got_calls x s7 s20 A7 A20 c7 c20 l7 l20 B20 d20 _ (I7.on q20) I20).mono ?_; rintro e w21 ⟨rfl, b21⟩; have q21 := q20.trans (b21.mono q20.size); clear H0; have H0 := HS.out _ q21; (try dsimp only at H0))
     | (go_at_call 53; refine (hr7' _ (below_drew (Below.refl W9.heap.size W9))).mono ?_; rintro e w20 ⟨s20, A20, c20, l20, B20, d20, rfl, I20, b20⟩; have q20 := (below_drew (Below.refl W9.heap.size W9)).trans (b20.mono (below_drew (Below.refl W9.heap.size W9)).size); clear H0; have H0 := HS.out _ q20; (try dsimp only at H0))))
   go_wp2_with fail
   go_ret
   exact ⟨rfl, qW.trans (q27.mono qW.size)⟩
end Dc
end Go.Proofs.YtjghnghceeijeaaGreatDoor
