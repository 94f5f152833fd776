/-
  Contracts of the walks below.
-/
import Derived.Test.YtjghnghceeijeaaGreatDoorDn2
set_option maxRecDepth 100000
set_option maxHeartbeats 4000000
set_option linter.unusedVariables false
set_option linter.unusedSimpArgs false
namespace Go.Proofs.YtjghnghceeijeaaGreatDoor
namespace Dc
open Go.RowKit Go.Shelf Go.BigFrame Go.Proofs.YtjghnghceeijeaaGreatDoor.Nm
attribute [local go_sem] Oper.semAt_some
theorem unitsof_i (n1 : Bool) (A1 : Option Addr) (c1 : Nat) (l1 : List Nat) (z1 : Int) (p : Nat) (hp : p ≤ 20) (B1 : Option Addr) (d1 : Nat) (w : World) (I1 : IV w n1 A1 c1 l1 z1) {k : Nat} (f1 : Lz k z1) (hk : k ≤ 2000) :
 Calls Tryz.prog 33 #[(vv 3 (p : Int) n1 A1 l1.length c1 ⟨#[]⟩ B1 0 d1)] w (RetI (unitsZ z1 p) w) := by
 obtain ⟨W, hW, hbW, K0, K1, hszW⟩ := box2 w #[.int .i64 3, .int .i64 (p : Int), .bool n1, .slice A1 l1.length c1, .string ⟨#[]⟩, .slice B1 0 d1] 27 #[.bool false, .slice none 0 0] 24
 have J1 := I1.on hbW
 have hx : IntKind.i64.wrap (20 - (p : Int)) = ((20 - p : Nat) : Int) := by rw [IntKind.wrap_i64]; omega
 have hT : ∀ W' (x : Int), x = ((20 - p : Nat) : Int) → Calls Tryz.prog 35 #[.int .i64 x] W' (RetI (10 ^ (20 - p)) W') := fun W' x hx => by rw [hx]; exact Ten_i (20 - p) (by omega) W'
 have ft : Lz 3 ((10 : Int) ^ (20 - p)) := lz_ten (20 - p) (by omega)
 have hM := fun W' (h : Below W.heap.size W W') s A c l (I : IV W' s A c l (10 ^ (20 - p))) => rtimes_i n1 s A1 A c1 c l1 l z1 (10 ^ (20 - p)) W' (J1.on h) I f1 ft (by omega) (by decide)
 unfold unitsZ
 generalize (10 : Int) ^ (20 - p) = t at *
 obtain ⟨q, hq⟩ : ∃ q, 20 - p = q := ⟨_, rfl⟩
 rw [hq] at hx hT
 generalize z1 * t = m at *
 clear hq ft f1 hk I1 J1
 replace hszW := Lib.hid hszW
 go_enter Tryz.func33, Tryz.ntmps33
 go_upto_region 1 with fail
 have x1 : W.cell? ⟨w.heap.size, 1, none⟩ = some (.int .i64 (p : Int)) := cell_at K0.h 1 _ rfl
 have x2 : W.cell? ⟨w.heap.size, 2, none⟩ = some (.bool n1) := cell_at K0.h 2 _ rfl
 have x3 : W.cell? ⟨w.heap.size, 3, none⟩ = some (.slice A1 l1.length c1) := cell_at K0.h 3 _ rfl
 have hne0 : w.heap.size ≠ w.heap.size + 1 := by omega
 go_region_held3 (fun w'' => w''.cell? ⟨w.heap.size, 1, none⟩ = some (.int .i64 (p : Int)) ∧ w''.cell? ⟨w.heap.size, 2, none⟩ = some (.bool n1) ∧ w''.cell? ⟨w.heap.size, 3, none⟩ = some (.slice A1 l1.length c1)) ((first | (with_reducible exact ⟨x1, x2, x3⟩) | (with_reducible exact rd5 ⟨x1, x2, x3⟩) | (with_reducible exact ⟨set2_ne x1 hne0, set2_ne x2 hne0, set2_ne x3 hne0⟩)))
  ((first
   | (go_at_call 34; have hmark := q5; refine (hM _ q5 _ _ _ _ I5).mono ?_; rintro e w6 ⟨s6, A6, c6, l6, rfl, I6, b6⟩; have q6 := q5.trans (b6.mono q5.size); clear x1 x2 x3; have x1 : w6.cell? ⟨w.heap.size, 1, none⟩ = some (.int .i64 (p : Int)) := cell_at (K0.on q6).h 1 _ rfl; have x2 : w6.cell? ⟨w.heap.size, 2, none⟩ = some (.bool n1) := cell_at (K0.on q6).h 2 _ rfl; have x3 : w6.cell? ⟨w.heap.size, 3, none⟩ = some (.slice A1 l1.length c1) := cell_at (K0.on q6).h 3 _ rfl; obtain ⟨u0, u1⟩ := cL2 (K1.on q6).h; obtain ⟨g0, g1⟩ := fZ2 (K1.on q6).h)
   | (go_at_call 35; refine (hT _ _ rfl).mono ?_; rintro e w5 ⟨s5, A5, c5, l5, rfl, I5, b5⟩; have q5 := (below_drew (Below.refl W.heap.size W)).trans b5; clear x1 x2 x3; have x1 : w5.cell? ⟨w.heap.size, 1, none⟩ = some (.int .i64 (p : Int)) := cell_at (K0.on q5).h 1 _ rfl; have x2 : w5.cell? ⟨w.heap.size, 2, none⟩ = some (.bool n1) := cell_at (K0.on q5).h 2 _ rfl; have x3 : w5.cell? ⟨w.heap.size, 3, none⟩ = some (.slice A1 l1.length c1) := cell_at (K0.on q5).h 3 _ rfl)))
 go_wp2_with fail
 have hb6 := hbW.trans (q6.mono hbW.size)
 exact ret_cell rfl rfl rfl (set_blk (set_blk (K1.on q6).h 0 _) 1 _) (retI_end I6 (K1.on q6) hb6 (by omega))
theorem keep222 {w W : World} {g j i : Nat} {s1 s2 s3 : Bool} {A1 A2 A3 : Option Addr} {m1 m2 m3 c1 c2 c3 : Nat} {t : TypeId} (K : Blk w g #[.bool s1, .slice A1 m1 c1] t) (J : Blk w j #[.bool s2, .slice A2 m2 c2] t) (L : Blk w i #[.bool s3, .slice A3 m3 c3] t) (h : Below w.heap.size w W) :
 W.cell? ⟨g, 0, none⟩ = some (.bool s1) ∧ W.cell? ⟨g, 1, none⟩ = some (.slice A1 m1 c1) ∧ W.cell? ⟨j, 0, none⟩ = some (.bool s2) ∧ W.cell? ⟨j, 1, none⟩ = some (.slice A2 m2 c2) ∧ W.cell? ⟨i, 0, none⟩ = some (.bool s3) ∧ W.cell? ⟨i, 1, none⟩ = some (.slice A3 m3 c3) := ⟨cell_at (K.on h).h 0 _ rfl, cell_at (K.on h).h 1 _ rfl, cell_at (J.on h).h 0 _ rfl, cell_at (J.on h).h 1 _ rfl, cell_at (L.on h).h 0 _ rfl, cell_at (L.on h).h 1 _ rfl⟩
theorem cmp_eq0 {x y : Int} (h : x = y) : cmpZ x y = 0 := by unfold cmpZ; rw [if_neg (by omega), if_neg (by omega)]
theorem isz_abs {s : Bool} {l : List Nat} {z : Int} (h : IsZ s l z) : IsZ false l (z.natAbs : Int) := ⟨(decide_eq_false (by omega)).symm, by rw [h.abs, Int.natAbs_natCast]⟩
theorem nearest_c (n1 n2 n3 : Bool) (A1 A2 A3 : Option Addr) (c1 c2 c3 : Nat) (l1 l2 l3 : List Nat) (z1 z2 z3 : Int) (w : World) (I1 : IV w n1 A1 c1 l1 z1) (I2 : IV w n2 A2 c2 l2 z2) (I3 : IV w n3 A3 c3 l3 z3) (f1 : Lz 200 z1) (f2 : Lz 400 z2) (f3 : Lz 200 z3) (hd : 0 < z3) (hq : z1 = nearP z2 z3) :
 Calls Tryz.prog 32 #[iv n1 A1 l1.length c1, iv n2 A2 l2.length c2, iv n3 A3 l3.length c3] w fun e w' => e = .returned (.bool true) ∧ Below w.heap.size w w' := by
 obtain ⟨W, hW, hbW, K0, K1, K2, hszW⟩ := box3 w #[.bool n1, .slice A1 l1.length c1] 24 #[.bool n2, .slice A2 l2.length c2] 24 #[.bool n3, .slice A3 l3.length c3] 24
 have J1 := I1.on hbW
 have J2 := I2.on hbW
 have J3 := I3.on hbW
 have hsp := near_spec z2 hd
 rw [← hq] at hsp
 clear hq I1 I2 I3
 have fm := f1.mul f3
 have fo := f2.add fm.neg
 have hM := fun W' (h : Below W.heap.size W W') => rtimes_i n1 n3 A1 A3 c1 c3 l1 l3 z1 z3 W' (J1.on h) (J3.on h) f1 f3 (by decide) (by decide)
 have hN := fun W' s A c l (I : IV W' s A c l (z1 * z3)) => rminus_i s A c l (z1 * z3) W' I
 have hS := fun W' (h : Below W.heap.size W W') s A c l (I : IV W' s A c l (-(z1 * z3))) => rsum_i n2 s A2 A c2 c l2 l z2 (-(z1 * z3)) W' (J2.on h) I f2 fm.neg (by decide) (by decide)
 rw [show z2 - z1 * z3 = z2 + -(z1 * z3) from Int.sub_eq_add_neg] at hsp
 generalize z2 + -(z1 * z3) = off at *
 generalize -(z1 * z3) = nm at *
 generalize z1 * z3 = mm at *
 obtain ⟨ab, hab⟩ : ∃ a, (off.natAbs : Int) = a := ⟨_, rfl⟩
 have hT2 := fun W' s A c l (I : IV W' s A c l off) s' A' c' l' (I' : IV W' s' A' c' l' 2) => rtimes_i false s' A A' c c' l l' (off.natAbs : Int) 2 W' ⟨I.rd, I.cap, isz_abs I.isZ⟩ I' (fo.le (by omega)) (Lz.small (k := 1) (by decide) (by decide)) (by decide) (by decide)
 rw [hab] at hsp hT2
 obtain ⟨tw, htw⟩ : ∃ a, ab * 2 = a := ⟨_, rfl⟩
 rw [htw] at hT2
 have hC := fun W' (h : Below W.heap.size W W') s A c l (I : IV W' s A c l tw) => rcmp_i s n3 A A3 c c3 l l3 tw z3 W' I (J3.on h)
 obtain ⟨tt, htt⟩ : ∃ a, cmpZ tw z3 = a := ⟨_, rfl⟩
 rw [htt] at hC
 have hcase : (decide (tt < 0) = true) ∨ (decide (tt < 0) = false ∧ (tt == 0) = true ∧ z1 % 2 = 0) := by
  rcases hsp with h | ⟨h, h2⟩
  · refine .inl (decide_eq_true ?_)
    rw [← htt]
    unfold cmpZ
    rw [if_pos (by omega)]
    decide
  · have h0 : tt = 0 := by rw [← htt]; exact cmp_eq0 (by omega)
    exact .inr ⟨decide_eq_false (by omega), beq_iff_eq.2 h0, h2⟩
 replace hcase := Lib.hid hcase
 clear hsp htt htw hab fo fm f1 f2 f3 hd
 replace hszW := Lib.hid hszW
 go_enter Tryz.func32, Tryz.ntmps32
 go_upto_region 1 with fail
 clear hW
 go_cut [7] from 9 to 15 (fun pv wx => ∃ G s' A' c' l', pv = .pointer (some ⟨G, 0, none⟩) ∧ Blk wx G #[.bool s', .slice A' (List.length l') c'] 24 ∧ IV wx s' A' c' l' off ∧ Below W.heap.size W wx ∧ W.heap.size ≤ G)
 case first =>
  have x0 : W.cell? ⟨w.heap.size, 0, none⟩ = some (.bool n1) := cell_at K0.h 0 _ rfl
  have x1 : W.cell? ⟨w.heap.size, 1, none⟩ = some (.slice A1 l1.length c1) := cell_at K0.h 1 _ rfl
  have y0 : W.cell? ⟨w.heap.size + 1, 0, none⟩ = some (.bool n2) := cell_at K1.h 0 _ rfl
  have y1 : W.cell? ⟨w.heap.size + 1, 1, none⟩ = some (.slice A2 l2.length c2) := cell_at K1.h 1 _ rfl
  have z0 : W.cell? ⟨w.heap.size + 1 + 1, 0, none⟩ = some (.bool n3) := cell_at K2.h 0 _ rfl
  have z1' : W.cell? ⟨w.heap.size + 1 + 1, 1, none⟩ = some (.slice A3 l3.length c3) := cell_at K2.h 1 _ rfl
  go_region_held3 (fun w'' => w''.cell? ⟨w.heap.size, 0, none⟩ = some (.bool n1) ∧ w''.cell? ⟨w.heap.size, 1, none⟩ = some (.slice A1 l1.length c1) ∧ w''.cell? ⟨w.heap.size + 1, 0, none⟩ = some (.bool n2) ∧ w''.cell? ⟨w.heap.size + 1, 1, none⟩ = some (.slice A2 l2.length c2) ∧ w''.cell? ⟨w.heap.size + 1 + 1, 0, none⟩ = some (.bool n3) ∧ w''.cell? ⟨w.heap.size + 1 + 1, 1, none⟩ = some (.slice A3 l3.length c3)) ((first | (with_reducible exact ⟨x0, x1, y0, y1, z0, z1'⟩) | (with_reducible exact drew6 ⟨x0, x1, y0, y1, z0, z1'⟩) | (refine keep222 K0 K1 K2 ?_; (repeat' (with_reducible first | exact Below.refl _ _ | exact q6 | exact q7 | exact q8 | refine below_drew ?_ | refine below_al ?_ _ | refine below_set ?_ _ ?_)); (all_goals (first | exact q6.size | exact q7.size | exact q8.size | exact Nat.le_refl _)))))
   ((first
    | (go_at_call 46; have hmark := q7; refine (hS _ (by (repeat' (with_reducible first | exact Below.refl _ _ | exact q6 | exact q7 | exact q8 | refine below_drew ?_ | refine below_al ?_ _ | refine below_set ?_ _ ?_))) _ _ _ _ (by (repeat' (with_reducible first | exact I7 | refine iv_up ?_)))).mono ?_; rintro e w8 ⟨s8, A8, c8, l8, rfl, I8, b8⟩; have p8 : Below w7.heap.size w7 w8 := (by refine below_via ?_ b8; (repeat' (with_reducible first | exact Below.refl _ _ | exact q6 | exact q7 | exact q8 | refine below_drew ?_ | refine below_al ?_ _ | refine below_set ?_ _ ?_))); have q8 := q7.trans (p8.mono q7.size); (try (replace Ta := Ta.on p8)); (first | (have Ta : Blk w8 w7.heap.size #[.bool false, .slice none 0 0] 24 := (by with_reducible exact blk_al1 b8)) | skip); clear x0 x1 y0 y1 z0 z1'; have x0 : w8.cell? ⟨w.heap.size, 0, none⟩ = some (.bool n1) := cell_at (K0.on q8).h 0 _ rfl; have x1 : w8.cell? ⟨w.heap.size, 1, none⟩ = some (.slice A1 l1.length c1) := cell_at (K0.on q8).h 1 _ rfl; have y0 : w8.cell? ⟨w.heap.size + 1, 0, none⟩ = some (.bool n2) := cell_at (K1.on q8).h 0 _ rfl; have y1 : w8.cell? ⟨w.heap.size + 1, 1, none⟩ = some (.slice A2 l2.length c2) := cell_at (K1.on q8).h 1 _ rfl; have z0 : w8.cell? ⟨w.heap.size + 1 + 1, 0, none⟩ = some (.bool n3) := cell_at (K2.on q8).h 0 _ rfl; have z1' : w8.cell? ⟨w.heap.size + 1 + 1, 1, none⟩ = some (.slice A3 l3.length c3) := cell_at (K2.on q8).h 1 _ rfl; (try (have ta0 := cell_at Ta.h 0 _ rfl; have ta1 := cell_at Ta.h 1 _ rfl; have ta2 := frozen_at Ta.h 0; have ta3 := frozen_at Ta.h 1)))
    | (go_at_call 37; have hmark := q6; refine (hN _ _ _ _ _ (by (repeat' (with_reducible first | exact I6 | refine iv_up ?_)))).mono ?_; rintro e w7 ⟨s7, A7, c7, l7, rfl, I7, b7⟩; have p7 : Below w6.heap.size w6 w7 := (by refine below_via ?_ b7; (repeat' (with_reducible first | exact Below.refl _ _ | exact q6 | exact q7 | exact q8 | refine below_drew ?_ | refine below_al ?_ _ | refine below_set ?_ _ ?_))); have q7 := q6.trans (p7.mono q6.size); (try (replace Ta := Ta.on p7)); (first | (have Ta : Blk w7 w6.heap.size #[.bool false, .slice none 0 0] 24 := (by with_reducible exact blk_al1 b7)) | skip); clear x0 x1 y0 y1 z0 z1'; have x0 : w7.cell? ⟨w.heap.size, 0, none⟩ = some (.bool n1) := cell_at (K0.on q7).h 0 _ rfl; have x1 : w7.cell? ⟨w.heap.size, 1, none⟩ = some (.slice A1 l1.length c1) := cell_at (K0.on q7).h 1 _ rfl; have y0 : w7.cell? ⟨w.heap.size + 1, 0, none⟩ = some (.bool n2) := cell_at (K1.on q7).h 0 _ rfl; have y1 : w7.cell? ⟨w.heap.size + 1, 1, none⟩ = some (.slice A2 l2.length c2) := cell_at (K1.on q7).h 1 _ rfl; have z0 : w7.cell? ⟨w.heap.size + 1 + 1, 0, none⟩ = some (.bool n3) := cell_at (K2.on q7).h 0 _ rfl; have z1' : w7.cell? ⟨w.heap.size + 1 + 1, 1, none⟩ = some (.slice A3 l3.length c3) := cell_at (K2.on q7).h 1 _ rfl)
    | (go_at_call 34; refine (hM _ (by (repeat' (with_reducible first | exact Below.refl _ _ | exact q6 | exact q7 | exact q8 | refine below_drew ?_ | refine below_al ?_ _ | refine below_set ?_ _ ?_)))).mono ?_; rintro e w6 ⟨s6, A6, c6, l6, rfl, I6, b6⟩; have q6 : Below W.heap.size W w6 := (by refine below_via ?_ b6; (repeat' (with_reducible first | exact Below.refl _ _ | exact q6 | exact q7 | exact q8 | refine below_drew ?_ | refine below_al ?_ _ | refine below_set ?_ _ ?_))); have p6 := q6; (first | (have Ta : Blk w6 W.heap.size #[.bool false, .slice none 0 0] 24 := (by with_reducible exact blk_al1d b6)) | skip); clear x0 x1 y0 y1 z0 z1'; have x0 : w6.cell? ⟨w.heap.size, 0, none⟩ = some (.bool n1) := cell_at (K0.on q6).h 0 _ rfl; have x1 : w6.cell? ⟨w.heap.size, 1, none⟩ = some (.slice A1 l1.length c1) := cell_at (K0.on q6).h 1 _ rfl; have y0 : w6.cell? ⟨w.heap.size + 1, 0, none⟩ = some (.bool n2) := cell_at (K1.on q6).h 0 _ rfl; have y1 : w6.cell? ⟨w.heap.size + 1, 1, none⟩ = some (.slice A2 l2.length c2) := cell_at (K1.on q6).h 1 _ rfl; have z0 : w6.cell? ⟨w.heap.size + 1 + 1, 0, none⟩ = some (.bool n3) := cell_at (K2.on q6).h 0 _ rfl; have z1' : w6.cell? ⟨w.heap.size + 1 + 1, 1, none⟩ = some (.slice A3 l3.length c3) := cell_at (K2.on q6).h 1 _ rfl)))
  all_goals
   go_wp2_with fail
   go_meet
   refine ⟨_, s8, A8, c8, l8, rfl, ?_, ?_, ?_, ?_⟩
   all_goals (repeat' (with_reducible first | exact I8 | exact Ta | exact q8 | exact blk_new _ _ _ | apply blk_drew | apply iv_drew | apply below_drew | apply blk_up | apply iv_up | apply below_al | apply blk_s1 | apply blk_s0 | apply iv_set | apply below_set))
   all_goals (first | exact q6.size | exact q7.size | exact q8.size | exact Nat.le_refl _)
 case rest =>
  obtain ⟨G, s9, A9, c9, l9, rfl, KG, IG, bG, hG⟩ := hcut
  have hbc := hbW.trans (bG.mono hbW.size)
  have J1c := J1.on bG
  have K0c := K0.on bG
  have K2c := K2.on bG
  have hT' := fun W' (h : Below wc.heap.size wc W') s' A' c' l' (I' : IV W' s' A' c' l' 2) => hT2 W' _ _ _ _ (IG.on h) s' A' c' l' I'
  have hC' := fun W' (h : Below wc.heap.size wc W') s A c l (I : IV W' s A c l tw) => hC W' (bG.trans (h.mono bG.size)) s A c l I
  clear hM hN hS hT2 hC J1 J2 J3 K1
  go_upto_region 2 with fail
  have g1 : wc.cell? ⟨G, 1, none⟩ = some (.slice A9 l9.length c9) := cell_at KG.h 1 _ rfl
  have y0 : wc.cell? ⟨w.heap.size + 1 + 1, 0, none⟩ = some (.bool n3) := cell_at K2c.h 0 _ rfl
  have y1 : wc.cell? ⟨w.heap.size + 1 + 1, 1, none⟩ = some (.slice A3 l3.length c3) := cell_at K2c.h 1 _ rfl
  go_region_held3 (fun w'' => w''.cell? ⟨G, 1, none⟩ = some (.slice A9 l9.length c9) ∧ w''.cell? ⟨w.heap.size + 1 + 1, 0, none⟩ = some (.bool n3) ∧ w''.cell? ⟨w.heap.size + 1 + 1, 1, none⟩ = some (.slice A3 l3.length c3)) ((first | (with_reducible exact ⟨g1, y0, y1⟩) | (with_reducible exact rd5 ⟨g1, y0, y1⟩)))
   ((first
    | (go_at_call 47; have hmark := q11; refine (hC' _ q11 _ _ _ _ I11).mono ?_; rintro e w12 ⟨rfl, b12⟩; have q12 := q11.trans (b12.mono q11.size); clear g1 y0 y1; have g1 : w12.cell? ⟨G, 1, none⟩ = some (.slice A9 l9.length c9) := cell_at (KG.on q12).h 1 _ rfl; have y0 : w12.cell? ⟨w.heap.size + 1 + 1, 0, none⟩ = some (.bool n3) := cell_at (K2c.on q12).h 0 _ rfl; have y1 : w12.cell? ⟨w.heap.size + 1 + 1, 1, none⟩ = some (.slice A3 l3.length c3) := cell_at (K2c.on q12).h 1 _ rfl)
    | (go_at_call 34; have hmark := q10; refine (hT' _ q10 _ _ _ _ I10).mono ?_; rintro e w11 ⟨s11, A11, c11, l11, rfl, I11, b11⟩; have q11 := q10.trans (b11.mono q10.size); clear g1 y0 y1; have g1 : w11.cell? ⟨G, 1, none⟩ = some (.slice A9 l9.length c9) := cell_at (KG.on q11).h 1 _ rfl; have y0 : w11.cell? ⟨w.heap.size + 1 + 1, 0, none⟩ = some (.bool n3) := cell_at (K2c.on q11).h 0 _ rfl; have y1 : w11.cell? ⟨w.heap.size + 1 + 1, 1, none⟩ = some (.slice A3 l3.length c3) := cell_at (K2c.on q11).h 1 _ rfl)
    | (go_at_call 45; refine (rof_i 2 _ (by decide) (by decide)).mono ?_; rintro e w10 ⟨s10, A10, c10, l10, rfl, I10, b10⟩; have q10 := (below_drew (Below.refl wc.heap.size wc)).trans b10; clear g1 y0 y1; have g1 : w10.cell? ⟨G, 1, none⟩ = some (.slice A9 l9.length c9) := cell_at (KG.on q10).h 1 _ rfl; have y0 : w10.cell? ⟨w.heap.size + 1 + 1, 0, none⟩ = some (.bool n3) := cell_at (K2c.on q10).h 0 _ rfl; have y1 : w10.cell? ⟨w.heap.size + 1 + 1, 1, none⟩ = some (.slice A3 l3.length c3) := cell_at (K2c.on q10).h 1 _ rfl)))
  have hbe := hbc.trans (q12.mono hbc.size)
  have J1e := J1c.on q12
  have K0e := K0c.on q12
  clear g1 y0 y1 hT' hC' J1c K0c K2c KG IG
  rcases hcase.out with g1 | ⟨g1, g2, g3⟩
  · clear hcase
    go_wp2_with fail
    go_ret
    exact ⟨rfl, hbe⟩
  · clear hcase
    have hv := J1e.isZ.val
    rcases l1 with _ | ⟨x, l1⟩
    · have x0 := cell_at K0e.h 0 _ rfl
      have x1 := cell_at K0e.h 1 _ rfl
      clear hv J1e g3
      simp only [List.length_nil] at x1
      go_wp2_with fail
      go_ret
      exact ⟨rfl, hbe⟩
    · obtain ⟨b, o, rfl⟩ := J1e.rd.head (Nat.succ_pos _)
      have hcc : w12.cell? ⟨b, o, none⟩ = some (.int .u32 (x : Int)) := by
       obtain ⟨b', o', e, hc⟩ := J1e.rd.cell 0 (Nat.succ_pos _)
       cases e
       rwa [Nat.add_zero, List.getD_cons_zero] at hc
      have hx32 : x < 4294967296 := (words_cons.1 J1e.rd.words).1
      have hx2 : x % 2 = 0 := by
       have h1 := val_odd x l1
       rw [hv] at h1
       omega
      have r1 : (x : Int) % 2 = 0 := by omega
      have r4 : (x : Int).tmod 2 = 0 := by rw [Int.tmod_eq_emod_of_nonneg (by omega)]; exact r1
      have hl : 0 < (x :: l1).length := Nat.succ_pos _
      obtain ⟨x0, x1⟩ := cL2 K0e.h
      clear hv J1e g3 hx2
      generalize (x :: l1).length = n at *
      have hlI : decide ((0 : Int) < (n : Int)) = true := decide_eq_true (by omega)
      have hl0 : ((n : Int) == 0) = false := beq_eq_false_iff_ne.2 (by omega)
      go_wp2_with fail
      go_ret
      exact ⟨rfl, hbe⟩
end Dc
end Go.Proofs.YtjghnghceeijeaaGreatDoor
