/-
  Contracts of the walks below.
-/
import Derived.Test.YtjghnghceeijeaaGreatDoorDb25
set_option maxRecDepth 100000
set_option maxHeartbeats 4000000
set_option linter.unusedVariables false
set_option linter.unusedSimpArgs false
namespace Go.Proofs.YtjghnghceeijeaaGreatDoor
namespace Dc
open Go.RowKit Go.Shelf Go.BigFrame Go.Proofs.YtjghnghceeijeaaGreatDoor.Nm
attribute [local go_sem] Oper.semAt_some
theorem lz_ten40 (k : Nat) (hk : k ≤ 40) : Lz 5 (10 ^ k) := by
 refine Lz.of ?_
 have h1 : ((10 : Int) ^ k).natAbs = 10 ^ k := by rw [Int.natAbs_pow]; rfl
 rw [h1]
 exact Nat.lt_of_le_of_lt (Nat.pow_le_pow_right (by decide) hk) (by decide)
theorem powers1_40 (g n : Nat) (hn : n ≤ 40) (w : World) (h : Pows w g) :
 Calls Tryz.prog 150 #[.int .i64 (n : Int), .pointer (some ⟨g, 0, none⟩)] w (RetI (10 ^ n) w) := by
 by_cases h' : n < 21
 · exact powers1_z g n h' w h
 · exact powers1_big g n (by omega) (by omega) ((lz_ten40 n hn).mono (by decide)) w
theorem sqrt_units (z : Int) {p : Nat} (hp : p ≤ 20) : z * 10 ^ (40 - p) = unitsZ z p * 10 ^ 20 := by
 unfold unitsZ
 rw [Int.mul_assoc, ← Int.pow_add, show 20 - p + 20 = 40 - p by omega]
theorem rootTo_le (a n : Nat) : ∀ k, rootTo a n k ≤ k := by
 intro k
 induction k with
 | zero => exact Nat.le_refl _
 | succ k ih =>
  unfold rootTo
  split
  · exact Nat.le_refl _
  · omega
theorem rootN_le (a : Nat) : rootN a 2 ≤ a := rootTo_le a 2 a
theorem rootR_two {l : List Nat} {x : Int} (h : OkZ false l x) : rootR false l 2 = (((rootN x.natAbs 2 : Nat) : Int), 0) := by
 unfold rootR
 rw [h.ok, if_pos rfl, if_pos ⟨by decide, by decide⟩]
 simp only [Bool.not_false, Bool.true_or, if_true]
 rw [h.nat]
 rfl
theorem rd5 {W : World} {a0 a1 a2 : Addr} {x0 x1 x2 : Option Value} (h : W.cell? a0 = x0 ∧ W.cell? a1 = x1 ∧ W.cell? a2 = x2) : W.drew.cell? a0 = x0 ∧ W.drew.cell? a1 = x1 ∧ W.drew.cell? a2 = x2 := h
theorem keep3 {w W : World} {g : Nat} {k p : Int} {s : Bool} {A : Option Addr} {n c : Nat} {S : ByteArray} {B : Option Addr} {m d : Nat} {t : TypeId} (K : Blk w g #[.int .i64 k, .int .i64 p, .bool s, .slice A n c, .string S, .slice B m d] t) (h : Below w.heap.size w W) :
 W.cell? ⟨g, 1, none⟩ = some (.int .i64 p) ∧ W.cell? ⟨g, 2, none⟩ = some (.bool s) ∧ W.cell? ⟨g, 3, none⟩ = some (.slice A n c) := ⟨cell_at (K.on h).h 1 _ rfl, cell_at (K.on h).h 2 _ rfl, cell_at (K.on h).h 3 _ rfl⟩
theorem sqrt1_no (a : VA) (ga : Nat) (w : World) (Ka : Blk w ga #[.int .i64 a.k, .int .i64 a.p, .bool a.s, .slice a.A a.l.length a.c, .string a.S, .slice a.B a.m a.d] 27) (ha : a.At w) (hno : a.ok = false) :
 Calls Tryz.prog 86 #[.pointer (some ⟨ga, 0, none⟩)] w (PostV (fun _ => False) (err 2) w) := by
 obtain ⟨W, hW, hbW, K0, hszW⟩ := box1 w (vcells 0 0 false none 0 0 ⟨#[]⟩ none 0 0) 27
 have hdc := decimals_c W.heap.size [a] (W.alloc (.cells #[.int .i64 a.k, .int .i64 a.p, .bool a.s, .slice a.A a.l.length a.c, .string a.S, .slice a.B a.m a.d] 27)) (by simp) (vals_one a _ _ ⟨World.alloc_heap_new W _⟩ ((ha.on hbW).on (al1 W _))) (by simp)
 rw [decE_one, if_neg (by rw [hno]; decide)] at hdc
 clear hno
 obtain ⟨x0, x1, x2, x3, x4, x5⟩ := cL6 (Ka.on hbW).h
 clear hszW
 go_enter Tryz.func86, Tryz.ntmps86
 go_wp2_with (go_at_call 77; refine hdc.mono ?_; rintro e w5 ⟨hw, b5⟩; obtain rfl := hw.2 (by decide))
 exact ⟨rfl, PostV.no rfl (by decide) (.of_below (hbW.trans (((al1 W _).trans (b5.mono (al1 W _).size)).mono hbW.size)))⟩
theorem pows_up {W : World} {o : Obj} {g : Nat} (h : Pows W g) : Pows (W.alloc o) g := h.on (al1 W o)
theorem sqrt1_z (n1 : Bool) (A1 : Option Addr) (c1 : Nat) (l1 : List Nat) (z1 : Int) (p : Nat) (B1 : Option Addr) (d1 ga : Nat) (w : World) (Ka : Blk w ga #[.int .i64 3, .int .i64 (p : Int), .bool n1, .slice A1 l1.length c1, .string ⟨#[]⟩, .slice B1 0 d1] 27) (I1 : IV w n1 A1 c1 l1 z1) (D1 : IsD z1 p) :
 Calls Tryz.prog 86 #[.pointer (some ⟨ga, 0, none⟩)] w (PostV (fun _ => False) (if z1 < 0 then err 1 else stripE (rootUp (unitsZ z1 p * 10 ^ 20) (rootN (unitsZ z1 p * 10 ^ 20).natAbs 2))) w) := by
 obtain ⟨W, hW, hbW, K0, hszW⟩ := box1 w (vcells 0 0 false none 0 0 ⟨#[]⟩ none 0 0) 27
 have ha : (VA.mk 3 (p : Int) n1 A1 c1 l1 ⟨#[]⟩ B1 0 d1).At W := ⟨(I1.on hbW).rd, I1.cap⟩
 have hdc := decimals_c W.heap.size [(VA.mk 3 (p : Int) n1 A1 c1 l1 ⟨#[]⟩ B1 0 d1)] (W.alloc (.cells #[.int .i64 3, .int .i64 (p : Int), .bool n1, .slice A1 l1.length c1, .string ⟨#[]⟩, .slice B1 0 d1] 27)) (by simp) (vals_one (VA.mk 3 (p : Int) n1 A1 c1 l1 ⟨#[]⟩ B1 0 d1) _ _ ⟨World.alloc_heap_new W _⟩ (ha.on (al1 W _))) (by simp)
 rw [decE_one, VA.ok_made I1.isZ D1, if_pos rfl] at hdc
 have a1 := al1 W (.cells #[.int .i64 3, .int .i64 (p : Int), .bool n1, .slice A1 l1.length c1, .string ⟨#[]⟩, .slice B1 0 d1] 27)
 have J1 := I1.on hbW
 have L1 := Ka.on hbW
 obtain ⟨x0, x1, x2, x3, x4, x5⟩ := cL6 L1.h
 obtain ⟨E, hE⟩ : ∃ E, (if z1 < 0 then err 1 else stripE (rootUp (unitsZ z1 p * 10 ^ 20) (rootN (unitsZ z1 p * 10 ^ 20).natAbs 2))) = E := ⟨_, rfl⟩
 rw [hE]
 replace hE := Lib.hid hE
 replace hszW := Lib.hid hszW
 have HD := Lib.hid D1
 have Hsg := Lib.hid I1.sgn
 clear ha D1
 by_cases hz : z1 < 0
 · have hE2 := hE.out
   rw [if_pos hz] at hE2
   replace hE2 := Lib.hid hE2.symm
   obtain rfl : n1 = true := by rw [Hsg.out, decide_eq_true hz]
   clear hE hz Hsg
   go_enter Tryz.func86, Tryz.ntmps86
   go_wp2_with first
    | (go_at_call 78; have hmark := b5; refine (need_no 1 (by decide) _).mono ?_; rintro e w6 ⟨rfl, rfl⟩)
    | (go_at_call 77; refine hdc.mono ?_; rintro e w5 ⟨hw, b5⟩; obtain rfl := hw.1 rfl; have q5 := a1.trans (b5.mono a1.size); obtain ⟨x0, x1, x2, x3, x4, x5⟩ := cL6 ((Ka.on hbW).on q5).h)
   exact ⟨rfl, PostV.no hE2.out (by decide) (.of_below (hbW.trans (q5.mono hbW.size)))⟩
 · have hE2 := hE.out
   rw [if_neg hz] at hE2
   obtain rfl : n1 = false := by rw [Hsg.out, decide_eq_false hz]
   have hp20 := HD.out.hi
   obtain ⟨j, hj⟩ : ∃ j, 40 - p = j := ⟨_, rfl⟩
   have hjI : IntKind.i64.wrap (40 - (p : Int)) = (j : Int) := by rw [IntKind.wrap_i64]; omega
   have hj40 : j ≤ 40 := by omega
   rw [← sqrt_units z1 hp20, hj] at hE2
   have tj := lz_ten40 j hj40
   have T1 := fun W' g (hP : Pows W' g) => powers1_40 g j hj40 W' hP
   have ex := HD.out.lz.mul tj
   have hx0 : 0 ≤ z1 * 10 ^ j := Int.mul_nonneg (by omega) (Int.le_of_lt (ten_pos j))
   have M1 := fun W' (h : Below W.heap.size W W') s A c l (I : IV W' s A c l (10 ^ j)) => mul_z false s A1 A c1 c l1 l z1 (10 ^ j) W' (J1.on h) I (HD.out.lz.mono (by decide)) (tj.mono (by decide)) (ex.mono (by decide))
   clear hE hz Hsg hj hj40 tj hp20
   generalize z1 * 10 ^ j = x at *
   generalize (10 : Int) ^ j = tp at *
   go_enter Tryz.func86, Tryz.ntmps86
   go_upto_region 4 with (go_at_call 77; refine hdc.mono ?_; rintro e w5 ⟨hw, b5⟩; obtain rfl := hw.1 rfl; have q5 := a1.trans (b5.mono a1.size); obtain ⟨x0, x1, x2, x3, x4, x5⟩ := cL6 ((Ka.on hbW).on q5).h)
   have L5 := L1.on q5
   have lg := blk_lt L5
   clear x0 x1 x2 x3 x4 x5 hW hdc a1
   replace hx0 := Lib.hid hx0
   replace hE2 := Lib.hid hE2
   go_cut [2] from 11 to 18 (fun pv wx => ∃ G s' A' c' l', pv = .pointer (some ⟨G, 0, none⟩) ∧ Blk wx G #[.bool s', .slice A' (List.length l') c'] 24 ∧ IV wx s' A' c' l' x ∧ Below w5.heap.size w5 wx ∧ w5.heap.size ≤ G)
   case first =>
    have r0 := cell_at L5.h 1 _ rfl
    have r1 := cell_at L5.h 2 _ rfl
    have r2 := cell_at L5.h 3 _ rfl
    go_region_held3 (fun w'' => w''.cell? ⟨ga, 1, none⟩ = some (.int .i64 (p : Int)) ∧ w''.cell? ⟨ga, 2, none⟩ = some (.bool false) ∧ w''.cell? ⟨ga, 3, none⟩ = some (.slice A1 l1.length c1)) ((first | (with_reducible exact ⟨r0, r1, r2⟩) | (with_reducible exact rd5 ⟨r0, r1, r2⟩) | (refine keep3 L5 ?_; (repeat' (with_reducible first | exact Below.refl _ _ | exact q10 | exact q11 | exact q12 | refine below_drew ?_ | refine below_al ?_ _ | refine below_set ?_ _ ?_)); (all_goals (first | exact q10.size | exact q11.size | exact q12.size | exact Nat.le_refl _)))))
     ((first
      | (go_at_call 87; have hmark := q11; refine (M1 _ (q5.trans ((by (repeat' (with_reducible first | exact Below.refl _ _ | exact q10 | exact q11 | exact q12 | refine below_drew ?_ | refine below_al ?_ _ | refine below_set ?_ _ ?_)) : Below w5.heap.size w5 _).mono q5.size)) _ _ _ _ (by (repeat' (with_reducible first | exact I11 | refine iv_up ?_)))).mono ?_; rintro e w12 ⟨s12, A12, c12, l12, rfl, I12, b12⟩; have p12 : Below w11.heap.size w11 w12 := (by refine below_via ?_ b12; (repeat' (with_reducible first | exact Below.refl _ _ | exact q10 | exact q11 | exact q12 | refine below_drew ?_ | refine below_al ?_ _ | refine below_set ?_ _ ?_))); have q12 := q11.trans (p12.mono q11.size); (try (replace Ta := Ta.on p12)); (first | (have Ta : Blk w12 w11.heap.size #[.bool false, .slice none 0 0] 24 := (by with_reducible exact blk_al1 b12)) | skip); clear r0 r1 r2; have r0 : w12.cell? ⟨ga, 1, none⟩ = some (.int .i64 (p : Int)) := cell_at (L5.on q12).h 1 _ rfl; have r1 : w12.cell? ⟨ga, 2, none⟩ = some (.bool false) := cell_at (L5.on q12).h 2 _ rfl; have r2 : w12.cell? ⟨ga, 3, none⟩ = some (.slice A1 l1.length c1) := cell_at (L5.on q12).h 3 _ rfl; (try (have ta0 := cell_at Ta.h 0 _ rfl; have ta1 := cell_at Ta.h 1 _ rfl; have ta2 := frozen_at Ta.h 0; have ta3 := frozen_at Ta.h 1)))
      | (go_at_call 150; have hmark := q10; refine (T1 _ g (by (repeat' (with_reducible first | exact P10 | refine pows_up ?_)))).mono ?_; rintro e w11 ⟨s11, A11, c11, l11, rfl, I11, b11⟩; have p11 : Below w10.heap.size w10 w11 := (by refine below_via ?_ b11; (repeat' (with_reducible first | exact Below.refl _ _ | exact q10 | exact q11 | exact q12 | refine below_drew ?_ | refine below_al ?_ _ | refine below_set ?_ _ ?_))); have q11 := q10.trans (p11.mono q10.size); (try (replace Ta := Ta.on p11)); (first | (have Ta : Blk w11 w10.heap.size #[.bool false, .slice none 0 0] 24 := (by with_reducible exact blk_al1 b11)) | skip); clear r0 r1 r2; have r0 : w11.cell? ⟨ga, 1, none⟩ = some (.int .i64 (p : Int)) := cell_at (L5.on q11).h 1 _ rfl; have r1 : w11.cell? ⟨ga, 2, none⟩ = some (.bool false) := cell_at (L5.on q11).h 2 _ rfl; have r2 : w11.cell? ⟨ga, 3, none⟩ = some (.slice A1 l1.length c1) := cell_at (L5.on q11).h 3 _ rfl)
      | (go_at_call 80; refine (powers_z _).mono ?_; rintro e w10 ⟨g, rfl, P10, b10, hg10⟩; have q10 : Below w5.heap.size w5 w10 := (by refine below_via ?_ b10; (repeat' (with_reducible first | exact Below.refl _ _ | exact q10 | exact q11 | exact q12 | refine below_drew ?_ | refine below_al ?_ _ | refine below_set ?_ _ ?_))); have p10 := q10; (first | (have Ta : Blk w10 w5.heap.size #[.bool false, .slice none 0 0] 24 := (by with_reducible exact blk_al1d b10)) | skip); clear r0 r1 r2; have r0 : w10.cell? ⟨ga, 1, none⟩ = some (.int .i64 (p : Int)) := cell_at (L5.on q10).h 1 _ rfl; have r1 : w10.cell? ⟨ga, 2, none⟩ = some (.bool false) := cell_at (L5.on q10).h 2 _ rfl; have r2 : w10.cell? ⟨ga, 3, none⟩ = some (.slice A1 l1.length c1) := cell_at (L5.on q10).h 3 _ rfl)))
    all_goals
     go_wp2_with fail
     go_meet
     refine ⟨_, s12, A12, c12, l12, rfl, ?_, ?_, ?_, ?_⟩
     all_goals (repeat' (with_reducible first | exact I12 | exact Ta | exact q12 | exact blk_new _ _ _ | apply blk_drew | apply iv_drew | apply below_drew | apply blk_up | apply iv_up | apply below_al | apply blk_s1 | apply blk_s0 | apply iv_set | apply below_set))
     all_goals (first | exact q12.size | exact q11.size | exact q10.size | exact Nat.le_refl _)
   case rest =>
    obtain ⟨G, s6, A6, c6, l6, rfl, KG, IG, bG, hG⟩ := hcut
    have q6 := q5.trans (bG.mono q5.size)
    have hb6 := hbW.trans (q6.mono hbW.size)
    have lG := blk_lt KG
    have ro := IG.ok ex (by decide)
    have hs6 : s6 = false := by rw [IG.sgn]; exact decide_eq_false (by have := hx0.out; omega)
    subst hs6
    have hrt := Root_calls false 2 A6 c6 l6 wc IG.rd IG.cap
    rw [rootR_two ro] at hrt
    have er : Lz 45 ((rootN x.natAbs 2 : Nat) : Int) := ex.le (by rw [Int.natAbs_natCast]; exact rootN_le _)
    generalize ((rootN x.natAbs 2 : Nat) : Int) = r at *
    dsimp only at hrt
    obtain ⟨g0, g1⟩ := cL2 KG.h
    have HR := K0.on q6
    clear L5 J1 M1 T1 I1 Ka L1 K0 ro
    go_upto_region 6 with first
     | (go_at_call 81; have hmark := b7; refine (must_ok s7 A7 c7 l7 r _ ⟨r7, n7, z7⟩).mono ?_; rintro e w8 ⟨s8, A8, c8, l8, rfl, I8, b8⟩)
     | (go_at_call 88; refine hrt.mono ?_; rintro e w7 ⟨s7, A7, c7, l7, rfl, z7, n7, r7, b7⟩)
    obtain ⟨W9, hW9, hbW9, R0, hszW9⟩ := box1 w8 #[.bool s8, .slice A8 l8.length c8] 24
    rw [hW9]
    have q8 := b7.trans (b8.mono b7.size)
    have q9 := q8.trans (hbW9.mono q8.size)
    have J9 := IG.on q9
    have Jr := I8.on hbW9
    have KX := KG.on q9
    have KR := HR.on q9
    have hb9 := hb6.trans (q9.mono hb6.size)
    have lw8 : w.heap.size + 1 ≤ w8.heap.size := by have := q8.size; have := q6.size; have := hszW.out; omega
    have lx8 : G < w8.heap.size := Nat.lt_of_lt_of_le lG q8.size
    clear g0 g1 hrt hW9 I8 IG KG HR
    obtain ⟨g0, g1⟩ := cL2 KX.h
    obtain ⟨g2, g3⟩ := cL2 R0.h
    have e2 := er.mul er
    have e3 := (ex.mono (by decide : 45 ≤ 90)).sub e2
    have M2 := fun W' (h : Below W9.heap.size W9 W') => mul_z s8 s8 A8 A8 c8 c8 l8 l8 r r W' (Jr.on h) (Jr.on h) (er.mono (by decide)) (er.mono (by decide)) (e2.mono (by decide))
    have S2 := fun W' (h : Below W9.heap.size W9 W') s A c l (I : IV W' s A c l (r * r)) => sub_z false s A6 A c6 c l6 l x (r * r) W' (J9.on h) I (ex.mono (by decide)) (e2.mono (by decide)) (e3.mono (by decide))
    have C2 := fun W' (h : Below W9.heap.size W9 W') s A c l (I : IV W' s A c l (x - r * r)) => Compare_z s s8 A A8 c c8 l l8 (x - r * r) r W' I.rd (Jr.on h).rd I.cap Jr.cap (I.ok e3 (by decide)) ((Jr.on h).ok er (by decide))
    have hup : rootUp x r = if 0 < cmpZ (x - r * r) r then r + 1 else r := by
     unfold rootUp cmpZ
     by_cases h1 : x - r * r < r
     · rw [if_pos h1, if_neg (by omega), if_neg (by omega)]
     · rw [if_neg h1]
       by_cases h2 : r < x - r * r
       · rw [if_pos h2, if_pos h2, if_pos (by decide)]
       · simp [h2]
    have hE3 := hE2.out
    rw [hup] at hE3
    clear hup e2
    generalize x - r * r = xr at *
    generalize r * r = rr at *
    generalize cmpZ xr r = c at *
    replace hE3 := Lib.hid hE3
    go_region_held3 (fun w'' => w''.cell? ⟨G, 0, none⟩ = some (.bool false) ∧ w''.cell? ⟨G, 1, none⟩ = some (.slice A6 l6.length c6) ∧ w''.cell? ⟨w8.heap.size, 0, none⟩ = some (.bool s8) ∧ w''.cell? ⟨w8.heap.size, 1, none⟩ = some (.slice A8 l8.length c8)) ((first | (with_reducible exact ⟨g0, g1, g2, g3⟩) | exact ⟨g0, g1, g2, g3⟩))
     ((first
      | (go_at_call 89; have hmark := q11; refine (C2 _ q11 _ _ _ _ I11).mono ?_; rintro e w12 ⟨rfl, b12⟩; have q12 := q11.trans (b12.mono q11.size); clear g0 g1 g2 g3; have g0 : w12.cell? ⟨G, 0, none⟩ = some (.bool false) := cell_at (KX.on q12).h 0 _ rfl; have g1 : w12.cell? ⟨G, 1, none⟩ = some (.slice A6 l6.length c6) := cell_at (KX.on q12).h 1 _ rfl; have g2 : w12.cell? ⟨w8.heap.size, 0, none⟩ = some (.bool s8) := cell_at (R0.on q12).h 0 _ rfl; have g3 : w12.cell? ⟨w8.heap.size, 1, none⟩ = some (.slice A8 l8.length c8) := cell_at (R0.on q12).h 1 _ rfl)
      | (go_at_call 90; have hmark := q10; refine (S2 _ q10 _ _ _ _ I10).mono ?_; rintro e w11 ⟨s11, A11, c11, l11, rfl, I11, b11⟩; have q11 := q10.trans (b11.mono q10.size); clear g0 g1 g2 g3; have g0 : w11.cell? ⟨G, 0, none⟩ = some (.bool false) := cell_at (KX.on q11).h 0 _ rfl; have g1 : w11.cell? ⟨G, 1, none⟩ = some (.slice A6 l6.length c6) := cell_at (KX.on q11).h 1 _ rfl; have g2 : w11.cell? ⟨w8.heap.size, 0, none⟩ = some (.bool s8) := cell_at (R0.on q11).h 0 _ rfl; have g3 : w11.cell? ⟨w8.heap.size, 1, none⟩ = some (.slice A8 l8.length c8) := cell_at (R0.on q11).h 1 _ rfl)
      | (go_at_call 87; refine (M2 _ (below_drew (Below.refl W9.heap.size W9))).mono ?_; rintro e w10 ⟨s10, A10, c10, l10, rfl, I10, b10⟩; have q10 := (below_drew (Below.refl W9.heap.size W9)).trans b10; clear g0 g1 g2 g3; have g0 : w10.cell? ⟨G, 0, none⟩ = some (.bool false) := cell_at (KX.on q10).h 0 _ rfl; have g1 : w10.cell? ⟨G, 1, none⟩ = some (.slice A6 l6.length c6) := cell_at (KX.on q10).h 1 _ rfl; have g2 : w10.cell? ⟨w8.heap.size, 0, none⟩ = some (.bool s8) := cell_at (R0.on q10).h 0 _ rfl; have g3 : w10.cell? ⟨w8.heap.size, 1, none⟩ = some (.slice A8 l8.length c8) := cell_at (R0.on q10).h 1 _ rfl)))
    have hb12 := hb9.trans (q12.mono hb9.size)
    have Jr12 := Jr.on q12
    have R12 := R0.on q12
    have H12 := KR.on q12
    have l12' := q12.size
    clear g0 g1 g2 g3 M2 S2 C2 J9 Jr KX KR R0 I10 e3 hx0 ex
    have er1 : Lz 46 (r + 1) := er.add (Lz.small (by decide) (by decide))
    by_cases hc : 0 < c
    · have cb : decide (0 < c) = true := decide_eq_true hc
      have hE4 := hE3.out
      rw [if_pos hc] at hE4
      clear hE3 hE2
      replace hE4 := Lib.hid hE4
      go_upto_region 7 with fail
      obtain ⟨k0, k1⟩ := cL2 R12.h
      refine wp_region_any (by kernel_rfl) ?_
      refine wpAny_of_F (S := fun w'' => w''.cell? ⟨w8.heap.size, 0, none⟩ = some (.bool s8) ∧ w''.cell? ⟨w8.heap.size, 1, none⟩ = some (.slice A8 l8.length c8)) (late := [3]) _ _ _ _ ?_
      refine fT 0 6 (Value.agg #[.bool s8, .slice A8 l8.length c8]) ⟨k0, k1⟩ ?_
      try simp only [Act.put, aQ, bQ, cQ]
      refine wpAnyF_one (i := 1) (by kernel_rfl) rfl (fun K hK => ?_)
      go_simp
      go_at_call 92; refine (Of_calls 1 _ (by decide) (by decide)).mono ?_; rintro e w13 ⟨s13, A13, c13, l13, rfl, z13, n13, r13, b13⟩; have I13 : IV w13 s13 A13 c13 l13 1 := ⟨r13, n13, z13⟩; have q13 := (below_drew (Below.refl w12.heap.size w12)).trans b13; replace k0 := cell_at (R12.on q13).h 0 _ rfl; replace k1 := cell_at (R12.on q13).h 1 _ rfl
      go_wp2_with fail
      refine hK.out _ _ (Or.inr ⟨k0, k1⟩) ?_
      clear hK K
      try simp only [Act.put, aQ, bQ, cQ]
      refine wpAnyF_one (i := 2) (by kernel_rfl) rfl (fun K hK => ?_)
      go_simp
      go_at_call 91; refine (add_z s8 s13 A8 A13 c8 c13 l8 l13 r 1 _ (Jr12.on q13) I13 (er.mono (by decide)) (Lz.small (by decide) (by decide)) (er1.mono (by decide))).mono ?_; rintro e w14 ⟨s14, A14, c14, l14, rfl, I14, b14⟩; have q14 := q13.trans (b14.mono q13.size); replace k0 := cell_at (R12.on q14).h 0 _ rfl; replace k1 := cell_at (R12.on q14).h 1 _ rfl; obtain ⟨k2, k3⟩ := fZ2 (R12.on q14).h
      go_wp2_with fail
      refine hK.out _ _ (Or.inr ⟨k0, k1⟩) ?_
      clear hK K
      try simp only [Act.put, aQ, bQ, cQ]
      refine wpAnyF_one (i := 3) (by kernel_rfl) rfl (fun K hK => ?_)
      go_simp
      refine hK.out _ _ (Or.inl (by decide)) ?_
      clear hK K
      try simp only [Act.put, aQ, bQ, cQ]
      refine wpAnyF_done (by kernel_rfl) ?_ _
      obtain ⟨X1, hX1, KX1, NX1, OX1⟩ := storeI (s' := s14) (A' := A14) (n' := l14.length) (c' := c14) (R12.on q14)
      rw [hX1]
      have hE4 := hE4.out
      have I15 := I14.nudge NX1
      have H15 := OX1.one (H12.on q14) (by omega)
      have hb15 := (hb12.trans (q14.mono hb12.size)).trans (NX1.low.mono (by omega))
      clear k0 k1 k2 k3 hX1 OX1 NX1 R12 H12 Jr12
      have U1 := units_z s14 A14 c14 l14 (r + 1) X1 I15 (er1.mono (by decide))
      rw [hE4] at U1
      obtain ⟨k0, k1⟩ := cL2 KX1.h
      by_cases h0 : E.2.2 = 0
      all_goals
       go_wp2_with first
        | (go_at_call 83; refine U1.mono ?_; rintro e w9 ⟨o9, p9, p9'⟩; first | (obtain ⟨v, rfl, s9, A9, c9, l9, rfl, I9⟩ := p9 h0; rw [kd_ok h0]; have q9' := o9.full; obtain ⟨u0, u1, u2, u3, u4, u5⟩ := cL6 (H15.on q9').h; obtain ⟨f0, f1, f2, f3, f4, f5⟩ := fZ6 (H15.on q9').h) | (obtain rfl := p9' h0; have q9' := o9.full))
      · have hb13 := hb15.trans (q9'.mono hb15.size)
        obtain ⟨X, hX, KX, NX, OX⟩ := storeV (k' := 3) (p' := (E.2.1 : Int)) (s' := s9) (A' := A9) (n' := l9.length) (c' := c9) (S' := ⟨#[]⟩) (B' := none) (m' := 0) (d' := 0) (H15.on q9')
        rw [hX]
        exact ret_cellT rfl Tryz.underlying27 val_size rfl rfl KX.h rfl ⟨.of_below (hb13.trans (NX.low.mono (by omega))), fun _ => ⟨_, rfl, s9, A9, c9, l9, by rw [kd_ok h0], I9.nudge NX⟩, fun h => absurd h0 h⟩
      · exact ⟨rfl, .of_below (hb15.trans (q9'.mono hb15.size)), fun h => absurd h h0, fun _ => rfl⟩
    · have cb : decide (0 < c) = false := decide_eq_false hc
      have hE4 := hE3.out
      rw [if_neg hc] at hE4
      clear hE3 hE2
      have U1 := units_z s8 A8 c8 l8 r w12 Jr12 (er.mono (by decide))
      rw [hE4] at U1
      obtain ⟨k0, k1⟩ := cL2 R12.h
      by_cases h0 : E.2.2 = 0
      all_goals
       go_wp2_with first
        | (go_at_call 83; refine U1.mono ?_; rintro e w9 ⟨o9, p9, p9'⟩; first | (obtain ⟨v, rfl, s9, A9, c9, l9, rfl, I9⟩ := p9 h0; rw [kd_ok h0]; have q9' := o9.full; obtain ⟨u0, u1, u2, u3, u4, u5⟩ := cL6 (H12.on q9').h; obtain ⟨f0, f1, f2, f3, f4, f5⟩ := fZ6 (H12.on q9').h) | (obtain rfl := p9' h0; have q9' := o9.full))
      · have hb13 := hb12.trans (q9'.mono hb12.size)
        obtain ⟨X, hX, KX, NX, OX⟩ := storeV (k' := 3) (p' := (E.2.1 : Int)) (s' := s9) (A' := A9) (n' := l9.length) (c' := c9) (S' := ⟨#[]⟩) (B' := none) (m' := 0) (d' := 0) (H12.on q9')
        rw [hX]
        exact ret_cellT rfl Tryz.underlying27 val_size rfl rfl KX.h rfl ⟨.of_below (hb13.trans (NX.low.mono (by omega))), fun _ => ⟨_, rfl, s9, A9, c9, l9, by rw [kd_ok h0], I9.nudge NX⟩, fun h => absurd h0 h⟩
      · exact ⟨rfl, .of_below (hb12.trans (q9'.mono hb12.size)), fun h => absurd h h0, fun _ => rfl⟩
theorem sqrt1_all (a : VA) (ga : Nat) (w : World) (Ka : Blk w ga #[.int .i64 a.k, .int .i64 a.p, .bool a.s, .slice a.A a.l.length a.c, .string a.S, .slice a.B a.m a.d] 27) (ha : a.At w) :
 Calls Tryz.prog 86 #[.pointer (some ⟨ga, 0, none⟩)] w (PostV (fun _ => False) (sqrtX a) w) := by
 unfold sqrtX
 cases hok : a.ok
 · rw [one_no hok]
   exact sqrt1_no a ga w Ka ha hok
 · rw [one_ok hok]
   obtain ⟨p, s1, A1, c1, l1, B1, d1, e1, i1, D1, u1, -⟩ := VA.destruct ha.rd.words hok
   rw [u1]
   generalize a.z = za at *
   subst e1
   exact sqrt1_z s1 A1 c1 l1 za p B1 d1 ga w Ka ⟨ha.rd, ha.cap, i1⟩ D1
theorem DSqrt_calls (a : VA) (w : World) (ha : a.At w) :
 Calls Tryz.prog 19 #[a.val] w (RetV (sqrtX a) w) := by
 have hmf := mkf
 obtain ⟨W, hW, hbW, K0, K1, hszW⟩ := box2 w #[.int .i64 a.k, .int .i64 a.p, .bool a.s, .slice a.A a.l.length a.c, .string a.S, .slice a.B a.m a.d] 27 (vcells 0 0 false none 0 0 ⟨#[]⟩ none 0 0) 27
 have hv := value_calls (fun _ => False) 86 #[.pointer (some ⟨w.heap.size, 0, none⟩)] (enters_of Tryz.func86 (by kernel_rfl) rfl) (sqrtX a) (bare_one (bare_if (bare_err 1) (bare_strip _))) W (fun _ h => h.elim) (fun _ => True) (fun W' h => Calls.mono (sqrt1_all a _ W' (K0.on h) ((ha.on hbW).on h)) fun _ _ h => ⟨h, trivial⟩)
 obtain ⟨x, hx⟩ : ∃ x, sqrtX a = x := ⟨_, rfl⟩
 rw [hx] at hv ⊢
 obtain ⟨z, p, er⟩ := x
 dsimp only at hv
 clear hx
 replace hszW := Lib.hid hszW
 go_enter Tryz.func19, Tryz.ntmps19
 go_wp2_with (go_at_call 75; refine hv.mono ?_; rintro e w5 ⟨⟨v, rfl, s5, A5, c5, l5, rfl, I5⟩, o5, -⟩; have K5 := K1.on o5.full; obtain ⟨u0, u1, u2, u3, u4, u5⟩ := cL6 K5.h; obtain ⟨f0, f1, f2, f3, f4, f5⟩ := fZ6 K5.h)
 obtain ⟨X, hX, KX, NX, OX⟩ := storeV (k' := kd (z, p, er)) (p' := (p : Int)) (s' := s5) (A' := A5) (n' := l5.length) (c' := c5) (S' := ⟨#[]⟩) (B' := none) (m' := 0) (d' := 0) K5
 rw [hX]
 have hb5 := hbW.trans (o5.full.mono hbW.size)
 exact ret_cellT_tmp rfl Tryz.underlying27 val_size rfl rfl KX.h rfl ⟨_, rfl, ⟨s5, A5, c5, l5, rfl, I5.nudge NX⟩, hb5.trans (NX.low.mono (by omega))⟩
set_option exponentiation.threshold 10000 in
theorem lz_ten_big (k : Nat) (hk : k ≤ 2820) : Lz 294 (10 ^ k) := by
 refine Lz.of ?_
 have h1 : ((10 : Int) ^ k).natAbs = 10 ^ k := by rw [Int.natAbs_pow]; rfl
 rw [h1]
 have e1 : (10 : Nat) ^ 2820 = (10 ^ 3) ^ 940 := by rw [← Nat.pow_mul]
 have e2 : (2 : Nat) ^ 9400 = (2 ^ 10) ^ 940 := by rw [← Nat.pow_mul]
 have e3 : BB ^ 294 = 2 ^ 9408 := by rw [show BB = 2 ^ 32 from rfl, ← Nat.pow_mul]
 rw [e3]
 refine Nat.lt_of_le_of_lt (Nat.pow_le_pow_right (by decide) hk) ?_
 rw [e1]
 refine Nat.lt_of_le_of_lt (Nat.pow_le_pow_left (show 10 ^ 3 ≤ 2 ^ 10 by decide) 940) ?_
 rw [← e2]
 exact Nat.pow_lt_pow_right (by decide) (by decide)
theorem powers1_any (g n : Nat) (hn : n ≤ 2820) (w : World) (h : Pows w g) :
 Calls Tryz.prog 150 #[.int .i64 (n : Int), .pointer (some ⟨g, 0, none⟩)] w (RetI (10 ^ n) w) := by
 by_cases h' : n < 21
 · exact powers1_z g n h' w h
 · exact powers1_big g n (by omega) (by omega) ((lz_ten_big n hn).mono (by decide)) w
theorem pow_ne {z : Int} (h : z ≠ 0) (t : Nat) : z ^ t ≠ 0 := by
 induction t with
 | zero => rw [Int.pow_zero]; decide
 | succ t ih => rw [Int.pow_succ]; exact fun h' => (Int.mul_eq_zero.1 h').elim ih h
theorem pow1_z (n1 : Bool) (A1 : Option Addr) (c1 : Nat) (l1 : List Nat) (z1 : Int) (p : Nat) (n : Int) (hn1 : -9223372036854775808 ≤ n) (hn2 : n < 9223372036854775808) (B1 : Option Addr) (d1 ga gn : Nat) (w : World) (Ka : Blk w ga #[.int .i64 3, .int .i64 (p : Int), .bool n1, .slice A1 l1.length c1, .string ⟨#[]⟩, .slice B1 0 d1] 27) (Kk : Blk w gn #[.int .i64 n] 3) (I1 : IV w n1 A1 c1 l1 z1) (D1 : IsD z1 p) (hk0 : ¬ n < -9600) (hk1 : ¬ 9600 < n) (hz : ¬ (n < 0 ∧ z1 = 0)) (hn0 : n < 0) (hmm : ¬ 2800 < p * n.natAbs) (hff : (lim (z1 ^ n.natAbs).natAbs).length ≤ 300) :
 Calls Tryz.prog 76 #[.pointer (some ⟨ga, 0, none⟩), .pointer (some ⟨gn, 0, none⟩)] w (PostV (fun _ => False) (if n < -9600 ∨ 9600 < n then err 1 else if n < 0 ∧ z1 = 0 then err 20 else if 2800 < p * n.natAbs then err 3 else if (lim (z1 ^ n.natAbs).natAbs).length ≤ 300 then (if n < 0 then stripE (nearZ (10 ^ (p * n.natAbs + 20)) (z1 ^ n.natAbs)) else stripE (nearZ (z1 ^ n.natAbs * 10 ^ 20) (10 ^ (p * n.natAbs)))) else err 3) w) := by
 obtain ⟨W, hW, hbW, K0, hszW⟩ := box1 w (vcells 0 0 false none 0 0 ⟨#[]⟩ none 0 0) 27
 have ha : (VA.mk 3 (p : Int) n1 A1 c1 l1 ⟨#[]⟩ B1 0 d1).At W := ⟨(I1.on hbW).rd, I1.cap⟩
 have hdc := decimals_c W.heap.size [(VA.mk 3 (p : Int) n1 A1 c1 l1 ⟨#[]⟩ B1 0 d1)] (W.alloc (.cells #[.int .i64 3, .int .i64 (p : Int), .bool n1, .slice A1 l1.length c1, .string ⟨#[]⟩, .slice B1 0 d1] 27)) (by simp) (vals_one (VA.mk 3 (p : Int) n1 A1 c1 l1 ⟨#[]⟩ B1 0 d1) _ _ ⟨World.alloc_heap_new W _⟩ (ha.on (al1 W _))) (by simp)
 rw [decE_one, VA.ok_made I1.isZ D1, if_pos rfl] at hdc
 have a1 := al1 W (.cells #[.int .i64 3, .int .i64 (p : Int), .bool n1, .slice A1 l1.length c1, .string ⟨#[]⟩, .slice B1 0 d1] 27)
 have J1 := I1.on hbW
 have L1 := Ka.on hbW
 have Lk := Kk.on hbW
 obtain ⟨x0, x1, x2, x3, x4, x5⟩ := cL6 L1.h
 have y0 := cell_at Lk.h 0 _ rfl
 obtain ⟨E, hE⟩ : ∃ E, (if n < -9600 ∨ 9600 < n then err 1 else if n < 0 ∧ z1 = 0 then err 20 else if 2800 < p * n.natAbs then err 3 else if (lim (z1 ^ n.natAbs).natAbs).length ≤ 300 then (if n < 0 then stripE (nearZ (10 ^ (p * n.natAbs + 20)) (z1 ^ n.natAbs)) else stripE (nearZ (z1 ^ n.natAbs * 10 ^ 20) (10 ^ (p * n.natAbs)))) else err 3) = E := ⟨_, rfl⟩
 rw [hE]
 replace hE := Lib.hid hE
 replace hszW := Lib.hid hszW
 have HD := Lib.hid D1
 replace hmm := Lib.hid hmm
 replace hff := Lib.hid hff
 have hzc := fun W' (h : Below W.heap.size W W') => zero_c n1 A1 c1 l1 z1 W' (J1.on h)
 replace hn1 := Lib.hid hn1
 replace hn2 := Lib.hid hn2
 clear ha D1
 have hE1 := hE.out
 rw [if_neg (by omega)] at hE1
 replace hE := Lib.hid hE1
 have kb : decide (n < -9600) = false := decide_eq_false hk0
 have kc : decide (9600 < n) = false := decide_eq_false hk1
 obtain ⟨t, ht⟩ : ∃ t, n.natAbs = t := ⟨_, rfl⟩
 obtain ⟨m, hm⟩ : ∃ m, p * t = m := ⟨_, rfl⟩
 have ht96 : t ≤ 9600 := by omega
 have hm0 : m ≤ 20 * 9600 := by rw [← hm]; exact Nat.mul_le_mul HD.out.hi ht96
 rw [ht, hm] at hE1
 have hwn : IntKind.i64.wrap (-n) = -n := by rw [IntKind.wrap_i64]; omega
 have hmx : max n (-n) = (t : Int) := by omega
 have hpt : IntKind.i64.wrap ((p : Int) * (t : Int)) = (m : Int) := by
  have : (p : Int) * (t : Int) = (m : Int) := by rw [← hm]; rfl
  rw [this, IntKind.wrap_i64]; omega
 clear hE
 have hE := Lib.hid hE1
 clear hE1
 have hE1 := hE.out
 rw [if_neg hz] at hE1
 clear hE
 have hE := Lib.hid hE1
 clear hE1
 have hz1 : n < 0 → z1 ≠ 0 := fun h h' => hz ⟨h, h'⟩
 clear hz
 have kd' : decide (n < 0) = true := decide_eq_true hn0
 rw [decide_eq_false (hz1 hn0)] at hzc
 have hzn : Hid (z1 ≠ 0) := hz1 hn0
 clear hz1
 have hm28 : ¬ 2800 < m := by rw [← hm, ← ht]; exact hmm.out
 have ke : decide ((2800 : Int) < (m : Int)) = false := decide_eq_false (by omega)
 have hE1 := hE.out
 rw [if_neg hm28] at hE1
 clear hE
 obtain ⟨pw, hpw⟩ : ∃ pw, z1 ^ t = pw := ⟨_, rfl⟩
 rw [hpw] at hE1
 have hPow := fun W' (h : Below W.heap.size W W') => Pow_calls n1 (t : Int) A1 c1 l1 W' (J1.on h).rd J1.cap
 have hR : powR n1 l1 (t : Int) = fitZ pw := by
  rw [powR_z (I1.ok HD.out.lz (by decide)), if_pos ⟨by omega, by omega⟩, Int.toNat_natCast, hpw]
 rw [hR] at hPow
 have hpwn : pw ≠ 0 := by rw [← hpw]; exact pow_ne (hzn.out) t
 have hfit : (lim pw.natAbs).length ≤ 300 := by rw [← hpw, ← ht]; exact hff.out
 clear hR hpw
 have hF : fitZ pw = (pw, 0) := by unfold fitZ; rw [if_pos hfit]
 rw [hF] at hPow
 rw [if_pos hfit] at hE1
 have lpw : Lz 300 pw := ⟨hfit⟩
 have hpw0 : Hid (pw ≠ 0) := hpwn
 dsimp only at hPow
 clear hF hfit
 replace hE1 := Lib.hid hE1
 go_enter Tryz.func76, Tryz.ntmps76
 go_upto_region 10 with first
  | (go_at_call 80; have hmark := q6; refine (powers_z _).mono ?_; rintro e w7 ⟨g, rfl, P7, b7, hg7⟩; have q7 := q6.trans (b7.mono q6.size); have y0 := cell_at (Lk.on q7).h 0 _ rfl; obtain ⟨x0, x1, x2, x3, x4, x5⟩ := cL6 (L1.on q7).h)
  | (go_at_call 79; have hmark := q5; refine (hzc _ q5).mono ?_; rintro e w6 ⟨rfl, b6⟩; have q6 := q5.trans (b6.mono q5.size); have y0 := cell_at (Lk.on q6).h 0 _ rfl; obtain ⟨x0, x1, x2, x3, x4, x5⟩ := cL6 (L1.on q6).h)
  | (go_at_call 77; refine hdc.mono ?_; rintro e w5 ⟨hw, b5⟩; obtain rfl := hw.1 rfl; have q5 := a1.trans (b5.mono a1.size); have y0 := cell_at (Lk.on q5).h 0 _ rfl; obtain ⟨x0, x1, x2, x3, x4, x5⟩ := cL6 (L1.on q5).h)
 have LX := L1.on q7
 have LK := Lk.on q7
 have HX := K0.on q7
 have hb7 := hbW.trans (q7.mono hbW.size)
 have hPow2 := fun W' (h : Below w7.heap.size w7 W') => hPow W' (q7.trans (h.mono q7.size))
 have lw7 : w.heap.size + 1 ≤ w7.heap.size := by have := q7.size; have := hszW.out; omega
 clear x0 x1 x2 x3 x4 x5 y0 hdc a1 hPow hW L1 Lk J1 K0 Ka Kk
 go_cut [5, 6] from 36 to 46 (fun pv pm wx => ∃ G s' A' c' l', pv = .pointer (some ⟨G, 0, none⟩) ∧ pm = .int .i64 (m : Int) ∧ Blk wx G #[.bool s', .slice A' (List.length l') c'] 24 ∧ IV wx s' A' c' l' pw ∧ Below w7.heap.size w7 wx ∧ w7.heap.size ≤ G)
 case first =>
  have r0 := cell_at LX.h 1 _ rfl
  have r1 := cell_at LX.h 2 _ rfl
  have r2 := cell_at LX.h 3 _ rfl
  go_region_held3 (fun w'' => w''.cell? ⟨ga, 1, none⟩ = some (.int .i64 (p : Int)) ∧ w''.cell? ⟨ga, 2, none⟩ = some (.bool n1) ∧ w''.cell? ⟨ga, 3, none⟩ = some (.slice A1 l1.length c1)) ((first | (with_reducible exact ⟨r0, r1, r2⟩) | (with_reducible exact rd5 ⟨r0, r1, r2⟩) | (refine keep3 LX ?_; (repeat' (with_reducible first | exact Below.refl _ _ | exact q30 | exact q31 | refine below_drew ?_ | refine below_al ?_ _ | refine below_set ?_ _ ?_)); (all_goals (first | exact q30.size | exact q31.size | exact Nat.le_refl _)))))
   ((first
    | (go_at_call 81; have hmark := q30; refine (must_ok s30 A30 c30 l30 pw _ (by (repeat' (with_reducible first | exact I30 | refine iv_up ?_)))).mono ?_; rintro e w31 ⟨s31, A31, c31, l31, rfl, I31, b31⟩; have p31 : Below w30.heap.size w30 w31 := (by refine below_via ?_ b31; (repeat' (with_reducible first | exact Below.refl _ _ | exact q30 | exact q31 | refine below_drew ?_ | refine below_al ?_ _ | refine below_set ?_ _ ?_))); have q31 := q30.trans (p31.mono q30.size); (try (replace Ta := Ta.on p31)); (first | (have Ta : Blk w31 w30.heap.size #[.bool false, .slice none 0 0] 24 := (by with_reducible exact blk_al1 b31)) | skip); clear r0 r1 r2; have r0 : w31.cell? ⟨ga, 1, none⟩ = some (.int .i64 (p : Int)) := cell_at (LX.on q31).h 1 _ rfl; have r1 : w31.cell? ⟨ga, 2, none⟩ = some (.bool n1) := cell_at (LX.on q31).h 2 _ rfl; have r2 : w31.cell? ⟨ga, 3, none⟩ = some (.slice A1 l1.length c1) := cell_at (LX.on q31).h 3 _ rfl; (try (have ta0 := cell_at Ta.h 0 _ rfl; have ta1 := cell_at Ta.h 1 _ rfl; have ta2 := frozen_at Ta.h 0; have ta3 := frozen_at Ta.h 1)))
    | (go_at_call 82; refine (hPow2 _ (by (repeat' (with_reducible first | exact Below.refl _ _ | exact q30 | exact q31 | refine below_drew ?_ | refine below_al ?_ _ | refine below_set ?_ _ ?_)))).mono ?_; rintro e w30 ⟨s30, A30, c30, l30, rfl, z30, n30, r30, b30⟩; have I30 : IV w30 s30 A30 c30 l30 pw := ⟨r30, n30, z30⟩; have q30 : Below w7.heap.size w7 w30 := (by refine below_via ?_ b30; (repeat' (with_reducible first | exact Below.refl _ _ | exact q30 | exact q31 | refine below_drew ?_ | refine below_al ?_ _ | refine below_set ?_ _ ?_))); have p30 := q30; (first | (have Ta : Blk w30 w7.heap.size #[.bool false, .slice none 0 0] 24 := (by with_reducible exact blk_al1d b30)) | skip); clear r0 r1 r2; have r0 : w30.cell? ⟨ga, 1, none⟩ = some (.int .i64 (p : Int)) := cell_at (LX.on q30).h 1 _ rfl; have r1 : w30.cell? ⟨ga, 2, none⟩ = some (.bool n1) := cell_at (LX.on q30).h 2 _ rfl; have r2 : w30.cell? ⟨ga, 3, none⟩ = some (.slice A1 l1.length c1) := cell_at (LX.on q30).h 3 _ rfl)))
  all_goals
   go_wp2_with fail
   go_meet
   refine ⟨_, s31, A31, c31, l31, rfl, rfl, ?_, ?_, ?_, ?_⟩
   all_goals (repeat' (with_reducible first | exact I31 | exact Ta | exact q31 | exact blk_new _ _ _ | apply blk_drew | apply iv_drew | apply below_drew | apply blk_up | apply iv_up | apply below_al | apply blk_s1 | apply blk_s0 | apply iv_set | apply below_set))
   all_goals (first | exact q31.size | exact q30.size | exact Nat.le_refl _)
 case rest =>
  obtain ⟨G, s8, A8, c8, l8, rfl, rfl, KG, IG, bG, hG⟩ := hcut
  have P8 := P7.on bG
  have H8 := HX.on bG
  have hb8 := hb7.trans (bG.mono hb7.size)
  have y0 := cell_at (LK.on bG).h 0 _ rfl
  have hwG : w.heap.size < G := by omega
  clear LX LK HX hPow2 P7 I1
  have hE4 := hE1.out
  rw [if_pos hn0] at hE4
  have hma : IntKind.i64.wrap ((m : Int) + 20) = ((m + 20 : Nat) : Int) := by rw [IntKind.wrap_i64]; omega
  have hmb : (m : Int) + 20 = ((m + 20 : Nat) : Int) := by omega
  have hmc : IntKind.i64.wrap (((m + 20 : Nat) : Int)) = ((m + 20 : Nat) : Int) := by rw [IntKind.wrap_i64]; omega
  have pw0 : pw ≠ 0 := hpw0.out
  have tb := lz_ten_big (m + 20) (by omega)
  have T1 := fun W' (h : Below wc.heap.size wc W') => powers1_any g (m + 20) (by omega) W' (P8.on h)
  have N1 := fun W' (h : Below wc.heap.size wc W') s A c l (I : IV W' s A c l (10 ^ (m + 20))) => nearest_z s s8 A A8 c c8 l l8 (10 ^ (m + 20)) pw W' I (IG.on h) (tb.mono (by decide)) lpw pw0
  have e4 := tb.near pw0
  have U1 := fun W' s A c l (I : IV W' s A c l (nearZ (10 ^ (m + 20)) pw)) => units_z s A c l (nearZ (10 ^ (m + 20)) pw) W' I (e4.mono (by decide))
  rw [hE4] at U1
  clear hE4 hE1 tb e4 pw0 hpw0
  generalize nearZ (10 ^ (m + 20)) pw = nz at *
  generalize (10 : Int) ^ (m + 20) = tp at *
  generalize m + 20 = m20 at *
  go_upto_region 12 with fail
  obtain ⟨g0, g1⟩ := cL2 KG.h
  clear y0
  refine wp_region_any (by kernel_rfl) ?_
  refine pT 0 (Value.func (Fn.func 150) #[] #[Value.pointer (some ⟨g, 0, none⟩)]) ?_
  try simp only [Act.put, aQ, bQ, cQ]
  refine pT 1 (Value.int .i64 (m : Int)) ?_
  try simp only [Act.put, aQ, bQ, cQ]
  refine pT 2 (Value.int .i64 (m20 : Int)) ?_
  try simp only [Act.put, aQ, bQ, cQ]
  refine wpAny_of_F (S := fun w'' => w''.cell? ⟨G, 0, none⟩ = some (.bool s8) ∧ w''.cell? ⟨G, 1, none⟩ = some (.slice A8 l8.length c8)) (late := [7]) _ _ _ _ ?_
  refine fT 4 6 (Value.agg #[.bool s8, .slice A8 l8.length c8]) ⟨g0, g1⟩ ?_
  try simp only [Act.put, aQ, bQ, cQ]
  refine wpAnyF_one (i := 3) (by kernel_rfl) rfl (fun K hK => ?_)
  go_simp
  go_at_call 150; refine (T1 _ (below_drew (Below.refl wc.heap.size wc))).mono ?_; rintro e w11 ⟨s11, A11, c11, l11, rfl, I11, b11⟩; have q11 := (below_drew (Below.refl wc.heap.size wc)).trans b11; replace g0 := cell_at (KG.on q11).h 0 _ rfl; replace g1 := cell_at (KG.on q11).h 1 _ rfl
  go_wp2_with fail
  refine hK.out _ _ (Or.inr ⟨g0, g1⟩) ?_
  clear hK K
  try simp only [Act.put, aQ, bQ, cQ]
  refine wpAnyF_one (i := 5) (by kernel_rfl) rfl (fun K hK => ?_)
  go_simp
  go_at_call 84; refine (N1 _ q11 _ _ _ _ I11).mono ?_; rintro e w12 ⟨s12, A12, c12, l12, rfl, I12, b12⟩; have q12 := q11.trans (b12.mono q11.size); replace g0 := cell_at (KG.on q12).h 0 _ rfl; replace g1 := cell_at (KG.on q12).h 1 _ rfl
  go_wp2_with fail
  refine hK.out _ _ (Or.inr ⟨g0, g1⟩) ?_
  clear hK K
  try simp only [Act.put, aQ, bQ, cQ]
  refine wpAnyF_one (i := 6) (by kernel_rfl) rfl (fun K hK => ?_)
  go_simp
  go_at_call 83; refine (U1 _ _ _ _ _ I12).mono ?_; rintro e w13 ⟨o13, p13, p13'⟩; have q13 := q12.trans (o13.full.mono q12.size)
  have hb13 := hb8.trans (q13.mono hb8.size)
  by_cases h0 : E.2.2 = 0
  · obtain ⟨v, rfl, s13, A13, c13, l13, rfl, I13⟩ := p13 h0
    rw [kd_ok h0]
    have K13 := H8.on q13
    replace g0 := cell_at (KG.on q13).h 0 _ rfl; replace g1 := cell_at (KG.on q13).h 1 _ rfl
    go_wp2_with fail
    refine hK.out _ _ (Or.inr ⟨g0, g1⟩) ?_
    clear hK K
    try simp only [Act.put, aQ, bQ, cQ]
    obtain ⟨ka0, ka1, ka2, ka3, ka4, ka5⟩ := cL6 K13.h
    obtain ⟨kb0, kb1, kb2, kb3, kb4, kb5⟩ := fZ6 K13.h
    refine wpAnyF_one (i := 7) (by kernel_rfl) rfl (fun K hK => ?_)
    go_simp
    refine hK.out _ _ (Or.inl (by decide)) ?_
    clear hK K
    try simp only [Act.put, aQ, bQ, cQ]
    refine wpAnyF_done (by kernel_rfl) ?_ _
    obtain ⟨X, hX, KX, NX, OX⟩ := storeV (k' := 3) (p' := (E.2.1 : Int)) (s' := s13) (A' := A13) (n' := l13.length) (c' := c13) (S' := ⟨#[]⟩) (B' := none) (m' := 0) (d' := 0) K13
    rw [hX]
    go_wp2_with fail
    exact ret_cellT rfl Tryz.underlying27 val_size rfl rfl KX.h rfl ⟨.of_below (hb13.trans (NX.low.mono (by omega))), fun _ => ⟨_, rfl, s13, A13, c13, l13, by rw [kd_ok h0], I13.nudge NX⟩, fun h => absurd h0 h⟩
  · obtain rfl := p13' h0
    go_wp2_with fail
    exact ⟨rfl, .of_below hb13, fun h => absurd h h0, fun _ => rfl⟩
theorem pow1_all (a : VA) (n : Int) (hn1 : -9223372036854775808 ≤ n) (hn2 : n < 9223372036854775808) (ga gn : Nat) (w : World) (Ka : Blk w ga #[.int .i64 a.k, .int .i64 a.p, .bool a.s, .slice a.A a.l.length a.c, .string a.S, .slice a.B a.m a.d] 27) (Kk : Blk w gn #[.int .i64 n] 3) (ha : a.At w) (hok : a.ok = true) (hk0 : ¬ n < -9600) (hk1 : ¬ 9600 < n) (hz : ¬ (n < 0 ∧ a.z = 0)) (hn0 : n < 0) (hmm : ¬ 2800 < a.q * n.natAbs) (hff : (lim (a.z ^ n.natAbs).natAbs).length ≤ 300) :
 Calls Tryz.prog 76 #[.pointer (some ⟨ga, 0, none⟩), .pointer (some ⟨gn, 0, none⟩)] w (PostV (fun _ => False) (powX a n) w) := by
 unfold powX
 rw [one_ok hok]
 obtain ⟨p, s1, A1, c1, l1, B1, d1, e1, i1, D1, -, q1⟩ := VA.destruct ha.rd.words hok
 rw [q1] at hmm ⊢
 clear hok
 generalize a.z = za at *
 subst e1
 exact pow1_z s1 A1 c1 l1 za p n hn1 hn2 B1 d1 ga gn w Ka Kk ⟨ha.rd, ha.cap, i1⟩ D1 hk0 hk1 hz hn0 hmm hff
theorem DPow_calls (a : VA) (n : Int) (hn1 : -9223372036854775808 ≤ n) (hn2 : n < 9223372036854775808) (w : World) (ha : a.At w) (hok : a.ok = true) (hk0 : ¬ n < -9600) (hk1 : ¬ 9600 < n) (hz : ¬ (n < 0 ∧ a.z = 0)) (hn0 : n < 0) (hmm : ¬ 2800 < a.q * n.natAbs) (hff : (lim (a.z ^ n.natAbs).natAbs).length ≤ 300) :
 Calls Tryz.prog 18 #[a.val, .int .i64 n] w (RetV (powX a n) w) := by
 have hmf := mkf
 obtain ⟨W, hW, hbW, K0, K1, K2, hszW⟩ := box3 w #[.int .i64 a.k, .int .i64 a.p, .bool a.s, .slice a.A a.l.length a.c, .string a.S, .slice a.B a.m a.d] 27 #[.int .i64 n] 3 (vcells 0 0 false none 0 0 ⟨#[]⟩ none 0 0) 27
 have hv := value_calls (fun _ => False) 76 #[.pointer (some ⟨w.heap.size, 0, none⟩), .pointer (some ⟨w.heap.size + 1, 0, none⟩)] (enters_of Tryz.func76 (by kernel_rfl) rfl) (powX a n) (bare_one (bare_if (bare_err 1) (bare_if (bare_err 20) (bare_if (bare_err 3) (bare_if (bare_if (bare_strip _) (bare_strip _)) (bare_err 3)))))) W (fun _ h => h.elim) (fun _ => True) (fun W' h => Calls.mono (pow1_all a n hn1 hn2 _ _ W' (K0.on h) (K1.on h) ((ha.on hbW).on h) hok hk0 hk1 hz hn0 hmm hff) fun _ _ h => ⟨h, trivial⟩)
 clear hok hk0 hk1 hz hn0 hmm hff
 obtain ⟨x, hx⟩ : ∃ x, powX a n = x := ⟨_, rfl⟩
 rw [hx] at hv ⊢
 obtain ⟨z, p, er⟩ := x
 dsimp only at hv
 clear hx
 replace hszW := Lib.hid hszW
 go_enter Tryz.func18, Tryz.ntmps18
 go_wp2_with (go_at_call 75; refine hv.mono ?_; rintro e w5 ⟨⟨v, rfl, s5, A5, c5, l5, rfl, I5⟩, o5, -⟩; have K5 := K2.on o5.full; obtain ⟨u0, u1, u2, u3, u4, u5⟩ := cL6 K5.h; obtain ⟨f0, f1, f2, f3, f4, f5⟩ := fZ6 K5.h)
 obtain ⟨X, hX, KX, NX, OX⟩ := storeV (k' := kd (z, p, er)) (p' := (p : Int)) (s' := s5) (A' := A5) (n' := l5.length) (c' := c5) (S' := ⟨#[]⟩) (B' := none) (m' := 0) (d' := 0) K5
 rw [hX]
 have hb5 := hbW.trans (o5.full.mono hbW.size)
 exact ret_cellT_tmp rfl Tryz.underlying27 val_size rfl rfl KX.h rfl ⟨_, rfl, ⟨s5, A5, c5, l5, rfl, I5.nudge NX⟩, hb5.trans (NX.low.mono (by omega))⟩
end Dc
end Go.Proofs.YtjghnghceeijeaaGreatDoor
