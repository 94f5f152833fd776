/-
  Contracts of the walks below.
-/
import Derived.Test.YtjghnghceeijeaaGreatDoorDp27
set_option maxRecDepth 100000
set_option maxHeartbeats 4000000
set_option linter.unusedVariables false
set_option linter.unusedSimpArgs false
namespace Go.Proofs.YtjghnghceeijeaaGreatDoor
namespace Dc
open Go.RowKit Go.Shelf Go.BigFrame Go.Proofs.YtjghnghceeijeaaGreatDoor.Nm
attribute [local go_sem] Oper.semAt_some
set_option exponentiation.threshold 10000 in
theorem lz_ten_big (k : Nat) (hk : k ≤ 2820) : Lz 294 (10 ^ k) := by
 refine Lz.of ?_
 have h1 : ((10 : Int) ^ k).natAbs = 10 ^ k := by rw [Int.natAbs_pow]; rfl
 rw [h1]
 have e1 : (10 : Nat) ^ 2820 = (10 ^ 3) ^ 940 := by rw [← Nat.pow_mul]
 have e2 : (2 : Nat) ^ 9400 = (2 ^ 10) ^ 940 := by rw [← Nat.pow_mul]
 have e3 : BB ^ 294 = 2 ^ 9408 := by rw [show BB = 2 ^ 32 from rfl, ← Nat.pow_mul]
 rw [e3]
 refine Nat.lt_of_le_of_lt (Nat.pow_le_pow_right (by decide) hk) ?_
 rw [e1]
 refine Nat.lt_of_le_of_lt (Nat.pow_le_pow_left (show 10 ^ 3 ≤ 2 ^ 10 by decide) 940) ?_
 rw [← e2]
 exact Nat.pow_lt_pow_right (by decide) (by decide)
theorem powers1_any (g n : Nat) (hn : n ≤ 2820) (w : World) (h : Pows w g) :
 Calls Tryz.prog 150 #[.int .i64 (n : Int), .pointer (some ⟨g, 0, none⟩)] w (RetI (10 ^ n) w) := by
 by_cases h' : n < 21
 · exact powers1_z g n h' w h
 · exact powers1_big g n (by omega) (by omega) ((lz_ten_big n hn).mono (by decide)) w
theorem pow_ne {z : Int} (h : z ≠ 0) (t : Nat) : z ^ t ≠ 0 := by
 induction t with
 | zero => rw [Int.pow_zero]; decide
 | succ t ih => rw [Int.pow_succ]; exact fun h' => (Int.mul_eq_zero.1 h').elim ih h
theorem near_ten (n : Int) (j : Nat) : (nearZ n (10 ^ j)).natAbs ≤ n.natAbs := by
 rcases Nat.eq_zero_or_pos j with h0 | h0
 · subst h0
   rw [show nearZ n (10 ^ 0) = n from near_one n]
   exact Nat.le_refl _
 · obtain ⟨i, rfl⟩ : ∃ i, j = i + 1 := ⟨j - 1, by omega⟩
   have hT : (0 : Int) < 10 ^ i := ten_pos i
   have e : (10 : Int) ^ (i + 1) = 10 ^ i * 10 := Int.pow_succ ..
   have h1 := near_spec n (ten_pos (i + 1))
   have hd := ten_pos (i + 1)
   have hz : nearZ n (10 ^ (i + 1)) = nearP n (10 ^ (i + 1)) := by unfold nearZ; rw [if_neg (by omega)]
   rw [hz]
   generalize nearP n (10 ^ (i + 1)) = q at *
   have h10 : (10 : Int) ≤ 10 ^ (i + 1) := by omega
   generalize (10 : Int) ^ (i + 1) = d at *
   rcases Int.lt_or_le q 0 with h3 | h3
   · have h4 : q * d ≤ q * 2 := Int.mul_le_mul_of_nonpos_left (by omega) (by omega)
     have h5 : (q + 1) * d ≤ (q + 1) * 1 := Int.mul_le_mul_of_nonpos_left (by omega) (by omega)
     rw [show (q + 1) * d = q * d + d by rw [Int.add_mul, Int.one_mul]] at h5
     omega
   · have h4 : q * 2 ≤ q * d := Int.mul_le_mul_of_nonneg_left (by omega) h3
     rcases Int.lt_or_le 0 q with h6 | h6
     · have h5 : (q - 1) * 1 ≤ (q - 1) * d := Int.mul_le_mul_of_nonneg_left (by omega) (by omega)
       rw [show (q - 1) * d = q * d - d by rw [Int.sub_mul, Int.one_mul]] at h5
       omega
     · omega
theorem pow1_no (a : VA) (n : Int) (ga gn : Nat) (w : World) (Ka : Blk w ga #[.int .i64 a.k, .int .i64 a.p, .bool a.s, .slice a.A a.l.length a.c, .string a.S, .slice a.B a.m a.d] 27) (ha : a.At w) (hno : a.ok = false) :
 Calls Tryz.prog 76 #[.pointer (some ⟨ga, 0, none⟩), .pointer (some ⟨gn, 0, none⟩)] w (PostV (fun _ => False) (err 2) w) := by
 obtain ⟨W, hW, hbW, K0, hszW⟩ := box1 w (vcells 0 0 false none 0 0 ⟨#[]⟩ none 0 0) 27
 have hdc := decimals_c W.heap.size [a] (W.alloc (.cells #[.int .i64 a.k, .int .i64 a.p, .bool a.s, .slice a.A a.l.length a.c, .string a.S, .slice a.B a.m a.d] 27)) (by simp) (vals_one a _ _ ⟨World.alloc_heap_new W _⟩ ((ha.on hbW).on (al1 W _))) (by simp)
 rw [decE_one, if_neg (by rw [hno]; decide)] at hdc
 clear hno
 obtain ⟨x0, x1, x2, x3, x4, x5⟩ := cL6 (Ka.on hbW).h
 clear hszW
 go_enter Tryz.func76, Tryz.ntmps76
 go_wp2_with (go_at_call 77; refine hdc.mono ?_; rintro e w5 ⟨hw, b5⟩; obtain rfl := hw.2 (by decide))
 exact ⟨rfl, PostV.no rfl (by decide) (.of_below (hbW.trans (((al1 W _).trans (b5.mono (al1 W _).size)).mono hbW.size)))⟩
theorem pow1_z (n1 : Bool) (A1 : Option Addr) (c1 : Nat) (l1 : List Nat) (z1 : Int) (p : Nat) (n : Int) (hn1 : -9223372036854775808 ≤ n) (hn2 : n < 9223372036854775808) (B1 : Option Addr) (d1 ga gn : Nat) (w : World) (Ka : Blk w ga #[.int .i64 3, .int .i64 (p : Int), .bool n1, .slice A1 l1.length c1, .string ⟨#[]⟩, .slice B1 0 d1] 27) (Kk : Blk w gn #[.int .i64 n] 3) (I1 : IV w n1 A1 c1 l1 z1) (D1 : IsD z1 p) :
 Calls Tryz.prog 76 #[.pointer (some ⟨ga, 0, none⟩), .pointer (some ⟨gn, 0, none⟩)] w (PostV (fun _ => False) (if n < -9600 ∨ 9600 < n then err 1 else if n < 0 ∧ z1 = 0 then err 20 else if 2800 < p * n.natAbs then err 3 else if (lim (z1 ^ n.natAbs).natAbs).length ≤ 300 then (if n < 0 then stripE (nearZ (10 ^ (p * n.natAbs + 20)) (z1 ^ n.natAbs)) else stripE (nearZ (z1 ^ n.natAbs * 10 ^ 20) (10 ^ (p * n.natAbs)))) else err 3) w) := by
 obtain ⟨W, hW, hbW, K0, hszW⟩ := box1 w (vcells 0 0 false none 0 0 ⟨#[]⟩ none 0 0) 27
 have ha : (VA.mk 3 (p : Int) n1 A1 c1 l1 ⟨#[]⟩ B1 0 d1).At W := ⟨(I1.on hbW).rd, I1.cap⟩
 have hdc := decimals_c W.heap.size [(VA.mk 3 (p : Int) n1 A1 c1 l1 ⟨#[]⟩ B1 0 d1)] (W.alloc (.cells #[.int .i64 3, .int .i64 (p : Int), .bool n1, .slice A1 l1.length c1, .string ⟨#[]⟩, .slice B1 0 d1] 27)) (by simp) (vals_one (VA.mk 3 (p : Int) n1 A1 c1 l1 ⟨#[]⟩ B1 0 d1) _ _ ⟨World.alloc_heap_new W _⟩ (ha.on (al1 W _))) (by simp)
 rw [decE_one, VA.ok_made I1.isZ D1, if_pos rfl] at hdc
 have a1 := al1 W (.cells #[.int .i64 3, .int .i64 (p : Int), .bool n1, .slice A1 l1.length c1, .string ⟨#[]⟩, .slice B1 0 d1] 27)
 have J1 := I1.on hbW
 have L1 := Ka.on hbW
 have Lk := Kk.on hbW
 obtain ⟨x0, x1, x2, x3, x4, x5⟩ := cL6 L1.h
 have y0 := cell_at Lk.h 0 _ rfl
 obtain ⟨E, hE⟩ : ∃ E, (if n < -9600 ∨ 9600 < n then err 1 else if n < 0 ∧ z1 = 0 then err 20 else if 2800 < p * n.natAbs then err 3 else if (lim (z1 ^ n.natAbs).natAbs).length ≤ 300 then (if n < 0 then stripE (nearZ (10 ^ (p * n.natAbs + 20)) (z1 ^ n.natAbs)) else stripE (nearZ (z1 ^ n.natAbs * 10 ^ 20) (10 ^ (p * n.natAbs)))) else err 3) = E := ⟨_, rfl⟩
 rw [hE]
 replace hE := Lib.hid hE
 replace hszW := Lib.hid hszW
 have HD := Lib.hid D1
 have hzc := fun W' (h : Below W.heap.size W W') => zero_c n1 A1 c1 l1 z1 W' (J1.on h)
 replace hn1 := Lib.hid hn1
 replace hn2 := Lib.hid hn2
 clear ha D1
 by_cases hk0 : n < -9600
 · have kb : decide (n < -9600) = true := decide_eq_true hk0
   have hE2 := hE.out
   rw [if_pos (.inl hk0)] at hE2
   replace hE2 := Lib.hid hE2.symm
   clear hE hzc
   go_enter Tryz.func76, Tryz.ntmps76
   go_wp2_with first
    | (go_at_call 78; have hmark := b5; refine (need_no 1 (by decide) _).mono ?_; rintro e w16 ⟨rfl, rfl⟩)
    | (go_at_call 77; refine hdc.mono ?_; rintro e w5 ⟨hw, b5⟩; obtain rfl := hw.1 rfl; have q5 := a1.trans (b5.mono a1.size); have y0 := cell_at (Lk.on q5).h 0 _ rfl; obtain ⟨x0, x1, x2, x3, x4, x5⟩ := cL6 (L1.on q5).h)
   exact ⟨rfl, PostV.no hE2.out (by decide) (.of_below (hbW.trans (q5.mono hbW.size)))⟩
 · by_cases hk1 : 9600 < n
   · have kb : decide (n < -9600) = false := decide_eq_false hk0
     have kc : decide (9600 < n) = true := decide_eq_true hk1
     have hE2 := hE.out
     rw [if_pos (.inr hk1)] at hE2
     replace hE2 := Lib.hid hE2.symm
     clear hE hzc hk0
     go_enter Tryz.func76, Tryz.ntmps76
     go_wp2_with first
      | (go_at_call 78; have hmark := b5; refine (need_no 1 (by decide) _).mono ?_; rintro e w16 ⟨rfl, rfl⟩)
      | (go_at_call 77; refine hdc.mono ?_; rintro e w5 ⟨hw, b5⟩; obtain rfl := hw.1 rfl; have q5 := a1.trans (b5.mono a1.size); have y0 := cell_at (Lk.on q5).h 0 _ rfl; obtain ⟨x0, x1, x2, x3, x4, x5⟩ := cL6 (L1.on q5).h)
     exact ⟨rfl, PostV.no hE2.out (by decide) (.of_below (hbW.trans (q5.mono hbW.size)))⟩
   · have hE1 := hE.out
     rw [if_neg (by omega)] at hE1
     replace hE := Lib.hid hE1
     have kb : decide (n < -9600) = false := decide_eq_false hk0
     have kc : decide (9600 < n) = false := decide_eq_false hk1
     obtain ⟨t, ht⟩ : ∃ t, n.natAbs = t := ⟨_, rfl⟩
     obtain ⟨m, hm⟩ : ∃ m, p * t = m := ⟨_, rfl⟩
     have ht96 : t ≤ 9600 := by omega
     have hm0 : m ≤ 20 * 9600 := by rw [← hm]; exact Nat.mul_le_mul HD.out.hi ht96
     rw [ht, hm] at hE1
     have hwn : IntKind.i64.wrap (-n) = -n := by rw [IntKind.wrap_i64]; omega
     have hmx : max n (-n) = (t : Int) := by omega
     have hpt : IntKind.i64.wrap ((p : Int) * (t : Int)) = (m : Int) := by
      have : (p : Int) * (t : Int) = (m : Int) := by rw [← hm]; rfl
      rw [this, IntKind.wrap_i64]; omega
     clear hE
     have hE := Lib.hid hE1
     clear hE1
     by_cases hz : n < 0 ∧ z1 = 0
     · have kd' : decide (n < 0) = true := decide_eq_true hz.1
       have hzb : ∀ b, decide (z1 = 0) = b → b = true := fun b h => by rw [← h]; exact decide_eq_true hz.2
       rw [decide_eq_true hz.2] at hzc
       have hE2 := hE.out
       rw [if_pos hz] at hE2
       replace hE2 := Lib.hid hE2.symm
       clear hE hk0 hk1 hwn hmx hpt hz hzb
       go_enter Tryz.func76, Tryz.ntmps76
       go_wp2_with first
        | (go_at_call 78; have hmark := b6; refine (need_no 20 (by decide) _).mono ?_; rintro e w16 ⟨rfl, rfl⟩)
        | (go_at_call 79; have hmark := q5; refine (hzc _ q5).mono ?_; rintro e w6 ⟨rfl, b6⟩; have q6 := q5.trans (b6.mono q5.size); have y0 := cell_at (Lk.on q6).h 0 _ rfl; obtain ⟨x0, x1, x2, x3, x4, x5⟩ := cL6 (L1.on q6).h)
        | (go_at_call 77; refine hdc.mono ?_; rintro e w5 ⟨hw, b5⟩; obtain rfl := hw.1 rfl; have q5 := a1.trans (b5.mono a1.size); have y0 := cell_at (Lk.on q5).h 0 _ rfl; obtain ⟨x0, x1, x2, x3, x4, x5⟩ := cL6 (L1.on q5).h)
       exact ⟨rfl, PostV.no hE2.out (by decide) (.of_below (hbW.trans (q6.mono hbW.size)))⟩
     · have hE1 := hE.out
       rw [if_neg hz] at hE1
       clear hE
       have hE := Lib.hid hE1
       clear hE1
       have hz1 : n < 0 → z1 ≠ 0 := fun h h' => hz ⟨h, h'⟩
       clear hz
       by_cases hn0 : n < 0
       · have kd' : decide (n < 0) = true := decide_eq_true hn0
         rw [decide_eq_false (hz1 hn0)] at hzc
         have hzn : Hid (z1 ≠ 0) := hz1 hn0
         clear hz1
         by_cases hm28 : 2800 < m
         · have ke : decide ((2800 : Int) < (m : Int)) = true := decide_eq_true (by omega)
           have hE2 := hE.out
           rw [if_pos hm28] at hE2
           replace hE2 := Lib.hid hE2.symm
           clear hE hk0 hk1 hm0 ht96
           go_enter Tryz.func76, Tryz.ntmps76
           go_wp2_with first
            | (go_at_call 78; have hmark := q6; refine (need_no 3 (by decide) _).mono ?_; rintro e w16 ⟨rfl, rfl⟩)
            | (go_at_call 79; have hmark := q5; refine (hzc _ q5).mono ?_; rintro e w6 ⟨rfl, b6⟩; have q6 := q5.trans (b6.mono q5.size); have y0 := cell_at (Lk.on q6).h 0 _ rfl; obtain ⟨x0, x1, x2, x3, x4, x5⟩ := cL6 (L1.on q6).h)
            | (go_at_call 77; refine hdc.mono ?_; rintro e w5 ⟨hw, b5⟩; obtain rfl := hw.1 rfl; have q5 := a1.trans (b5.mono a1.size); have y0 := cell_at (Lk.on q5).h 0 _ rfl; obtain ⟨x0, x1, x2, x3, x4, x5⟩ := cL6 (L1.on q5).h)
           exact ⟨rfl, PostV.no hE2.out (by decide) (.of_below (hbW.trans (q6.mono hbW.size)))⟩
         · have ke : decide ((2800 : Int) < (m : Int)) = false := decide_eq_false (by omega)
           have hE1 := hE.out
           rw [if_neg hm28] at hE1
           clear hE
           obtain ⟨pw, hpw⟩ : ∃ pw, z1 ^ t = pw := ⟨_, rfl⟩
           rw [hpw] at hE1
           have hPow := fun W' (h : Below W.heap.size W W') => Pow_calls n1 (t : Int) A1 c1 l1 W' (J1.on h).rd J1.cap
           have hR : powR n1 l1 (t : Int) = fitZ pw := by
            rw [powR_z (I1.ok HD.out.lz (by decide)), if_pos ⟨by omega, by omega⟩, Int.toNat_natCast, hpw]
           rw [hR] at hPow
           have hpwn : pw ≠ 0 := by rw [← hpw]; exact pow_ne (hzn.out) t
           clear hR hpw
           by_cases hfit : (lim pw.natAbs).length ≤ 300
           · have hF : fitZ pw = (pw, 0) := by unfold fitZ; rw [if_pos hfit]
             rw [hF] at hPow
             rw [if_pos hfit] at hE1
             have lpw : Lz 300 pw := ⟨hfit⟩
             have hpw0 : Hid (pw ≠ 0) := hpwn
             dsimp only at hPow
             clear hF hfit
             replace hE1 := Lib.hid hE1
             go_enter Tryz.func76, Tryz.ntmps76
             go_upto_region 10 with first
              | (go_at_call 80; have hmark := q6; refine (powers_z _).mono ?_; rintro e w7 ⟨g, rfl, P7, b7, hg7⟩; have q7 := q6.trans (b7.mono q6.size); have y0 := cell_at (Lk.on q7).h 0 _ rfl; obtain ⟨x0, x1, x2, x3, x4, x5⟩ := cL6 (L1.on q7).h)
              | (go_at_call 79; have hmark := q5; refine (hzc _ q5).mono ?_; rintro e w6 ⟨rfl, b6⟩; have q6 := q5.trans (b6.mono q5.size); have y0 := cell_at (Lk.on q6).h 0 _ rfl; obtain ⟨x0, x1, x2, x3, x4, x5⟩ := cL6 (L1.on q6).h)
              | (go_at_call 77; refine hdc.mono ?_; rintro e w5 ⟨hw, b5⟩; obtain rfl := hw.1 rfl; have q5 := a1.trans (b5.mono a1.size); have y0 := cell_at (Lk.on q5).h 0 _ rfl; obtain ⟨x0, x1, x2, x3, x4, x5⟩ := cL6 (L1.on q5).h)
             have LX := L1.on q7
             have LK := Lk.on q7
             have HX := K0.on q7
             have hb7 := hbW.trans (q7.mono hbW.size)
             have hPow2 := fun W' (h : Below w7.heap.size w7 W') => hPow W' (q7.trans (h.mono q7.size))
             have lw7 : w.heap.size + 1 ≤ w7.heap.size := by have := q7.size; have := hszW.out; omega
             clear x0 x1 x2 x3 x4 x5 y0 hdc a1 hPow hW L1 Lk J1 K0 Ka Kk
             go_cut [5, 6] from 36 to 46 (fun pv pm wx => ∃ G s' A' c' l', pv = .pointer (some ⟨G, 0, none⟩) ∧ pm = .int .i64 (m : Int) ∧ Blk wx G #[.bool s', .slice A' (List.length l') c'] 24 ∧ IV wx s' A' c' l' pw ∧ Below w7.heap.size w7 wx ∧ w7.heap.size ≤ G)
             case first =>
              have r0 := cell_at LX.h 1 _ rfl
              have r1 := cell_at LX.h 2 _ rfl
              have r2 := cell_at LX.h 3 _ rfl
              go_region_held3 (fun w'' => w''.cell? ⟨ga, 1, none⟩ = some (.int .i64 (p : Int)) ∧ w''.cell? ⟨ga, 2, none⟩ = some (.bool n1) ∧ w''.cell? ⟨ga, 3, none⟩ = some (.slice A1 l1.length c1)) ((first | (with_reducible exact ⟨r0, r1, r2⟩) | (with_reducible exact rd5 ⟨r0, r1, r2⟩) | (refine keep3 LX ?_; (repeat' (with_reducible first | exact Below.refl _ _ | exact q30 | exact q31 | refine below_drew ?_ | refine below_al ?_ _ | refine below_set ?_ _ ?_)); (all_goals (first | exact q30.size | exact q31.size | exact Nat.le_refl _)))))
               ((first
                | (go_at_call 81; have hmark := q30; refine (must_ok s30 A30 c30 l30 pw _ (by (repeat' (with_reducible first | exact I30 | refine iv_up ?_)))).mono ?_; rintro e w31 ⟨s31, A31, c31, l31, rfl, I31, b31⟩; have p31 : Below w30.heap.size w30 w31 := (by refine below_via ?_ b31; (repeat' (with_reducible first | exact Below.refl _ _ | exact q30 | exact q31 | refine below_drew ?_ | refine below_al ?_ _ | refine below_set ?_ _ ?_))); have q31 := q30.trans (p31.mono q30.size); (try (replace Ta := Ta.on p31)); (first | (have Ta : Blk w31 w30.heap.size #[.bool false, .slice none 0 0] 24 := (by with_reducible exact blk_al1 b31)) | skip); clear r0 r1 r2; have r0 : w31.cell? ⟨ga, 1, none⟩ = some (.int .i64 (p : Int)) := cell_at (LX.on q31).h 1 _ rfl; have r1 : w31.cell? ⟨ga, 2, none⟩ = some (.bool n1) := cell_at (LX.on q31).h 2 _ rfl; have r2 : w31.cell? ⟨ga, 3, none⟩ = some (.slice A1 l1.length c1) := cell_at (LX.on q31).h 3 _ rfl; (try (have ta0 := cell_at Ta.h 0 _ rfl; have ta1 := cell_at Ta.h 1 _ rfl; have ta2 := frozen_at Ta.h 0; have ta3 := frozen_at Ta.h 1)))
                | (go_at_call 82; refine (hPow2 _ (by (repeat' (with_reducible first | exact Below.refl _ _ | exact q30 | exact q31 | refine below_drew ?_ | refine below_al ?_ _ | refine below_set ?_ _ ?_)))).mono ?_; rintro e w30 ⟨s30, A30, c30, l30, rfl, z30, n30, r30, b30⟩; have I30 : IV w30 s30 A30 c30 l30 pw := ⟨r30, n30, z30⟩; have q30 : Below w7.heap.size w7 w30 := (by refine below_via ?_ b30; (repeat' (with_reducible first | exact Below.refl _ _ | exact q30 | exact q31 | refine below_drew ?_ | refine below_al ?_ _ | refine below_set ?_ _ ?_))); have p30 := q30; (first | (have Ta : Blk w30 w7.heap.size #[.bool false, .slice none 0 0] 24 := (by with_reducible exact blk_al1d b30)) | skip); clear r0 r1 r2; have r0 : w30.cell? ⟨ga, 1, none⟩ = some (.int .i64 (p : Int)) := cell_at (LX.on q30).h 1 _ rfl; have r1 : w30.cell? ⟨ga, 2, none⟩ = some (.bool n1) := cell_at (LX.on q30).h 2 _ rfl; have r2 : w30.cell? ⟨ga, 3, none⟩ = some (.slice A1 l1.length c1) := cell_at (LX.on q30).h 3 _ rfl)))
              all_goals
               go_wp2_with fail
               go_meet
               refine ⟨_, s31, A31, c31, l31, rfl, rfl, ?_, ?_, ?_, ?_⟩
               all_goals (repeat' (with_reducible first | exact I31 | exact Ta | exact q31 | exact blk_new _ _ _ | apply blk_drew | apply iv_drew | apply below_drew | apply blk_up | apply iv_up | apply below_al | apply blk_s1 | apply blk_s0 | apply iv_set | apply below_set))
               all_goals (first | exact q31.size | exact q30.size | exact Nat.le_refl _)
             case rest =>
              obtain ⟨G, s8, A8, c8, l8, rfl, rfl, KG, IG, bG, hG⟩ := hcut
              have P8 := P7.on bG
              have H8 := HX.on bG
              have hb8 := hb7.trans (bG.mono hb7.size)
              have y0 := cell_at (LK.on bG).h 0 _ rfl
              have hwG : w.heap.size < G := by omega
              clear LX LK HX hPow2 P7 I1
              have hE4 := hE1.out
              rw [if_pos hn0] at hE4
              have hma : IntKind.i64.wrap ((m : Int) + 20) = ((m + 20 : Nat) : Int) := by rw [IntKind.wrap_i64]; omega
              have hmb : (m : Int) + 20 = ((m + 20 : Nat) : Int) := by omega
              have hmc : IntKind.i64.wrap (((m + 20 : Nat) : Int)) = ((m + 20 : Nat) : Int) := by rw [IntKind.wrap_i64]; omega
              have pw0 : pw ≠ 0 := hpw0.out
              have tb := lz_ten_big (m + 20) (by omega)
              have T1 := fun W' (h : Below wc.heap.size wc W') => powers1_any g (m + 20) (by omega) W' (P8.on h)
              have N1 := fun W' (h : Below wc.heap.size wc W') s A c l (I : IV W' s A c l (10 ^ (m + 20))) => nearest_z s s8 A A8 c c8 l l8 (10 ^ (m + 20)) pw W' I (IG.on h) (tb.mono (by decide)) lpw pw0
              have e4 := tb.near pw0
              have U1 := fun W' s A c l (I : IV W' s A c l (nearZ (10 ^ (m + 20)) pw)) => units_z s A c l (nearZ (10 ^ (m + 20)) pw) W' I (e4.mono (by decide))
              rw [hE4] at U1
              clear hE4 hE1 tb e4 pw0 hpw0
              generalize nearZ (10 ^ (m + 20)) pw = nz at *
              generalize (10 : Int) ^ (m + 20) = tp at *
              generalize m + 20 = m20 at *
              go_upto_region 12 with fail
              obtain ⟨g0, g1⟩ := cL2 KG.h
              clear y0
              refine wp_region_any (by kernel_rfl) ?_
              refine pT 0 (Value.func (Fn.func 150) #[] #[Value.pointer (some ⟨g, 0, none⟩)]) ?_
              try simp only [Act.put, aQ, bQ, cQ]
              refine pT 1 (Value.int .i64 (m : Int)) ?_
              try simp only [Act.put, aQ, bQ, cQ]
              refine pT 2 (Value.int .i64 (m20 : Int)) ?_
              try simp only [Act.put, aQ, bQ, cQ]
              refine wpAny_of_F (S := fun w'' => w''.cell? ⟨G, 0, none⟩ = some (.bool s8) ∧ w''.cell? ⟨G, 1, none⟩ = some (.slice A8 l8.length c8)) (late := [7]) _ _ _ _ ?_
              refine fT 4 6 (Value.agg #[.bool s8, .slice A8 l8.length c8]) ⟨g0, g1⟩ ?_
              try simp only [Act.put, aQ, bQ, cQ]
              refine wpAnyF_one (i := 3) (by kernel_rfl) rfl (fun K hK => ?_)
              go_simp
              go_at_call 150; refine (T1 _ (below_drew (Below.refl wc.heap.size wc))).mono ?_; rintro e w11 ⟨s11, A11, c11, l11, rfl, I11, b11⟩; have q11 := (below_drew (Below.refl wc.heap.size wc)).trans b11; replace g0 := cell_at (KG.on q11).h 0 _ rfl; replace g1 := cell_at (KG.on q11).h 1 _ rfl
              go_wp2_with fail
              refine hK.out _ _ (Or.inr ⟨g0, g1⟩) ?_
              clear hK K
              try simp only [Act.put, aQ, bQ, cQ]
              refine wpAnyF_one (i := 5) (by kernel_rfl) rfl (fun K hK => ?_)
              go_simp
              go_at_call 84; refine (N1 _ q11 _ _ _ _ I11).mono ?_; rintro e w12 ⟨s12, A12, c12, l12, rfl, I12, b12⟩; have q12 := q11.trans (b12.mono q11.size); replace g0 := cell_at (KG.on q12).h 0 _ rfl; replace g1 := cell_at (KG.on q12).h 1 _ rfl
              go_wp2_with fail
              refine hK.out _ _ (Or.inr ⟨g0, g1⟩) ?_
              clear hK K
              try simp only [Act.put, aQ, bQ, cQ]
              refine wpAnyF_one (i := 6) (by kernel_rfl) rfl (fun K hK => ?_)
              go_simp
              go_at_call 83; refine (U1 _ _ _ _ _ I12).mono ?_; rintro e w13 ⟨o13, p13, p13'⟩; have q13 := q12.trans (o13.full.mono q12.size)
              have hb13 := hb8.trans (q13.mono hb8.size)
              by_cases h0 : E.2.2 = 0
              · obtain ⟨v, rfl, s13, A13, c13, l13, rfl, I13⟩ := p13 h0
                rw [kd_ok h0]
                have K13 := H8.on q13
                replace g0 := cell_at (KG.on q13).h 0 _ rfl; replace g1 := cell_at (KG.on q13).h 1 _ rfl
                go_wp2_with fail
                refine hK.out _ _ (Or.inr ⟨g0, g1⟩) ?_
                clear hK K
                try simp only [Act.put, aQ, bQ, cQ]
                obtain ⟨ka0, ka1, ka2, ka3, ka4, ka5⟩ := cL6 K13.h
                obtain ⟨kb0, kb1, kb2, kb3, kb4, kb5⟩ := fZ6 K13.h
                refine wpAnyF_one (i := 7) (by kernel_rfl) rfl (fun K hK => ?_)
                go_simp
                refine hK.out _ _ (Or.inl (by decide)) ?_
                clear hK K
                try simp only [Act.put, aQ, bQ, cQ]
                refine wpAnyF_done (by kernel_rfl) ?_ _
                obtain ⟨X, hX, KX, NX, OX⟩ := storeV (k' := 3) (p' := (E.2.1 : Int)) (s' := s13) (A' := A13) (n' := l13.length) (c' := c13) (S' := ⟨#[]⟩) (B' := none) (m' := 0) (d' := 0) K13
                rw [hX]
                go_wp2_with fail
                exact ret_cellT rfl Tryz.underlying27 val_size rfl rfl KX.h rfl ⟨.of_below (hb13.trans (NX.low.mono (by omega))), fun _ => ⟨_, rfl, s13, A13, c13, l13, by rw [kd_ok h0], I13.nudge NX⟩, fun h => absurd h0 h⟩
              · obtain rfl := p13' h0
                go_wp2_with fail
                exact ⟨rfl, .of_below hb13, fun h => absurd h h0, fun _ => rfl⟩
           · have hF : fitZ pw = (0, 3) := by unfold fitZ; rw [if_neg hfit]
             rw [hF] at hPow
             rw [if_neg hfit] at hE1
             dsimp only at hPow
             clear hF hfit hn0
             replace hE1 := Lib.hid hE1.symm
             go_enter Tryz.func76, Tryz.ntmps76
             go_upto_region 10 with first
              | (go_at_call 80; have hmark := q6; refine (powers_z _).mono ?_; rintro e w7 ⟨g, rfl, P7, b7, hg7⟩; have q7 := q6.trans (b7.mono q6.size); have y0 := cell_at (Lk.on q7).h 0 _ rfl; obtain ⟨x0, x1, x2, x3, x4, x5⟩ := cL6 (L1.on q7).h)
              | (go_at_call 79; have hmark := q5; refine (hzc _ q5).mono ?_; rintro e w6 ⟨rfl, b6⟩; have q6 := q5.trans (b6.mono q5.size); have y0 := cell_at (Lk.on q6).h 0 _ rfl; obtain ⟨x0, x1, x2, x3, x4, x5⟩ := cL6 (L1.on q6).h)
              | (go_at_call 77; refine hdc.mono ?_; rintro e w5 ⟨hw, b5⟩; obtain rfl := hw.1 rfl; have q5 := a1.trans (b5.mono a1.size); have y0 := cell_at (Lk.on q5).h 0 _ rfl; obtain ⟨x0, x1, x2, x3, x4, x5⟩ := cL6 (L1.on q5).h)
             have LX := L1.on q7
             have hb7 := hbW.trans (q7.mono hbW.size)
             have hPow2 := fun W' (h : Below w7.heap.size w7 W') => hPow W' (q7.trans (h.mono q7.size))
             have r0 := cell_at LX.h 1 _ rfl
             have r1 := cell_at LX.h 2 _ rfl
             have r2 := cell_at LX.h 3 _ rfl
             clear x0 x1 x2 x3 x4 x5 y0 hdc a1 hPow hW L1 Lk J1 K0 Ka Kk
             refine wp_region_any (by kernel_rfl) ?_
             refine pT 0 (Value.pointer (some ⟨ga, 2, none⟩)) ?_
             try simp only [Act.put, aQ, bQ, cQ]
             refine pT 2 (Value.int .i64 (t : Int)) ?_
             try simp only [Act.put, aQ, bQ, cQ]
             refine pT 7 (Value.pointer (some ⟨ga, 1, none⟩)) ?_
             try simp only [Act.put, aQ, bQ, cQ]
             refine pT 9 (Value.int .i64 (t : Int)) ?_
             try simp only [Act.put, aQ, bQ, cQ]
             refine wpAny_of_F (S := fun w'' => w''.cell? ⟨ga, 1, none⟩ = some (.int .i64 (p : Int)) ∧ w''.cell? ⟨ga, 2, none⟩ = some (.bool n1) ∧ w''.cell? ⟨ga, 3, none⟩ = some (.slice A1 l1.length c1)) (late := []) _ _ _ _ ?_
             refine fT 1 6 (Value.agg #[.bool n1, .slice A1 l1.length c1]) ⟨r0, r1, r2⟩ ?_
             try simp only [Act.put, aQ, bQ, cQ]
             refine fT 8 6 (Value.int .i64 (p : Int)) ⟨r0, r1, r2⟩ ?_
             try simp only [Act.put, aQ, bQ, cQ]
             refine fT 10 6 (Value.int .i64 (m : Int)) ⟨r0, r1, r2⟩ ?_
             try simp only [Act.put, aQ, bQ, cQ]
             refine wpAnyF_two (i := 3) (j := 11) (by kernel_rfl) rfl rfl (fun K hK => ?_) (fun K hK => ?_)
             · go_simp
               go_at_call 82; refine (hPow2 _ (below_drew (Below.refl w7.heap.size w7))).mono ?_; rintro e w30 ⟨s30, A30, c30, l30, rfl, z30, n30, r30, b30⟩; have q30 := below_via (below_drew (Below.refl w7.heap.size w7)) b30; replace r0 := cell_at (LX.on q30).h 1 _ rfl; replace r1 := cell_at (LX.on q30).h 2 _ rfl; replace r2 := cell_at (LX.on q30).h 3 _ rfl
               go_wp2_with fail
               refine hK.out _ _ (Or.inr ⟨r0, r1, r2⟩) ?_
               clear hK K
               try simp only [Act.put, aQ, bQ, cQ]
               refine fT 4 6 (Value.agg #[.bool s30, .slice A30 l30.length c30]) ⟨r0, r1, r2⟩ ?_
               try simp only [Act.put, aQ, bQ, cQ]
               refine fT 5 6 (Value.int .i64 3) ⟨r0, r1, r2⟩ ?_
               try simp only [Act.put, aQ, bQ, cQ]
               refine wpAnyF_two (i := 6) (j := 11) (by kernel_rfl) rfl rfl (fun K hK => ?_) (fun K hK => ?_)
               · go_simp
                 go_at_call 81; refine (must_no s30 A30 l30.length c30 3 (by decide) _).mono ?_; rintro e w31 ⟨rfl, b31⟩
                 go_wp2_with fail
                 exact ⟨rfl, PostV.no hE1.out (by decide) (.of_below (hb7.trans ((below_via q30 b31).mono hb7.size)))⟩
               · go_simp
                 refine hK.out _ _ (Or.inr ⟨cell_al _ r0, cell_al _ r1, cell_al _ r2⟩) ?_
                 clear hK K
                 try simp only [Act.put, aQ, bQ, cQ]
                 have r0' := r0
                 refine wpAnyF_one (i := 6) (by kernel_rfl) rfl (fun K hK => ?_)
                 go_simp
                 go_at_call 81; refine (must_no s30 A30 l30.length c30 3 (by decide) _).mono ?_; rintro e w31 ⟨rfl, b31⟩
                 go_wp2_with fail
                 exact ⟨rfl, PostV.no hE1.out (by decide) (.of_below (hb7.trans ((below_via (below_al q30 _) b31).mono hb7.size)))⟩
             · go_simp
               refine hK.out _ _ (Or.inr ⟨cell_al _ r0, cell_al _ r1, cell_al _ r2⟩) ?_
               clear hK K
               try simp only [Act.put, aQ, bQ, cQ]
               have r0' := r0
               refine wpAnyF_one (i := 3) (by kernel_rfl) rfl (fun K hK => ?_)
               go_simp
               go_at_call 82; refine (hPow2 _ (below_drew (below_al (Below.refl w7.heap.size w7) _))).mono ?_; rintro e w30 ⟨s30, A30, c30, l30, rfl, z30, n30, r30, b30⟩; have q30 := below_via (below_drew (below_al (Below.refl w7.heap.size w7) _)) b30; replace r0 := cell_at (LX.on q30).h 1 _ rfl; replace r1 := cell_at (LX.on q30).h 2 _ rfl; replace r2 := cell_at (LX.on q30).h 3 _ rfl
               go_wp2_with fail
               refine hK.out _ _ (Or.inr ⟨r0, r1, r2⟩) ?_
               clear hK K
               try simp only [Act.put, aQ, bQ, cQ]
               refine fT 4 6 (Value.agg #[.bool s30, .slice A30 l30.length c30]) ⟨r0, r1, r2⟩ ?_
               try simp only [Act.put, aQ, bQ, cQ]
               refine fT 5 6 (Value.int .i64 3) ⟨r0, r1, r2⟩ ?_
               try simp only [Act.put, aQ, bQ, cQ]
               refine wpAnyF_one (i := 6) (by kernel_rfl) rfl (fun K hK => ?_)
               go_simp
               go_at_call 81; refine (must_no s30 A30 l30.length c30 3 (by decide) _).mono ?_; rintro e w31 ⟨rfl, b31⟩
               go_wp2_with fail
               exact ⟨rfl, PostV.no hE1.out (by decide) (.of_below (hb7.trans ((below_via q30 b31).mono hb7.size)))⟩
       · have kd' : decide (n < 0) = false := decide_eq_false hn0
         clear hzc hz1
         by_cases hm28 : 2800 < m
         · have ke : decide ((2800 : Int) < (m : Int)) = true := decide_eq_true (by omega)
           have hE2 := hE.out
           rw [if_pos hm28] at hE2
           replace hE2 := Lib.hid hE2.symm
           clear hE hk0 hk1 hm0 ht96
           go_enter Tryz.func76, Tryz.ntmps76
           go_wp2_with first
            | (go_at_call 78; have hmark := q5; refine (need_no 3 (by decide) _).mono ?_; rintro e w16 ⟨rfl, rfl⟩)
            | (go_at_call 77; refine hdc.mono ?_; rintro e w5 ⟨hw, b5⟩; obtain rfl := hw.1 rfl; have q5 := a1.trans (b5.mono a1.size); have y0 := cell_at (Lk.on q5).h 0 _ rfl; obtain ⟨x0, x1, x2, x3, x4, x5⟩ := cL6 (L1.on q5).h)
           exact ⟨rfl, PostV.no hE2.out (by decide) (.of_below (hbW.trans (q5.mono hbW.size)))⟩
         · have ke : decide ((2800 : Int) < (m : Int)) = false := decide_eq_false (by omega)
           have hE1 := hE.out
           rw [if_neg hm28] at hE1
           clear hE
           obtain ⟨pw, hpw⟩ : ∃ pw, z1 ^ t = pw := ⟨_, rfl⟩
           rw [hpw] at hE1
           have hPow := fun W' (h : Below W.heap.size W W') => Pow_calls n1 (t : Int) A1 c1 l1 W' (J1.on h).rd J1.cap
           have hR : powR n1 l1 (t : Int) = fitZ pw := by
            rw [powR_z (I1.ok HD.out.lz (by decide)), if_pos ⟨by omega, by omega⟩, Int.toNat_natCast, hpw]
           rw [hR] at hPow
           skip
           clear hR hpw
           by_cases hfit : (lim pw.natAbs).length ≤ 300
           · have hF : fitZ pw = (pw, 0) := by unfold fitZ; rw [if_pos hfit]
             rw [hF] at hPow
             rw [if_pos hfit] at hE1
             have lpw : Lz 300 pw := ⟨hfit⟩
             have hpw0 : Hid (True) := trivial
             dsimp only at hPow
             clear hF hfit
             replace hE1 := Lib.hid hE1
             go_enter Tryz.func76, Tryz.ntmps76
             go_upto_region 10 with first
              | (go_at_call 80; have hmark := q5; refine (powers_z _).mono ?_; rintro e w7 ⟨g, rfl, P7, b7, hg7⟩; have q7 := q5.trans (b7.mono q5.size); have y0 := cell_at (Lk.on q7).h 0 _ rfl; obtain ⟨x0, x1, x2, x3, x4, x5⟩ := cL6 (L1.on q7).h)
              | (go_at_call 77; refine hdc.mono ?_; rintro e w5 ⟨hw, b5⟩; obtain rfl := hw.1 rfl; have q5 := a1.trans (b5.mono a1.size); have y0 := cell_at (Lk.on q5).h 0 _ rfl; obtain ⟨x0, x1, x2, x3, x4, x5⟩ := cL6 (L1.on q5).h)
             have LX := L1.on q7
             have LK := Lk.on q7
             have HX := K0.on q7
             have hb7 := hbW.trans (q7.mono hbW.size)
             have hPow2 := fun W' (h : Below w7.heap.size w7 W') => hPow W' (q7.trans (h.mono q7.size))
             have lw7 : w.heap.size + 1 ≤ w7.heap.size := by have := q7.size; have := hszW.out; omega
             clear x0 x1 x2 x3 x4 x5 y0 hdc a1 hPow hW L1 Lk J1 K0 Ka Kk
             go_cut [5, 6] from 36 to 46 (fun pv pm wx => ∃ G s' A' c' l', pv = .pointer (some ⟨G, 0, none⟩) ∧ pm = .int .i64 (m : Int) ∧ Blk wx G #[.bool s', .slice A' (List.length l') c'] 24 ∧ IV wx s' A' c' l' pw ∧ Below w7.heap.size w7 wx ∧ w7.heap.size ≤ G)
             case first =>
              have r0 := cell_at LX.h 1 _ rfl
              have r1 := cell_at LX.h 2 _ rfl
              have r2 := cell_at LX.h 3 _ rfl
              go_region_held3 (fun w'' => w''.cell? ⟨ga, 1, none⟩ = some (.int .i64 (p : Int)) ∧ w''.cell? ⟨ga, 2, none⟩ = some (.bool n1) ∧ w''.cell? ⟨ga, 3, none⟩ = some (.slice A1 l1.length c1)) ((first | (with_reducible exact ⟨r0, r1, r2⟩) | (with_reducible exact rd5 ⟨r0, r1, r2⟩) | (refine keep3 LX ?_; (repeat' (with_reducible first | exact Below.refl _ _ | exact q30 | exact q31 | refine below_drew ?_ | refine below_al ?_ _ | refine below_set ?_ _ ?_)); (all_goals (first | exact q30.size | exact q31.size | exact Nat.le_refl _)))))
               ((first
                | (go_at_call 81; have hmark := q30; refine (must_ok s30 A30 c30 l30 pw _ (by (repeat' (with_reducible first | exact I30 | refine iv_up ?_)))).mono ?_; rintro e w31 ⟨s31, A31, c31, l31, rfl, I31, b31⟩; have p31 : Below w30.heap.size w30 w31 := (by refine below_via ?_ b31; (repeat' (with_reducible first | exact Below.refl _ _ | exact q30 | exact q31 | refine below_drew ?_ | refine below_al ?_ _ | refine below_set ?_ _ ?_))); have q31 := q30.trans (p31.mono q30.size); (try (replace Ta := Ta.on p31)); (first | (have Ta : Blk w31 w30.heap.size #[.bool false, .slice none 0 0] 24 := (by with_reducible exact blk_al1 b31)) | skip); clear r0 r1 r2; have r0 : w31.cell? ⟨ga, 1, none⟩ = some (.int .i64 (p : Int)) := cell_at (LX.on q31).h 1 _ rfl; have r1 : w31.cell? ⟨ga, 2, none⟩ = some (.bool n1) := cell_at (LX.on q31).h 2 _ rfl; have r2 : w31.cell? ⟨ga, 3, none⟩ = some (.slice A1 l1.length c1) := cell_at (LX.on q31).h 3 _ rfl; (try (have ta0 := cell_at Ta.h 0 _ rfl; have ta1 := cell_at Ta.h 1 _ rfl; have ta2 := frozen_at Ta.h 0; have ta3 := frozen_at Ta.h 1)))
                | (go_at_call 82; refine (hPow2 _ (by (repeat' (with_reducible first | exact Below.refl _ _ | exact q30 | exact q31 | refine below_drew ?_ | refine below_al ?_ _ | refine below_set ?_ _ ?_)))).mono ?_; rintro e w30 ⟨s30, A30, c30, l30, rfl, z30, n30, r30, b30⟩; have I30 : IV w30 s30 A30 c30 l30 pw := ⟨r30, n30, z30⟩; have q30 : Below w7.heap.size w7 w30 := (by refine below_via ?_ b30; (repeat' (with_reducible first | exact Below.refl _ _ | exact q30 | exact q31 | refine below_drew ?_ | refine below_al ?_ _ | refine below_set ?_ _ ?_))); have p30 := q30; (first | (have Ta : Blk w30 w7.heap.size #[.bool false, .slice none 0 0] 24 := (by with_reducible exact blk_al1d b30)) | skip); clear r0 r1 r2; have r0 : w30.cell? ⟨ga, 1, none⟩ = some (.int .i64 (p : Int)) := cell_at (LX.on q30).h 1 _ rfl; have r1 : w30.cell? ⟨ga, 2, none⟩ = some (.bool n1) := cell_at (LX.on q30).h 2 _ rfl; have r2 : w30.cell? ⟨ga, 3, none⟩ = some (.slice A1 l1.length c1) := cell_at (LX.on q30).h 3 _ rfl)))
              all_goals
               go_wp2_with fail
               go_meet
               refine ⟨_, s31, A31, c31, l31, rfl, rfl, ?_, ?_, ?_, ?_⟩
               all_goals (repeat' (with_reducible first | exact I31 | exact Ta | exact q31 | exact blk_new _ _ _ | apply blk_drew | apply iv_drew | apply below_drew | apply blk_up | apply iv_up | apply below_al | apply blk_s1 | apply blk_s0 | apply iv_set | apply below_set))
               all_goals (first | exact q31.size | exact q30.size | exact Nat.le_refl _)
             case rest =>
              obtain ⟨G, s8, A8, c8, l8, rfl, rfl, KG, IG, bG, hG⟩ := hcut
              have P8 := P7.on bG
              have H8 := HX.on bG
              have hb8 := hb7.trans (bG.mono hb7.size)
              have y0 := cell_at (LK.on bG).h 0 _ rfl
              have hwG : w.heap.size < G := by omega
              clear LX LK HX hPow2 P7 I1
              have hE4 := hE1.out
              rw [if_neg (by omega : ¬ n < 0)] at hE4
              by_cases hm20 : m < 20
              · have kf : decide ((m : Int) < 20) = true := decide_eq_true (by omega)
                have hE5 : madeE pw m = E := by
                 rw [← hE4]
                 unfold stripE
                 rcases Nat.eq_zero_or_pos m with h0 | h0
                 · subst h0
                   have := pow_zero pw
                   unfold madeE
                   rw [show madeZ (nearZ (pw * 10 ^ 20) (10 ^ 0)) 20 = madeZ pw 0 from this]
                 · have := pow_small pw h0 (Nat.le_of_lt hm20)
                   unfold madeE
                   rw [show madeZ (nearZ (pw * 10 ^ 20) (10 ^ m)) 20 = strip pw m from this, show madeZ pw m = strip pw m by unfold madeZ; rw [if_neg (by omega)]]
                have U1 := fun W' s A c l (I : IV W' s A c l pw) => made_z s A c l pw m (by omega) W' I lpw
                rw [hE5] at U1
                clear hE4 hE1 hE5 hpw0
                obtain ⟨g0, g1⟩ := cL2 KG.h
                by_cases h0 : E.2.2 = 0
                all_goals
                 go_wp2_with first
                  | (go_at_call 85; refine (U1 _ _ _ _ _ IG).mono ?_; rintro e w9 ⟨o9, p9, p9'⟩; first | (obtain ⟨v, rfl, s9, A9, c9, l9, rfl, I9⟩ := p9 h0; rw [kd_ok h0]; have q9 := o9.full; obtain ⟨u0, u1, u2, u3, u4, u5⟩ := cL6 (H8.on q9).h; obtain ⟨f0, f1, f2, f3, f4, f5⟩ := fZ6 (H8.on q9).h) | (obtain rfl := p9' h0; have q9 := o9.full))
                · have hb9 := hb8.trans (q9.mono hb8.size)
                  obtain ⟨X, hX, KX, NX, OX⟩ := storeV (k' := 3) (p' := (E.2.1 : Int)) (s' := s9) (A' := A9) (n' := l9.length) (c' := c9) (S' := ⟨#[]⟩) (B' := none) (m' := 0) (d' := 0) (H8.on q9)
                  rw [hX]
                  exact ret_cellT rfl Tryz.underlying27 val_size rfl rfl KX.h rfl ⟨.of_below (hb9.trans (NX.low.mono (by omega))), fun _ => ⟨_, rfl, s9, A9, c9, l9, by rw [kd_ok h0], I9.nudge NX⟩, fun h => absurd h0 h⟩
                · exact ⟨rfl, .of_below (hb8.trans (q9.mono hb8.size)), fun h => absurd h h0, fun _ => rfl⟩
              · have kf : decide ((m : Int) < 20) = false := decide_eq_false (by omega)
                rw [pow_large pw (by omega : 20 ≤ m)] at hE4
                obtain ⟨j, hj⟩ : ∃ j, m - 20 = j := ⟨_, rfl⟩
                have hma : IntKind.i64.wrap ((m : Int) - 20) = (j : Int) := by rw [IntKind.wrap_i64]; omega
                rw [hj] at hE4
                have hj28 : j ≤ 2820 := by omega
                have tb := lz_ten_big j hj28
                have t0 : (10 : Int) ^ j ≠ 0 := by have := ten_pos j; omega
                have T1 := fun W' (h : Below wc.heap.size wc W') => powers1_any g j hj28 W' (P8.on h)
                have N1 := fun W' (h : Below wc.heap.size wc W') s A c l (I : IV W' s A c l (10 ^ j)) => nearest_z s8 s A8 A c8 c l8 l pw (10 ^ j) W' (IG.on h) I lpw (tb.mono (by decide)) t0
                have e4 : Lz 300 (nearZ pw (10 ^ j)) := lpw.le (near_ten pw j)
                have U1 := fun W' s A c l (I : IV W' s A c l (nearZ pw (10 ^ j))) => units_z s A c l (nearZ pw (10 ^ j)) W' I e4
                rw [hE4] at U1
                clear hE4 hE1 tb e4 t0 hpw0 hj hj28
                generalize nearZ pw (10 ^ j) = nz at *
                generalize (10 : Int) ^ j = tp at *
                go_upto_region 15 with fail
                obtain ⟨g0, g1⟩ := cL2 KG.h
                clear y0
                refine wp_region_any (by kernel_rfl) ?_
                refine pT 1 (Value.func (Fn.func 150) #[] #[Value.pointer (some ⟨g, 0, none⟩)]) ?_
                try simp only [Act.put, aQ, bQ, cQ]
                refine pT 2 (Value.int .i64 (m : Int)) ?_
                try simp only [Act.put, aQ, bQ, cQ]
                refine pT 3 (Value.int .i64 (j : Int)) ?_
                try simp only [Act.put, aQ, bQ, cQ]
                refine wpAny_of_F (S := fun w'' => w''.cell? ⟨G, 0, none⟩ = some (.bool s8) ∧ w''.cell? ⟨G, 1, none⟩ = some (.slice A8 l8.length c8)) (late := [7]) _ _ _ _ ?_
                refine fT 0 6 (Value.agg #[.bool s8, .slice A8 l8.length c8]) ⟨g0, g1⟩ ?_
                try simp only [Act.put, aQ, bQ, cQ]
                refine wpAnyF_one (i := 4) (by kernel_rfl) rfl (fun K hK => ?_)
                go_simp
                go_at_call 150; refine (T1 _ (below_drew (Below.refl wc.heap.size wc))).mono ?_; rintro e w11 ⟨s11, A11, c11, l11, rfl, I11, b11⟩; have q11 := (below_drew (Below.refl wc.heap.size wc)).trans b11; replace g0 := cell_at (KG.on q11).h 0 _ rfl; replace g1 := cell_at (KG.on q11).h 1 _ rfl
                go_wp2_with fail
                refine hK.out _ _ (Or.inr ⟨g0, g1⟩) ?_
                clear hK K
                try simp only [Act.put, aQ, bQ, cQ]
                refine wpAnyF_one (i := 5) (by kernel_rfl) rfl (fun K hK => ?_)
                go_simp
                go_at_call 84; refine (N1 _ q11 _ _ _ _ I11).mono ?_; rintro e w12 ⟨s12, A12, c12, l12, rfl, I12, b12⟩; have q12 := q11.trans (b12.mono q11.size); replace g0 := cell_at (KG.on q12).h 0 _ rfl; replace g1 := cell_at (KG.on q12).h 1 _ rfl
                go_wp2_with fail
                refine hK.out _ _ (Or.inr ⟨g0, g1⟩) ?_
                clear hK K
                try simp only [Act.put, aQ, bQ, cQ]
                refine wpAnyF_one (i := 6) (by kernel_rfl) rfl (fun K hK => ?_)
                go_simp
                go_at_call 83; refine (U1 _ _ _ _ _ I12).mono ?_; rintro e w13 ⟨o13, p13, p13'⟩; have q13 := q12.trans (o13.full.mono q12.size)
                have hb13 := hb8.trans (q13.mono hb8.size)
                by_cases h0 : E.2.2 = 0
                · obtain ⟨v, rfl, s13, A13, c13, l13, rfl, I13⟩ := p13 h0
                  rw [kd_ok h0]
                  have K13 := H8.on q13
                  replace g0 := cell_at (KG.on q13).h 0 _ rfl; replace g1 := cell_at (KG.on q13).h 1 _ rfl
                  go_wp2_with fail
                  refine hK.out _ _ (Or.inr ⟨g0, g1⟩) ?_
                  clear hK K
                  try simp only [Act.put, aQ, bQ, cQ]
                  obtain ⟨ka0, ka1, ka2, ka3, ka4, ka5⟩ := cL6 K13.h
                  obtain ⟨kb0, kb1, kb2, kb3, kb4, kb5⟩ := fZ6 K13.h
                  refine wpAnyF_one (i := 7) (by kernel_rfl) rfl (fun K hK => ?_)
                  go_simp
                  refine hK.out _ _ (Or.inl (by decide)) ?_
                  clear hK K
                  try simp only [Act.put, aQ, bQ, cQ]
                  refine wpAnyF_done (by kernel_rfl) ?_ _
                  obtain ⟨X, hX, KX, NX, OX⟩ := storeV (k' := 3) (p' := (E.2.1 : Int)) (s' := s13) (A' := A13) (n' := l13.length) (c' := c13) (S' := ⟨#[]⟩) (B' := none) (m' := 0) (d' := 0) K13
                  rw [hX]
                  go_wp2_with fail
                  exact ret_cellT rfl Tryz.underlying27 val_size rfl rfl KX.h rfl ⟨.of_below (hb13.trans (NX.low.mono (by omega))), fun _ => ⟨_, rfl, s13, A13, c13, l13, by rw [kd_ok h0], I13.nudge NX⟩, fun h => absurd h0 h⟩
                · obtain rfl := p13' h0
                  go_wp2_with fail
                  exact ⟨rfl, .of_below hb13, fun h => absurd h h0, fun _ => rfl⟩
           · have hF : fitZ pw = (0, 3) := by unfold fitZ; rw [if_neg hfit]
             rw [hF] at hPow
             rw [if_neg hfit] at hE1
             dsimp only at hPow
             clear hF hfit hn0
             replace hE1 := Lib.hid hE1.symm
             go_enter Tryz.func76, Tryz.ntmps76
             go_upto_region 10 with first
              | (go_at_call 80; have hmark := q5; refine (powers_z _).mono ?_; rintro e w7 ⟨g, rfl, P7, b7, hg7⟩; have q7 := q5.trans (b7.mono q5.size); have y0 := cell_at (Lk.on q7).h 0 _ rfl; obtain ⟨x0, x1, x2, x3, x4, x5⟩ := cL6 (L1.on q7).h)
              | (go_at_call 77; refine hdc.mono ?_; rintro e w5 ⟨hw, b5⟩; obtain rfl := hw.1 rfl; have q5 := a1.trans (b5.mono a1.size); have y0 := cell_at (Lk.on q5).h 0 _ rfl; obtain ⟨x0, x1, x2, x3, x4, x5⟩ := cL6 (L1.on q5).h)
             have LX := L1.on q7
             have hb7 := hbW.trans (q7.mono hbW.size)
             have hPow2 := fun W' (h : Below w7.heap.size w7 W') => hPow W' (q7.trans (h.mono q7.size))
             have r0 := cell_at LX.h 1 _ rfl
             have r1 := cell_at LX.h 2 _ rfl
             have r2 := cell_at LX.h 3 _ rfl
             clear x0 x1 x2 x3 x4 x5 y0 hdc a1 hPow hW L1 Lk J1 K0 Ka Kk
             refine wp_region_any (by kernel_rfl) ?_
             refine pT 0 (Value.pointer (some ⟨ga, 2, none⟩)) ?_
             try simp only [Act.put, aQ, bQ, cQ]
             refine pT 2 (Value.int .i64 (t : Int)) ?_
             try simp only [Act.put, aQ, bQ, cQ]
             refine pT 7 (Value.pointer (some ⟨ga, 1, none⟩)) ?_
             try simp only [Act.put, aQ, bQ, cQ]
             refine pT 9 (Value.int .i64 (t : Int)) ?_
             try simp only [Act.put, aQ, bQ, cQ]
             refine wpAny_of_F (S := fun w'' => w''.cell? ⟨ga, 1, none⟩ = some (.int .i64 (p : Int)) ∧ w''.cell? ⟨ga, 2, none⟩ = some (.bool n1) ∧ w''.cell? ⟨ga, 3, none⟩ = some (.slice A1 l1.length c1)) (late := []) _ _ _ _ ?_
             refine fT 1 6 (Value.agg #[.bool n1, .slice A1 l1.length c1]) ⟨r0, r1, r2⟩ ?_
             try simp only [Act.put, aQ, bQ, cQ]
             refine fT 8 6 (Value.int .i64 (p : Int)) ⟨r0, r1, r2⟩ ?_
             try simp only [Act.put, aQ, bQ, cQ]
             refine fT 10 6 (Value.int .i64 (m : Int)) ⟨r0, r1, r2⟩ ?_
             try simp only [Act.put, aQ, bQ, cQ]
             refine wpAnyF_two (i := 3) (j := 11) (by kernel_rfl) rfl rfl (fun K hK => ?_) (fun K hK => ?_)
             · go_simp
               go_at_call 82; refine (hPow2 _ (below_drew (Below.refl w7.heap.size w7))).mono ?_; rintro e w30 ⟨s30, A30, c30, l30, rfl, z30, n30, r30, b30⟩; have q30 := below_via (below_drew (Below.refl w7.heap.size w7)) b30; replace r0 := cell_at (LX.on q30).h 1 _ rfl; replace r1 := cell_at (LX.on q30).h 2 _ rfl; replace r2 := cell_at (LX.on q30).h 3 _ rfl
               go_wp2_with fail
               refine hK.out _ _ (Or.inr ⟨r0, r1, r2⟩) ?_
               clear hK K
               try simp only [Act.put, aQ, bQ, cQ]
               refine fT 4 6 (Value.agg #[.bool s30, .slice A30 l30.length c30]) ⟨r0, r1, r2⟩ ?_
               try simp only [Act.put, aQ, bQ, cQ]
               refine fT 5 6 (Value.int .i64 3) ⟨r0, r1, r2⟩ ?_
               try simp only [Act.put, aQ, bQ, cQ]
               refine wpAnyF_two (i := 6) (j := 11) (by kernel_rfl) rfl rfl (fun K hK => ?_) (fun K hK => ?_)
               · go_simp
                 go_at_call 81; refine (must_no s30 A30 l30.length c30 3 (by decide) _).mono ?_; rintro e w31 ⟨rfl, b31⟩
                 go_wp2_with fail
                 exact ⟨rfl, PostV.no hE1.out (by decide) (.of_below (hb7.trans ((below_via q30 b31).mono hb7.size)))⟩
               · go_simp
                 refine hK.out _ _ (Or.inr ⟨cell_al _ r0, cell_al _ r1, cell_al _ r2⟩) ?_
                 clear hK K
                 try simp only [Act.put, aQ, bQ, cQ]
                 have r0' := r0
                 refine wpAnyF_one (i := 6) (by kernel_rfl) rfl (fun K hK => ?_)
                 go_simp
                 go_at_call 81; refine (must_no s30 A30 l30.length c30 3 (by decide) _).mono ?_; rintro e w31 ⟨rfl, b31⟩
                 go_wp2_with fail
                 exact ⟨rfl, PostV.no hE1.out (by decide) (.of_below (hb7.trans ((below_via (below_al q30 _) b31).mono hb7.size)))⟩
             · go_simp
               refine hK.out _ _ (Or.inr ⟨cell_al _ r0, cell_al _ r1, cell_al _ r2⟩) ?_
               clear hK K
               try simp only [Act.put, aQ, bQ, cQ]
               have r0' := r0
               refine wpAnyF_one (i := 3) (by kernel_rfl) rfl (fun K hK => ?_)
               go_simp
               go_at_call 82; refine (hPow2 _ (below_drew (below_al (Below.refl w7.heap.size w7) _))).mono ?_; rintro e w30 ⟨s30, A30, c30, l30, rfl, z30, n30, r30, b30⟩; have q30 := below_via (below_drew (below_al (Below.refl w7.heap.size w7) _)) b30; replace r0 := cell_at (LX.on q30).h 1 _ rfl; replace r1 := cell_at (LX.on q30).h 2 _ rfl; replace r2 := cell_at (LX.on q30).h 3 _ rfl
               go_wp2_with fail
               refine hK.out _ _ (Or.inr ⟨r0, r1, r2⟩) ?_
               clear hK K
               try simp only [Act.put, aQ, bQ, cQ]
               refine fT 4 6 (Value.agg #[.bool s30, .slice A30 l30.length c30]) ⟨r0, r1, r2⟩ ?_
               try simp only [Act.put, aQ, bQ, cQ]
               refine fT 5 6 (Value.int .i64 3) ⟨r0, r1, r2⟩ ?_
               try simp only [Act.put, aQ, bQ, cQ]
               refine wpAnyF_one (i := 6) (by kernel_rfl) rfl (fun K hK => ?_)
               go_simp
               go_at_call 81; refine (must_no s30 A30 l30.length c30 3 (by decide) _).mono ?_; rintro e w31 ⟨rfl, b31⟩
               go_wp2_with fail
               exact ⟨rfl, PostV.no hE1.out (by decide) (.of_below (hb7.trans ((below_via q30 b31).mono hb7.size)))⟩
theorem pow1_all (a : VA) (n : Int) (hn1 : -9223372036854775808 ≤ n) (hn2 : n < 9223372036854775808) (ga gn : Nat) (w : World) (Ka : Blk w ga #[.int .i64 a.k, .int .i64 a.p, .bool a.s, .slice a.A a.l.length a.c, .string a.S, .slice a.B a.m a.d] 27) (Kk : Blk w gn #[.int .i64 n] 3) (ha : a.At w) :
 Calls Tryz.prog 76 #[.pointer (some ⟨ga, 0, none⟩), .pointer (some ⟨gn, 0, none⟩)] w (PostV (fun _ => False) (powX a n) w) := by
 unfold powX
 cases hok : a.ok
 · rw [one_no hok]
   exact pow1_no a n ga gn w Ka ha hok
 · rw [one_ok hok]
   obtain ⟨p, s1, A1, c1, l1, B1, d1, e1, i1, D1, -, q1⟩ := VA.destruct ha.rd.words hok
   rw [q1]
   generalize a.z = za at *
   subst e1
   exact pow1_z s1 A1 c1 l1 za p n hn1 hn2 B1 d1 ga gn w Ka Kk ⟨ha.rd, ha.cap, i1⟩ D1
theorem DPow_calls (a : VA) (n : Int) (hn1 : -9223372036854775808 ≤ n) (hn2 : n < 9223372036854775808) (w : World) (ha : a.At w) :
 Calls Tryz.prog 18 #[a.val, .int .i64 n] w (RetV (powX a n) w) := by
 have hmf := mkf
 obtain ⟨W, hW, hbW, K0, K1, K2, hszW⟩ := box3 w #[.int .i64 a.k, .int .i64 a.p, .bool a.s, .slice a.A a.l.length a.c, .string a.S, .slice a.B a.m a.d] 27 #[.int .i64 n] 3 (vcells 0 0 false none 0 0 ⟨#[]⟩ none 0 0) 27
 have hv := value_calls (fun _ => False) 76 #[.pointer (some ⟨w.heap.size, 0, none⟩), .pointer (some ⟨w.heap.size + 1, 0, none⟩)] (enters_of Tryz.func76 (by kernel_rfl) rfl) (powX a n) (bare_one (bare_if (bare_err 1) (bare_if (bare_err 20) (bare_if (bare_err 3) (bare_if (bare_if (bare_strip _) (bare_strip _)) (bare_err 3)))))) W (fun _ h => h.elim) (fun _ => True) (fun W' h => Calls.mono (pow1_all a n hn1 hn2 _ _ W' (K0.on h) (K1.on h) ((ha.on hbW).on h)) fun _ _ h => ⟨h, trivial⟩)
 obtain ⟨x, hx⟩ : ∃ x, powX a n = x := ⟨_, rfl⟩
 rw [hx] at hv ⊢
 obtain ⟨z, p, er⟩ := x
 dsimp only at hv
 clear hx
 replace hszW := Lib.hid hszW
 go_enter Tryz.func18, Tryz.ntmps18
 go_wp2_with (go_at_call 75; refine hv.mono ?_; rintro e w5 ⟨⟨v, rfl, s5, A5, c5, l5, rfl, I5⟩, o5, -⟩; have K5 := K2.on o5.full; obtain ⟨u0, u1, u2, u3, u4, u5⟩ := cL6 K5.h; obtain ⟨f0, f1, f2, f3, f4, f5⟩ := fZ6 K5.h)
 obtain ⟨X, hX, KX, NX, OX⟩ := storeV (k' := kd (z, p, er)) (p' := (p : Int)) (s' := s5) (A' := A5) (n' := l5.length) (c' := c5) (S' := ⟨#[]⟩) (B' := none) (m' := 0) (d' := 0) K5
 rw [hX]
 have hb5 := hbW.trans (o5.full.mono hbW.size)
 exact ret_cellT_tmp rfl Tryz.underlying27 val_size rfl rfl KX.h rfl ⟨_, rfl, ⟨s5, A5, c5, l5, rfl, I5.nudge NX⟩, hb5.trans (NX.low.mono (by omega))⟩
end Dc
end Go.Proofs.YtjghnghceeijeaaGreatDoor
