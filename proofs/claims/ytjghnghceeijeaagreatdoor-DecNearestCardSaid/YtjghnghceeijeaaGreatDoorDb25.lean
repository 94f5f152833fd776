/-
  Contracts of the walks below.
-/
import Derived.Test.YtjghnghceeijeaaGreatDoorDb24
set_option maxRecDepth 100000
set_option maxHeartbeats 4000000
set_option linter.unusedVariables false
set_option linter.unusedSimpArgs false
namespace Go.Proofs.YtjghnghceeijeaaGreatDoor
namespace Dc
open Go.RowKit Go.Shelf Go.BigFrame Go.Proofs.YtjghnghceeijeaaGreatDoor.Nm
attribute [local go_sem] Oper.semAt_some
theorem near_abs (n d : Int) (hd : d ≠ 0) : (nearZ n d).natAbs ≤ n.natAbs + 1 := by
 have h : ∀ (n d : Int), 0 < d → (nearP n d).natAbs ≤ n.natAbs + 1 := fun n d hd => by
  have h1 := Int.natAbs_ediv_le_natAbs n d
  unfold nearP
  split <;> omega
 unfold nearZ
 split
 · have := h (-n) (-d) (by omega); rwa [Int.natAbs_neg] at this
 · exact h n d (by omega)
theorem Lz.near {k : Nat} {n d : Int} (h : Lz k n) (hd : d ≠ 0) : Lz (k + 1) (nearZ n d) := by
 refine Lz.of ?_
 have h1 := near_abs n d hd
 have h2 := h.lt
 have h3 : BB ^ (k + 1) = BB ^ k * BB := Nat.pow_succ ..
 have h4 : BB ^ k * 2 ≤ BB ^ k * BB := Nat.mul_le_mul_left _ (by decide)
 omega
theorem bare_if {c : Prop} [Decidable c] {x y : DR} (hx : Bare x) (hy : Bare y) : Bare (if c then x else y) := by
 split
 · exact hx
 · exact hy
theorem frac1_no (a b : VA) (ga gb go : Nat) (w : World) (Ka : Blk w ga #[.int .i64 a.k, .int .i64 a.p, .bool a.s, .slice a.A a.l.length a.c, .string a.S, .slice a.B a.m a.d] 27) (Kb : Blk w gb #[.int .i64 b.k, .int .i64 b.p, .bool b.s, .slice b.A b.l.length b.c, .string b.S, .slice b.B b.m b.d] 27) (ha : a.At w) (hb : b.At w) (hno : (a.ok && b.ok) = false) :
 Calls Tryz.prog 195 #[.pointer (some ⟨ga, 0, none⟩), .pointer (some ⟨gb, 0, none⟩), .pointer (some ⟨go, 0, none⟩)] w (PostV (fun _ => False) (err 2) w) := by
 obtain ⟨W, hW, hbW, K0, hszW⟩ := box1 w (vcells 0 0 false none 0 0 ⟨#[]⟩ none 0 0) 27
 have hdc := decimals_c W.heap.size [a, b] (W.alloc (.cells #[.int .i64 a.k, .int .i64 a.p, .bool a.s, .slice a.A a.l.length a.c, .string a.S, .slice a.B a.m a.d, .int .i64 b.k, .int .i64 b.p, .bool b.s, .slice b.A b.l.length b.c, .string b.S, .slice b.B b.m b.d] 27)) (by simp) (vals_two a b _ _ ⟨World.alloc_heap_new W _⟩ ((ha.on hbW).on (al1 W _)) ((hb.on hbW).on (al1 W _))) (by simp)
 rw [decE_two, if_neg (by rw [hno]; decide)] at hdc
 clear hno
 obtain ⟨x0, x1, x2, x3, x4, x5⟩ := cL6 (Ka.on hbW).h
 obtain ⟨y0, y1, y2, y3, y4, y5⟩ := cL6 (Kb.on hbW).h
 clear hszW
 go_enter Tryz.func195, Tryz.ntmps195
 go_wp2_with (go_at_call 77; refine hdc.mono ?_; rintro e w5 ⟨hw, b5⟩; obtain rfl := hw.2 (by decide))
 exact ⟨rfl, PostV.no rfl (by decide) (.of_below (hbW.trans (((al1 W _).trans (b5.mono (al1 W _).size)).mono hbW.size)))⟩
theorem frac1_div (n1 n2 : Bool) (A1 A2 : Option Addr) (c1 c2 : Nat) (l1 l2 : List Nat) (z1 z2 : Int) (p q : Nat) (B1 B2 : Option Addr) (d1 d2 ga gb go : Nat) (w : World) (Ka : Blk w ga #[.int .i64 3, .int .i64 (p : Int), .bool n1, .slice A1 l1.length c1, .string ⟨#[]⟩, .slice B1 0 d1] 27) (Kb : Blk w gb #[.int .i64 3, .int .i64 (q : Int), .bool n2, .slice A2 l2.length c2, .string ⟨#[]⟩, .slice B2 0 d2] 27) (Ko : Blk w go #[Value.func (.func 119) #[] #[]] 126) (I1 : IV w n1 A1 c1 l1 z1) (I2 : IV w n2 A2 c2 l2 z2) (D1 : IsD z1 p) (D2 : IsD z2 q) :
 Calls Tryz.prog 195 #[.pointer (some ⟨ga, 0, none⟩), .pointer (some ⟨gb, 0, none⟩), .pointer (some ⟨go, 0, none⟩)] w (PostV (fun _ => False) (if z2 * 10 ^ p = 0 then err 20 else stripE (nearZ (z1 * 10 ^ q * 10 ^ 20) (z2 * 10 ^ p))) w) := by
 obtain ⟨W, hW, hbW, K0, hszW⟩ := box1 w (vcells 0 0 false none 0 0 ⟨#[]⟩ none 0 0) 27
 have ha : (VA.mk 3 (p : Int) n1 A1 c1 l1 ⟨#[]⟩ B1 0 d1).At W := ⟨(I1.on hbW).rd, I1.cap⟩
 have hb : (VA.mk 3 (q : Int) n2 A2 c2 l2 ⟨#[]⟩ B2 0 d2).At W := ⟨(I2.on hbW).rd, I2.cap⟩
 have hdc := decimals_c W.heap.size [(VA.mk 3 (p : Int) n1 A1 c1 l1 ⟨#[]⟩ B1 0 d1), (VA.mk 3 (q : Int) n2 A2 c2 l2 ⟨#[]⟩ B2 0 d2)] (W.alloc (.cells #[.int .i64 3, .int .i64 (p : Int), .bool n1, .slice A1 l1.length c1, .string ⟨#[]⟩, .slice B1 0 d1, .int .i64 3, .int .i64 (q : Int), .bool n2, .slice A2 l2.length c2, .string ⟨#[]⟩, .slice B2 0 d2] 27)) (by simp) (vals_two (VA.mk 3 (p : Int) n1 A1 c1 l1 ⟨#[]⟩ B1 0 d1) (VA.mk 3 (q : Int) n2 A2 c2 l2 ⟨#[]⟩ B2 0 d2) _ _ ⟨World.alloc_heap_new W _⟩ (ha.on (al1 W _)) (hb.on (al1 W _))) (by simp)
 rw [decE_two, VA.ok_made I1.isZ D1, VA.ok_made I2.isZ D2, Bool.and_self, if_pos rfl] at hdc
 have hpw := fun W' => powers_z W'
 have hof := fun W' (h : Below W.heap.size W W') g (hP : Pows W' g) => div1_z n1 n2 A1 A2 c1 c2 l1 l2 z1 z2 p q B1 B2 d1 d2 g D1.hi D2.hi W' ((I1.on hbW).on h) ((I2.on hbW).on h) D1.lz D2.lz hP
 have eN : Lz 80 (z1 * 10 ^ q) := (D1.lz.mul (lz_ten q (by have := D2.hi; omega))).mono (by decide)
 have eD : Lz 43 (z2 * 10 ^ p) := (D2.lz.mul (lz_ten p (by have := D1.hi; omega))).mono (by decide)
 generalize z1 * 10 ^ q = x at *
 generalize z2 * 10 ^ p = y at *
 obtain ⟨E, hE⟩ : ∃ E, (if y = 0 then err 20 else stripE (nearZ (x * 10 ^ 20) y)) = E := ⟨_, rfl⟩
 rw [hE]
 replace hE := Lib.hid hE
 replace eN := Lib.hid eN
 replace eD := Lib.hid eD
 clear D1 D2 ha hb
 obtain ⟨x0, x1, x2, x3, x4, x5⟩ := cL6 (Ka.on hbW).h
 obtain ⟨y0, y1, y2, y3, y4, y5⟩ := cL6 (Kb.on hbW).h
 have o0 := cell_at (Ko.on hbW).h 0 _ rfl
 have a1 := al1 W (.cells #[.int .i64 3, .int .i64 (p : Int), .bool n1, .slice A1 l1.length c1, .string ⟨#[]⟩, .slice B1 0 d1, .int .i64 3, .int .i64 (q : Int), .bool n2, .slice A2 l2.length c2, .string ⟨#[]⟩, .slice B2 0 d2] 27)
 replace hszW := Lib.hid hszW
 go_enter Tryz.func195, Tryz.ntmps195
 go_upto_region 4 with first
  | (go_at_call 119; have hmark := q6; refine (hof _ q6 g P6).mono ?_; rintro e w7 ⟨s7, A7, c7, l7, s8, A8, c8, l8, rfl, I7, I8, b7⟩)
  | (go_at_call 80; have hmark := q5; refine (hpw _).mono ?_; rintro e w6 ⟨g, rfl, P6, b6, hg6⟩; have q6 := q5.trans (b6.mono q5.size); obtain ⟨x0, x1, x2, x3, x4, x5⟩ := cL6 ((Ka.on hbW).on q6).h; obtain ⟨y0, y1, y2, y3, y4, y5⟩ := cL6 ((Kb.on hbW).on q6).h; have o0 := cell_at ((Ko.on hbW).on q6).h 0 _ rfl)
  | (go_at_call 77; refine hdc.mono ?_; rintro e w5 ⟨hw, b5⟩; obtain rfl := hw.1 rfl; have q5 := a1.trans (b5.mono a1.size); obtain ⟨x0, x1, x2, x3, x4, x5⟩ := cL6 ((Ka.on hbW).on q5).h; obtain ⟨y0, y1, y2, y3, y4, y5⟩ := cL6 ((Kb.on hbW).on q5).h; have o0 := cell_at ((Ko.on hbW).on q5).h 0 _ rfl)
 obtain ⟨W8, hW8, hbW8, R0, R1, hszW8⟩ := box2 w7 #[.bool s7, .slice A7 l7.length c7] 24 #[.bool s8, .slice A8 l8.length c8] 24
 rw [hW8]
 have q7 := q6.trans (b7.mono q6.size)
 have q8 := q7.trans (hbW8.mono q7.size)
 have P8 := (P6.on b7).on hbW8
 have J7 := I7.on hbW8
 have J8 := I8.on hbW8
 have L0 := K0.on q8
 have hb8 := hbW.trans (q8.mono hbW.size)
 have lt8 : w.heap.size + 1 ≤ w7.heap.size := by have := q7.size; have := hszW.out; omega
 clear x0 x1 x2 x3 x4 x5 y0 y1 y2 y3 y4 y5 o0 hW hW8 Ka Kb Ko K0 I1 I2 I7 I8 hdc hpw hof a1 P6
 obtain ⟨u0, u1⟩ := cL2 R0.h
 obtain ⟨v0, v1⟩ := cL2 R1.h
 have hzc := zero_c s8 A8 c8 l8 y W8 J8
 by_cases hy : y = 0
 · have hE2 := hE.out
   rw [if_pos hy] at hE2
   replace hE2 := Lib.hid hE2.symm
   rw [decide_eq_true hy] at hzc
   clear hy hE
   go_wp2_with first
    | (go_at_call 78; have hmark := b9; refine (need_no 20 (by decide) _).mono ?_; rintro e w10 ⟨rfl, rfl⟩)
    | (go_at_call 79; refine hzc.mono ?_; rintro e w9 ⟨rfl, b9⟩)
   exact ⟨rfl, PostV.no hE2.out (by decide) (.of_below (hb8.trans (b9.mono hb8.size)))⟩
 · have hE2 := hE.out
   rw [if_neg hy] at hE2
   rw [decide_eq_false hy] at hzc
   have t20 := lz_ten 20 (by decide)
   have T1 := fun W' (h : Below W8.heap.size W8 W') => powers1_z g 20 (by decide) W' (P8.on h)
   have M1 := fun W' (h : Below W8.heap.size W8 W') s A c l (I : IV W' s A c l (10 ^ 20)) => mul_z s7 s A7 A c7 c l7 l x (10 ^ 20) W' (J7.on h) I (eN.out.mono (by decide)) (t20.mono (by decide)) ((eN.out.mul t20).mono (by decide))
   have e3 := eN.out.mul t20
   have N1 := fun W' (h : Below W8.heap.size W8 W') s A c l (I : IV W' s A c l (x * 10 ^ 20)) => nearest_z s s8 A A8 c c8 l l8 (x * 10 ^ 20) y W' I (J8.on h) (e3.mono (by decide)) (eD.out.mono (by decide)) hy
   have e4 := e3.near hy
   have U1 := fun W' s A c l (I : IV W' s A c l (nearZ (x * 10 ^ 20) y)) => units_z s A c l (nearZ (x * 10 ^ 20) y) W' I (e4.mono (by decide))
   rw [hE2] at U1
   clear hE2 hE e3 e4 t20 hy
   generalize nearZ (x * 10 ^ 20) y = nz at *
   generalize x * 10 ^ 20 = xt at *
   generalize (10 : Int) ^ 20 = tt at *
   go_upto_region 6 with first
    | (go_at_call 79; refine hzc.mono ?_; rintro e w9 ⟨rfl, b9⟩)
   replace u0 := cell_at (R0.on b9).h 0 _ rfl
   replace u1 := cell_at (R0.on b9).h 1 _ rfl
   replace v0 := cell_at (R1.on b9).h 0 _ rfl
   replace v1 := cell_at (R1.on b9).h 1 _ rfl
   refine wp_region_any (by kernel_rfl) ?_
   refine pT 1 (Value.func (Fn.func 150) #[] #[Value.pointer (some ⟨g, 0, none⟩)]) ?_
   try simp only [Act.put, aQ, bQ, cQ]
   refine wpAny_of_F (S := fun w'' => w''.cell? ⟨w7.heap.size, 0, none⟩ = some (.bool s7) ∧ w''.cell? ⟨w7.heap.size, 1, none⟩ = some (.slice A7 l7.length c7) ∧ w''.cell? ⟨w7.heap.size + 1, 0, none⟩ = some (.bool s8) ∧ w''.cell? ⟨w7.heap.size + 1, 1, none⟩ = some (.slice A8 l8.length c8)) (late := [7]) _ _ _ _ ?_
   refine fT 0 6 (Value.agg #[.bool s7, .slice A7 l7.length c7]) ⟨u0, u1, v0, v1⟩ ?_
   try simp only [Act.put, aQ, bQ, cQ]
   refine fT 4 6 (Value.agg #[.bool s8, .slice A8 l8.length c8]) ⟨u0, u1, v0, v1⟩ ?_
   try simp only [Act.put, aQ, bQ, cQ]
   refine wpAnyF_one (i := 2) (by kernel_rfl) rfl (fun K hK => ?_)
   go_simp
   go_at_call 150; refine (T1 _ (b9.trans (below_drew (Below.refl _ w9)))).mono ?_; rintro e w10 ⟨s10, A10, c10, l10, rfl, I10, b10⟩; have q10 := (b9.trans (below_drew (Below.refl _ w9))).trans (b10.mono b9.size); replace u0 := cell_at (R0.on q10).h 0 _ rfl; replace u1 := cell_at (R0.on q10).h 1 _ rfl; replace v0 := cell_at (R1.on q10).h 0 _ rfl; replace v1 := cell_at (R1.on q10).h 1 _ rfl
   go_wp2_with fail
   refine hK.out _ _ (Or.inr ⟨u0, u1, v0, v1⟩) ?_
   clear hK K
   try simp only [Act.put, aQ, bQ, cQ]
   refine wpAnyF_one (i := 3) (by kernel_rfl) rfl (fun K hK => ?_)
   go_simp
   go_at_call 87; refine (M1 _ q10 _ _ _ _ I10).mono ?_; rintro e w11 ⟨s11, A11, c11, l11, rfl, I11, b11⟩; have q11 := q10.trans (b11.mono q10.size); replace u0 := cell_at (R0.on q11).h 0 _ rfl; replace u1 := cell_at (R0.on q11).h 1 _ rfl; replace v0 := cell_at (R1.on q11).h 0 _ rfl; replace v1 := cell_at (R1.on q11).h 1 _ rfl
   go_wp2_with fail
   refine hK.out _ _ (Or.inr ⟨u0, u1, v0, v1⟩) ?_
   clear hK K
   try simp only [Act.put, aQ, bQ, cQ]
   refine wpAnyF_one (i := 5) (by kernel_rfl) rfl (fun K hK => ?_)
   go_simp
   go_at_call 84; refine (N1 _ q11 _ _ _ _ I11).mono ?_; rintro e w12 ⟨s12, A12, c12, l12, rfl, I12, b12⟩; have q12 := q11.trans (b12.mono q11.size); replace u0 := cell_at (R0.on q12).h 0 _ rfl; replace u1 := cell_at (R0.on q12).h 1 _ rfl; replace v0 := cell_at (R1.on q12).h 0 _ rfl; replace v1 := cell_at (R1.on q12).h 1 _ rfl
   go_wp2_with fail
   refine hK.out _ _ (Or.inr ⟨u0, u1, v0, v1⟩) ?_
   clear hK K
   try simp only [Act.put, aQ, bQ, cQ]
   refine wpAnyF_one (i := 6) (by kernel_rfl) rfl (fun K hK => ?_)
   go_simp
   go_at_call 83; refine (U1 _ _ _ _ _ I12).mono ?_; rintro e w13 ⟨o13, p13, p13'⟩; have q13 := q12.trans (o13.full.mono q12.size)
   have hb13 := hb8.trans (q13.mono hb8.size)
   by_cases h0 : E.2.2 = 0
   · obtain ⟨v, rfl, s13, A13, c13, l13, rfl, I13⟩ := p13 h0
     rw [kd_ok h0]
     have K13 := L0.on q13
     replace u0 := cell_at (R0.on q13).h 0 _ rfl; replace u1 := cell_at (R0.on q13).h 1 _ rfl; replace v0 := cell_at (R1.on q13).h 0 _ rfl; replace v1 := cell_at (R1.on q13).h 1 _ rfl
     go_wp2_with fail
     refine hK.out _ _ (Or.inr ⟨u0, u1, v0, v1⟩) ?_
     clear hK K
     try simp only [Act.put, aQ, bQ, cQ]
     obtain ⟨i0, i1, i2, i3, i4, i5⟩ := cL6 K13.h
     obtain ⟨j0, j1, j2, j3, j4, j5⟩ := fZ6 K13.h
     refine wpAnyF_one (i := 7) (by kernel_rfl) rfl (fun K hK => ?_)
     go_simp
     refine hK.out _ _ (Or.inl (by decide)) ?_
     clear hK K
     try simp only [Act.put, aQ, bQ, cQ]
     refine wpAnyF_done (by kernel_rfl) ?_ _
     obtain ⟨X, hX, KX, NX, OX⟩ := storeV (k' := 3) (p' := (E.2.1 : Int)) (s' := s13) (A' := A13) (n' := l13.length) (c' := c13) (S' := ⟨#[]⟩) (B' := none) (m' := 0) (d' := 0) K13
     rw [hX]
     go_wp2_with fail
     exact ret_cellT rfl Tryz.underlying27 val_size rfl rfl KX.h rfl ⟨.of_below (hb13.trans (NX.low.mono (by omega))), fun _ => ⟨_, rfl, s13, A13, c13, l13, by rw [kd_ok h0], I13.nudge NX⟩, fun h => absurd h0 h⟩
   · obtain rfl := p13' h0
     go_wp2_with fail
     exact ⟨rfl, .of_below hb13, fun h => absurd h h0, fun _ => rfl⟩
theorem frac1_div_all (a b : VA) (ga gb go : Nat) (w : World) (Ka : Blk w ga #[.int .i64 a.k, .int .i64 a.p, .bool a.s, .slice a.A a.l.length a.c, .string a.S, .slice a.B a.m a.d] 27) (Kb : Blk w gb #[.int .i64 b.k, .int .i64 b.p, .bool b.s, .slice b.A b.l.length b.c, .string b.S, .slice b.B b.m b.d] 27) (Ko : Blk w go #[Value.func (.func 119) #[] #[]] 126) (ha : a.At w) (hb : b.At w) :
 Calls Tryz.prog 195 #[.pointer (some ⟨ga, 0, none⟩), .pointer (some ⟨gb, 0, none⟩), .pointer (some ⟨go, 0, none⟩)] w (PostV (fun _ => False) (divX a b) w) := by
 unfold divX
 cases hok : (a.ok && b.ok)
 · rw [two_no hok]
   exact frac1_no a b ga gb go w Ka Kb ha hb hok
 · rw [two_ok hok]
   rw [Bool.and_eq_true] at hok
   obtain ⟨p, s1, A1, c1, l1, B1, d1, e1, i1, D1, u1, -⟩ := VA.destruct ha.rd.words hok.1
   obtain ⟨q, s2, A2, c2, l2, B2, d2, e2, i2, D2, u2, -⟩ := VA.destruct hb.rd.words hok.2
   rw [u1, u2]
   generalize a.z = za at *
   generalize b.z = zb at *
   subst e1 e2
   have h := frac1_div s1 s2 A1 A2 c1 c2 l1 l2 za zb p q B1 B2 d1 d2 ga gb go w Ka Kb Ko ⟨ha.rd, ha.cap, i1⟩ ⟨hb.rd, hb.cap, i2⟩ D1 D2
   rw [div_units za zb D1.hi D2.hi] at h
   have e : (zb * 10 ^ p = 0) ↔ (zb = 0) := ⟨fun h => (Int.mul_eq_zero.1 h).resolve_right (by have := ten_pos p; omega), fun h => by rw [h, Int.zero_mul]⟩
   simp only [e] at h
   exact h
theorem fraction_div (a b : VA) (w : World) (ha : a.At w) (hb : b.At w) :
 Calls Tryz.prog 116 #[a.val, b.val, Value.func (.func 119) #[] #[]] w (RetV (divX a b) w) := by
 have hmf := mkf
 obtain ⟨W, hW, hbW, K0, K1, K2, K3, hszW⟩ := box4 w #[.int .i64 a.k, .int .i64 a.p, .bool a.s, .slice a.A a.l.length a.c, .string a.S, .slice a.B a.m a.d] 27 #[.int .i64 b.k, .int .i64 b.p, .bool b.s, .slice b.A b.l.length b.c, .string b.S, .slice b.B b.m b.d] 27 #[Value.func (.func 119) #[] #[]] 126 (vcells 0 0 false none 0 0 ⟨#[]⟩ none 0 0) 27
 have hv := value_calls (fun _ => False) 195 #[.pointer (some ⟨w.heap.size, 0, none⟩), .pointer (some ⟨w.heap.size + 1, 0, none⟩), .pointer (some ⟨w.heap.size + 1 + 1, 0, none⟩)] (enters_of Tryz.func195 (by kernel_rfl) rfl) (divX a b) (bare_two (bare_if (bare_err 20) (bare_strip _))) W (fun _ h => h.elim) (fun _ => True) (fun W' h => Calls.mono (frac1_div_all a b _ _ _ W' (K0.on h) (K1.on h) (K2.on h) ((ha.on hbW).on h) ((hb.on hbW).on h)) fun _ _ h => ⟨h, trivial⟩)
 obtain ⟨x, hx⟩ : ∃ x, divX a b = x := ⟨_, rfl⟩
 rw [hx] at hv ⊢
 obtain ⟨z, p, er⟩ := x
 dsimp only at hv
 clear hx
 replace hszW := Lib.hid hszW
 go_enter Tryz.func116, Tryz.ntmps116
 go_wp2_with (go_at_call 75; refine hv.mono ?_; rintro e w5 ⟨⟨v, rfl, s5, A5, c5, l5, rfl, I5⟩, o5, -⟩; have K5 := K3.on o5.full; obtain ⟨u0, u1, u2, u3, u4, u5⟩ := cL6 K5.h; obtain ⟨f0, f1, f2, f3, f4, f5⟩ := fZ6 K5.h)
 obtain ⟨X, hX, KX, NX, OX⟩ := storeV (k' := kd (z, p, er)) (p' := (p : Int)) (s' := s5) (A' := A5) (n' := l5.length) (c' := c5) (S' := ⟨#[]⟩) (B' := none) (m' := 0) (d' := 0) K5
 rw [hX]
 have hb5 := hbW.trans (o5.full.mono hbW.size)
 exact ret_cellT_tmp rfl Tryz.underlying27 val_size rfl rfl KX.h rfl ⟨_, rfl, ⟨s5, A5, c5, l5, rfl, I5.nudge NX⟩, hb5.trans (NX.low.mono (by omega))⟩
theorem DDiv_calls (a b : VA) (w : World) (ha : a.At w) (hb : b.At w) :
 Calls Tryz.prog 36 #[a.val, b.val] w (RetV (divX a b) w) := by
 obtain ⟨W, hW, hbW, K0, K1, K2, hszW⟩ := box3 w #[.int .i64 a.k, .int .i64 a.p, .bool a.s, .slice a.A a.l.length a.c, .string a.S, .slice a.B a.m a.d] 27 #[.int .i64 b.k, .int .i64 b.p, .bool b.s, .slice b.A b.l.length b.c, .string b.S, .slice b.B b.m b.d] 27 (vcells 0 0 false none 0 0 ⟨#[]⟩ none 0 0) 27
 obtain ⟨x0_0, x0_1, x0_2, x0_3, x0_4, x0_5⟩ := cL6 K0.h
 obtain ⟨x1_0, x1_1, x1_2, x1_3, x1_4, x1_5⟩ := cL6 K1.h
 have hv := fraction_div a b W (ha.on hbW) (hb.on hbW)
 obtain ⟨x, hx⟩ : ∃ x, divX a b = x := ⟨_, rfl⟩
 rw [hx] at hv ⊢
 obtain ⟨z, p, er⟩ := x
 clear hx
 replace hszW := Lib.hid hszW
 go_enter Tryz.func36, Tryz.ntmps36
 go_wp2_with (go_at_call 116; refine hv.mono ?_; rintro e w5 ⟨v, rfl, ⟨s5, A5, c5, l5, rfl, I5⟩, b5⟩; have o5 : Off (fun _ => False) W w5 := .of_below b5; have K5 := K2.on b5; obtain ⟨u0, u1, u2, u3, u4, u5⟩ := cL6 K5.h; obtain ⟨f0, f1, f2, f3, f4, f5⟩ := fZ6 K5.h)
 obtain ⟨X, hX, KX, NX, OX⟩ := storeV (k' := kd (z, p, er)) (p' := (p : Int)) (s' := s5) (A' := A5) (n' := l5.length) (c' := c5) (S' := ⟨#[]⟩) (B' := none) (m' := 0) (d' := 0) K5
 rw [hX]
 have hb5 := hbW.trans (o5.full.mono hbW.size)
 exact ret_cellT_tmp rfl Tryz.underlying27 val_size rfl rfl KX.h rfl ⟨_, rfl, ⟨s5, A5, c5, l5, rfl, I5.nudge NX⟩, hb5.trans (NX.low.mono (by omega))⟩
theorem madeE_id {z : Int} {p : Nat} (h : IsD z p) : madeE z p = (z, p, 0) :=
 madeE_of (madeZ_stop h.lo (by
  by_cases h' : 1 < p
  · exact .inr (h.ten h')
  · exact .inl (by omega))) h.lz
theorem IsD.neg {z : Int} {p : Nat} (h : IsD z p) : IsD (-z) p := ⟨h.lo, h.hi, by rw [Int.natAbs_neg]; exact h.len, fun h' => by have := h.ten h'; omega⟩
theorem bare_ok (z : Int) (p : Nat) : Bare (z, p, 0) := fun h => absurd rfl h
theorem round1_no (a : VA) (k : Int) (ga gk : Nat) (w : World) (Ka : Blk w ga #[.int .i64 a.k, .int .i64 a.p, .bool a.s, .slice a.A a.l.length a.c, .string a.S, .slice a.B a.m a.d] 27) (ha : a.At w) (hno : a.ok = false) :
 Calls Tryz.prog 127 #[.pointer (some ⟨ga, 0, none⟩), .pointer (some ⟨gk, 0, none⟩)] w (PostV (fun _ => False) (err 2) w) := by
 obtain ⟨W, hW, hbW, K0, hszW⟩ := box1 w (vcells 0 0 false none 0 0 ⟨#[]⟩ none 0 0) 27
 have hdc := decimals_c W.heap.size [a] (W.alloc (.cells #[.int .i64 a.k, .int .i64 a.p, .bool a.s, .slice a.A a.l.length a.c, .string a.S, .slice a.B a.m a.d] 27)) (by simp) (vals_one a _ _ ⟨World.alloc_heap_new W _⟩ ((ha.on hbW).on (al1 W _))) (by simp)
 rw [decE_one, if_neg (by rw [hno]; decide)] at hdc
 clear hno
 obtain ⟨x0, x1, x2, x3, x4, x5⟩ := cL6 (Ka.on hbW).h
 clear hszW
 go_enter Tryz.func127, Tryz.ntmps127
 go_wp2_with (go_at_call 77; refine hdc.mono ?_; rintro e w5 ⟨hw, b5⟩; obtain rfl := hw.2 (by decide))
 exact ⟨rfl, PostV.no rfl (by decide) (.of_below (hbW.trans (((al1 W _).trans (b5.mono (al1 W _).size)).mono hbW.size)))⟩
theorem round1_z (n1 : Bool) (A1 : Option Addr) (c1 : Nat) (l1 : List Nat) (z1 : Int) (p : Nat) (k : Int) (B1 : Option Addr) (d1 ga gk : Nat) (w : World) (Ka : Blk w ga #[.int .i64 3, .int .i64 (p : Int), .bool n1, .slice A1 l1.length c1, .string ⟨#[]⟩, .slice B1 0 d1] 27) (Kk : Blk w gk #[.int .i64 k] 3) (I1 : IV w n1 A1 c1 l1 z1) (D1 : IsD z1 p) :
 Calls Tryz.prog 127 #[.pointer (some ⟨ga, 0, none⟩), .pointer (some ⟨gk, 0, none⟩)] w (PostV (fun _ => False) (if k < 0 ∨ 20 < k then err 1 else if (p : Int) ≤ k then (z1, p, 0) else madeE (nearZ z1 (10 ^ (p - k.toNat))) k.toNat) w) := by
 obtain ⟨W, hW, hbW, K0, hszW⟩ := box1 w (vcells 0 0 false none 0 0 ⟨#[]⟩ none 0 0) 27
 have ha : (VA.mk 3 (p : Int) n1 A1 c1 l1 ⟨#[]⟩ B1 0 d1).At W := ⟨(I1.on hbW).rd, I1.cap⟩
 have hdc := decimals_c W.heap.size [(VA.mk 3 (p : Int) n1 A1 c1 l1 ⟨#[]⟩ B1 0 d1)] (W.alloc (.cells #[.int .i64 3, .int .i64 (p : Int), .bool n1, .slice A1 l1.length c1, .string ⟨#[]⟩, .slice B1 0 d1] 27)) (by simp) (vals_one (VA.mk 3 (p : Int) n1 A1 c1 l1 ⟨#[]⟩ B1 0 d1) _ _ ⟨World.alloc_heap_new W _⟩ (ha.on (al1 W _))) (by simp)
 rw [decE_one, VA.ok_made I1.isZ D1, if_pos rfl] at hdc
 have a1 := al1 W (.cells #[.int .i64 3, .int .i64 (p : Int), .bool n1, .slice A1 l1.length c1, .string ⟨#[]⟩, .slice B1 0 d1] 27)
 have J1 := I1.on hbW
 have L1 := Ka.on hbW
 have Lk := Kk.on hbW
 obtain ⟨x0, x1, x2, x3, x4, x5⟩ := cL6 L1.h
 have y0 := cell_at Lk.h 0 _ rfl
 obtain ⟨E, hE⟩ : ∃ E, (if k < 0 ∨ 20 < k then err 1 else if (p : Int) ≤ k then (z1, p, 0) else madeE (nearZ z1 (10 ^ (p - k.toNat))) k.toNat) = E := ⟨_, rfl⟩
 rw [hE]
 replace hE := Lib.hid hE
 replace hszW := Lib.hid hszW
 have HD := Lib.hid D1
 clear ha D1
 by_cases hk0 : k < 0
 · have kb : decide (k < 0) = true := decide_eq_true hk0
   have hE2 := hE.out
   rw [if_pos (.inl hk0)] at hE2
   replace hE2 := Lib.hid hE2.symm
   clear hE hk0
   go_enter Tryz.func127, Tryz.ntmps127
   go_wp2_with first
    | (go_at_call 78; have hmark := b5; refine (need_no 1 (by decide) _).mono ?_; rintro e w6 ⟨rfl, rfl⟩)
    | (go_at_call 77; refine hdc.mono ?_; rintro e w5 ⟨hw, b5⟩; obtain rfl := hw.1 rfl; have q5 := a1.trans (b5.mono a1.size); have y0 := cell_at ((Kk.on hbW).on q5).h 0 _ rfl; obtain ⟨x0, x1, x2, x3, x4, x5⟩ := cL6 ((Ka.on hbW).on q5).h)
   exact ⟨rfl, PostV.no hE2.out (by decide) (.of_below (hbW.trans (q5.mono hbW.size)))⟩
 · have kb : decide (k < 0) = false := decide_eq_false hk0
   by_cases hk1 : 20 < k
   · have kc : decide (20 < k) = true := decide_eq_true hk1
     have hE2 := hE.out
     rw [if_pos (.inr hk1)] at hE2
     replace hE2 := Lib.hid hE2.symm
     clear hE hk0 hk1
     go_enter Tryz.func127, Tryz.ntmps127
     go_wp2_with first
      | (go_at_call 78; have hmark := b5; refine (need_no 1 (by decide) _).mono ?_; rintro e w6 ⟨rfl, rfl⟩)
      | (go_at_call 77; refine hdc.mono ?_; rintro e w5 ⟨hw, b5⟩; obtain rfl := hw.1 rfl; have q5 := a1.trans (b5.mono a1.size); have y0 := cell_at ((Kk.on hbW).on q5).h 0 _ rfl; obtain ⟨x0, x1, x2, x3, x4, x5⟩ := cL6 ((Ka.on hbW).on q5).h)
     exact ⟨rfl, PostV.no hE2.out (by decide) (.of_below (hbW.trans (q5.mono hbW.size)))⟩
   · have kc : decide (20 < k) = false := decide_eq_false hk1
     have hE2 := hE.out
     rw [if_neg (by omega)] at hE2
     by_cases hpk : (p : Int) ≤ k
     · rw [if_pos hpk] at hE2
       have U1 := fun W' (h : Below W.heap.size W W') => made_z n1 A1 c1 l1 z1 p HD.out.hi W' (J1.on h) (HD.out.lz.mono (by decide))
       rw [madeE_id HD.out, hE2] at U1
       have kd' : decide (k < (p : Int)) = false := decide_eq_false (by omega)
       clear hE hE2 hk0 hk1
       by_cases h0 : E.2.2 = 0
       all_goals
        go_enter Tryz.func127, Tryz.ntmps127
        go_wp2_with first
         | (go_at_call 85; have hmark := q5; refine (U1 _ q5).mono ?_; rintro e w9 ⟨o9, p9, p9'⟩; first | (obtain ⟨v, rfl, s9, A9, c9, l9, rfl, I9⟩ := p9 h0; rw [kd_ok h0]; have q9 := q5.trans (o9.full.mono q5.size); obtain ⟨u0, u1, u2, u3, u4, u5⟩ := cL6 (K0.on q9).h; obtain ⟨f0, f1, f2, f3, f4, f5⟩ := fZ6 (K0.on q9).h) | (obtain rfl := p9' h0; have q9 := q5.trans (o9.full.mono q5.size)))
         | (go_at_call 77; refine hdc.mono ?_; rintro e w5 ⟨hw, b5⟩; obtain rfl := hw.1 rfl; have q5 := a1.trans (b5.mono a1.size); have y0 := cell_at ((Kk.on hbW).on q5).h 0 _ rfl; obtain ⟨x0, x1, x2, x3, x4, x5⟩ := cL6 ((Ka.on hbW).on q5).h)
       · have hb9 := hbW.trans (q9.mono hbW.size)
         obtain ⟨X, hX, KX, NX, OX⟩ := storeV (k' := 3) (p' := (E.2.1 : Int)) (s' := s9) (A' := A9) (n' := l9.length) (c' := c9) (S' := ⟨#[]⟩) (B' := none) (m' := 0) (d' := 0) (K0.on q9)
         rw [hX]
         exact ret_cellT rfl Tryz.underlying27 val_size rfl rfl KX.h rfl ⟨.of_below (hb9.trans (NX.low.mono (by omega))), fun _ => ⟨_, rfl, s9, A9, c9, l9, by rw [kd_ok h0], I9.nudge NX⟩, fun h => absurd h0 h⟩
       · exact ⟨rfl, .of_below (hbW.trans (q9.mono hbW.size)), fun h => absurd h h0, fun _ => rfl⟩
     · rw [if_neg hpk] at hE2
       obtain ⟨m, rfl⟩ : ∃ m : Nat, k = (m : Int) := ⟨k.toNat, by omega⟩
       rw [Int.toNat_natCast] at hE2
       have hp20 := HD.out.hi
       obtain ⟨j, hj⟩ : ∃ j, p - m = j := ⟨_, rfl⟩
       have hjI : IntKind.i64.wrap ((p : Int) - (m : Int)) = (j : Int) := by rw [IntKind.wrap_i64]; omega
       rw [hj] at hE2
       have hj21 : j < 21 := by omega
       have tj := lz_ten j (by omega)
       have t0 : (10 : Int) ^ j ≠ 0 := by have := ten_pos j; omega
       have N1 := fun W' (h : Below W.heap.size W W') s A c l (I : IV W' s A c l (10 ^ j)) => nearest_z n1 s A1 A c1 c l1 l z1 (10 ^ j) W' (J1.on h) I (HD.out.lz.mono (by decide)) (tj.mono (by decide)) t0
       have e4 := HD.out.lz.near t0
       have U1 := fun W' s A c l (I : IV W' s A c l (nearZ z1 (10 ^ j))) => made_z s A c l (nearZ z1 (10 ^ j)) m (by omega) W' I (e4.mono (by decide))
       have T1 := fun W' g (hP : Pows W' g) => powers1_z g j hj21 W' hP
       rw [hE2] at U1
       have kd' : decide ((m : Int) < (p : Int)) = true := decide_eq_true (by omega)
       have kd2 : decide ((p : Int) ≤ (m : Int)) = false := decide_eq_false (by omega)
       have kd3 : decide (p ≤ m) = false := decide_eq_false (by omega)
       clear hE hE2 hk0 hk1 hpk hj hj21 hp20 tj t0 e4
       generalize nearZ z1 (10 ^ j) = nz at *
       generalize (10 : Int) ^ j = tp at *
       go_enter Tryz.func127, Tryz.ntmps127
       go_upto_region 6 with (go_at_call 77; refine hdc.mono ?_; rintro e w5 ⟨hw, b5⟩; obtain rfl := hw.1 rfl; have q5 := a1.trans (b5.mono a1.size); have y0 := cell_at ((Kk.on hbW).on q5).h 0 _ rfl; obtain ⟨x0, x1, x2, x3, x4, x5⟩ := cL6 ((Ka.on hbW).on q5).h)
       have r0 := cell_at (L1.on q5).h 1 _ rfl
       have r1 := cell_at (L1.on q5).h 2 _ rfl
       have r2 := cell_at (L1.on q5).h 3 _ rfl
       have r3 := cell_at (Lk.on q5).h 0 _ rfl
       clear x0 x1 x2 x3 x4 x5 y0 hW hdc a1
       refine wp_region_any (by kernel_rfl) ?_
       refine pT 0 (Value.pointer (some ⟨ga, 2, none⟩)) ?_
       try simp only [Act.put, aQ, bQ, cQ]
       refine pT 3 (Value.pointer (some ⟨ga, 1, none⟩)) ?_
       try simp only [Act.put, aQ, bQ, cQ]
       refine wpAny_of_F (S := fun w'' => w''.cell? ⟨ga, 1, none⟩ = some (.int .i64 (p : Int)) ∧ w''.cell? ⟨ga, 2, none⟩ = some (.bool n1) ∧ w''.cell? ⟨ga, 3, none⟩ = some (.slice A1 l1.length c1) ∧ w''.cell? ⟨gk, 0, none⟩ = some (.int .i64 (m : Int))) (late := [11]) _ _ _ _ ?_
       refine fT 1 6 (Value.agg #[.bool n1, .slice A1 l1.length c1]) ⟨r0, r1, r2, r3⟩ ?_
       try simp only [Act.put, aQ, bQ, cQ]
       refine fT 4 6 (Value.int .i64 (p : Int)) ⟨r0, r1, r2, r3⟩ ?_
       try simp only [Act.put, aQ, bQ, cQ]
       refine fT 5 6 (Value.int .i64 (m : Int)) ⟨r0, r1, r2, r3⟩ ?_
       try simp only [Act.put, aQ, bQ, cQ]
       refine fT 6 6 (Value.int .i64 (j : Int)) ⟨r0, r1, r2, r3⟩ ?_
       try simp only [Act.put, aQ, bQ, cQ]
       refine fT 9 6 (Value.int .i64 (m : Int)) ⟨r0, r1, r2, r3⟩ ?_
       try simp only [Act.put, aQ, bQ, cQ]
       refine wpAnyF_one (i := 2) (by kernel_rfl) rfl (fun K hK => ?_)
       go_simp
       go_at_call 80; refine (powers_z _).mono ?_; rintro e w10 ⟨g, rfl, P10, b10, hg10⟩; have q10 := (q5.trans (below_drew (Below.refl _ w5))).trans (b10.mono q5.size); replace r0 := cell_at (L1.on q10).h 1 _ rfl; replace r1 := cell_at (L1.on q10).h 2 _ rfl; replace r2 := cell_at (L1.on q10).h 3 _ rfl; replace r3 := cell_at (Lk.on q10).h 0 _ rfl
       go_wp2_with fail
       refine hK.out _ _ (Or.inr ⟨r0, r1, r2, r3⟩) ?_
       clear hK K
       try simp only [Act.put, aQ, bQ, cQ]
       refine wpAnyF_one (i := 7) (by kernel_rfl) rfl (fun K hK => ?_)
       go_simp
       go_at_call 150; refine (T1 _ g P10).mono ?_; rintro e w11 ⟨s11, A11, c11, l11, rfl, I11, b11⟩; have q11 := q10.trans (b11.mono q10.size); replace r0 := cell_at (L1.on q11).h 1 _ rfl; replace r1 := cell_at (L1.on q11).h 2 _ rfl; replace r2 := cell_at (L1.on q11).h 3 _ rfl; replace r3 := cell_at (Lk.on q11).h 0 _ rfl
       go_wp2_with fail
       refine hK.out _ _ (Or.inr ⟨r0, r1, r2, r3⟩) ?_
       clear hK K
       try simp only [Act.put, aQ, bQ, cQ]
       refine wpAnyF_one (i := 8) (by kernel_rfl) rfl (fun K hK => ?_)
       go_simp
       go_at_call 84; refine (N1 _ q11 _ _ _ _ I11).mono ?_; rintro e w12 ⟨s12, A12, c12, l12, rfl, I12, b12⟩; have q12 := q11.trans (b12.mono q11.size); replace r0 := cell_at (L1.on q12).h 1 _ rfl; replace r1 := cell_at (L1.on q12).h 2 _ rfl; replace r2 := cell_at (L1.on q12).h 3 _ rfl; replace r3 := cell_at (Lk.on q12).h 0 _ rfl
       go_wp2_with fail
       refine hK.out _ _ (Or.inr ⟨r0, r1, r2, r3⟩) ?_
       clear hK K
       try simp only [Act.put, aQ, bQ, cQ]
       refine wpAnyF_one (i := 10) (by kernel_rfl) rfl (fun K hK => ?_)
       go_simp
       go_at_call 85; refine (U1 _ _ _ _ _ I12).mono ?_; rintro e w13 ⟨o13, p13, p13'⟩; have q13 := q12.trans (o13.full.mono q12.size)
       have hb13 := hbW.trans (q13.mono hbW.size)
       by_cases h0 : E.2.2 = 0
       · obtain ⟨v, rfl, s13, A13, c13, l13, rfl, I13⟩ := p13 h0
         rw [kd_ok h0]
         have K13 := K0.on q13
         replace r0 := cell_at (L1.on q13).h 1 _ rfl; replace r1 := cell_at (L1.on q13).h 2 _ rfl; replace r2 := cell_at (L1.on q13).h 3 _ rfl; replace r3 := cell_at (Lk.on q13).h 0 _ rfl
         go_wp2_with fail
         refine hK.out _ _ (Or.inr ⟨r0, r1, r2, r3⟩) ?_
         clear hK K
         try simp only [Act.put, aQ, bQ, cQ]
         obtain ⟨ka0, ka1, ka2, ka3, ka4, ka5⟩ := cL6 K13.h
         obtain ⟨kb0, kb1, kb2, kb3, kb4, kb5⟩ := fZ6 K13.h
         refine wpAnyF_one (i := 11) (by kernel_rfl) rfl (fun K hK => ?_)
         go_simp
         refine hK.out _ _ (Or.inl (by decide)) ?_
         clear hK K
         try simp only [Act.put, aQ, bQ, cQ]
         refine wpAnyF_done (by kernel_rfl) ?_ _
         obtain ⟨X, hX, KX, NX, OX⟩ := storeV (k' := 3) (p' := (E.2.1 : Int)) (s' := s13) (A' := A13) (n' := l13.length) (c' := c13) (S' := ⟨#[]⟩) (B' := none) (m' := 0) (d' := 0) K13
         rw [hX]
         go_wp2_with fail
         exact ret_cellT rfl Tryz.underlying27 val_size rfl rfl KX.h rfl ⟨.of_below (hb13.trans (NX.low.mono (by omega))), fun _ => ⟨_, rfl, s13, A13, c13, l13, by rw [kd_ok h0], I13.nudge NX⟩, fun h => absurd h0 h⟩
       · obtain rfl := p13' h0
         go_wp2_with fail
         exact ⟨rfl, .of_below hb13, fun h => absurd h h0, fun _ => rfl⟩
theorem round1_all (a : VA) (k : Int) (ga gk : Nat) (w : World) (Ka : Blk w ga #[.int .i64 a.k, .int .i64 a.p, .bool a.s, .slice a.A a.l.length a.c, .string a.S, .slice a.B a.m a.d] 27) (Kk : Blk w gk #[.int .i64 k] 3) (ha : a.At w) :
 Calls Tryz.prog 127 #[.pointer (some ⟨ga, 0, none⟩), .pointer (some ⟨gk, 0, none⟩)] w (PostV (fun _ => False) (roundX a k) w) := by
 unfold roundX
 cases hok : a.ok
 · rw [one_no hok]
   exact round1_no a k ga gk w Ka ha hok
 · rw [one_ok hok]
   obtain ⟨p, s1, A1, c1, l1, B1, d1, e1, i1, D1, -, q1⟩ := VA.destruct ha.rd.words hok
   rw [q1]
   generalize a.z = za at *
   subst e1
   exact round1_z s1 A1 c1 l1 za p k B1 d1 ga gk w Ka Kk ⟨ha.rd, ha.cap, i1⟩ D1
theorem DRound_calls (a : VA) (k : Int) (w : World) (ha : a.At w) :
 Calls Tryz.prog 49 #[a.val, .int .i64 k] w (RetV (roundX a k) w) := by
 have hmf := mkf
 obtain ⟨W, hW, hbW, K0, K1, K2, hszW⟩ := box3 w #[.int .i64 a.k, .int .i64 a.p, .bool a.s, .slice a.A a.l.length a.c, .string a.S, .slice a.B a.m a.d] 27 #[.int .i64 k] 3 (vcells 0 0 false none 0 0 ⟨#[]⟩ none 0 0) 27
 have hv := value_calls (fun _ => False) 127 #[.pointer (some ⟨w.heap.size, 0, none⟩), .pointer (some ⟨w.heap.size + 1, 0, none⟩)] (enters_of Tryz.func127 (by kernel_rfl) rfl) (roundX a k) (bare_one (bare_if (bare_err 1) (bare_if (bare_ok _ _) (bare_made _ _)))) W (fun _ h => h.elim) (fun _ => True) (fun W' h => Calls.mono (round1_all a k _ _ W' (K0.on h) (K1.on h) ((ha.on hbW).on h)) fun _ _ h => ⟨h, trivial⟩)
 obtain ⟨x, hx⟩ : ∃ x, roundX a k = x := ⟨_, rfl⟩
 rw [hx] at hv ⊢
 obtain ⟨z, p, er⟩ := x
 dsimp only at hv
 clear hx
 replace hszW := Lib.hid hszW
 go_enter Tryz.func49, Tryz.ntmps49
 go_wp2_with (go_at_call 75; refine hv.mono ?_; rintro e w5 ⟨⟨v, rfl, s5, A5, c5, l5, rfl, I5⟩, o5, -⟩; have K5 := K2.on o5.full; obtain ⟨u0, u1, u2, u3, u4, u5⟩ := cL6 K5.h; obtain ⟨f0, f1, f2, f3, f4, f5⟩ := fZ6 K5.h)
 obtain ⟨X, hX, KX, NX, OX⟩ := storeV (k' := kd (z, p, er)) (p' := (p : Int)) (s' := s5) (A' := A5) (n' := l5.length) (c' := c5) (S' := ⟨#[]⟩) (B' := none) (m' := 0) (d' := 0) K5
 rw [hX]
 have hb5 := hbW.trans (o5.full.mono hbW.size)
 exact ret_cellT_tmp rfl Tryz.underlying27 val_size rfl rfl KX.h rfl ⟨_, rfl, ⟨s5, A5, c5, l5, rfl, I5.nudge NX⟩, hb5.trans (NX.low.mono (by omega))⟩
end Dc
end Go.Proofs.YtjghnghceeijeaaGreatDoor
