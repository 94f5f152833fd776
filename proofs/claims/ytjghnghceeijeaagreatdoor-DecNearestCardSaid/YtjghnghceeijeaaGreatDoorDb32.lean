/-
  sane and what it reaches.
-/
import Derived.Test.YtjghnghceeijeaaGreatDoorDb31
import Derived.Test.YtjghnghceeijeaaGreatDoorTie
import Derived.ChangeMaps5
import Derived.Test.YtjghnghceeijeaaGreatDoorCards
import Derived.SevenTiedAt
import Derived.Lay
import Derived.HandedShaped
import Derived.Shelf.Vars
set_option maxRecDepth 100000
set_option maxHeartbeats 4000000
set_option linter.unusedVariables false
set_option linter.unusedSimpArgs false
namespace Go.Proofs.YtjghnghceeijeaaGreatDoor
namespace Dc
open Go.RowKit Go.Shelf Go.BigFrame Go.Proofs.YtjghnghceeijeaaGreatDoor.Nm
attribute [local go_sem] Oper.semAt_some
abbrev V6 (w : World) (g : Nat) (p : Int) (s : Bool) (A : Option Addr) (n c : Nat) (B : Option Addr) (d : Nat) : Prop :=
 w.cell? ⟨g, 0, none⟩ = some (.int .i64 3) ∧ w.cell? ⟨g, 1, none⟩ = some (.int .i64 p) ∧ w.cell? ⟨g, 2, none⟩ = some (.bool s) ∧ w.cell? ⟨g, 3, none⟩ = some (.slice A n c) ∧ w.cell? ⟨g, 4, none⟩ = some (.string ⟨#[]⟩) ∧ w.cell? ⟨g, 5, none⟩ = some (.slice B 0 d)
theorem v6_of {W W' : World} {g : Nat} {p : Int} {s : Bool} {A : Option Addr} {n c : Nat} {B : Option Addr} {d : Nat} {t : TypeId} {r : List Value} (h : Blk W g (List.toArray (.int .i64 3 :: .int .i64 p :: .bool s :: .slice A n c :: .string ⟨#[]⟩ :: .slice B 0 d :: r)) t) (hb : Below W.heap.size W W') : V6 W' g p s A n c B d :=
 cL6 (h.on hb).h
theorem s_same (p z : Int) (s1 s2 : Bool) (A1 A2 : Option Addr) (c1 c2 : Nat) (l1 l2 : List Nat) (B1 B2 : Option Addr) (d1 d2 : Nat) (w : World) (I1 : IV w s1 A1 c1 l1 z) (I2 : IV w s2 A2 c2 l2 z) :
 Calls Tryz.prog 27 #[vv 3 p s1 A1 l1.length c1 ⟨#[]⟩ B1 0 d1, vv 3 p s2 A2 l2.length c2 ⟨#[]⟩ B2 0 d2] w fun e w' => e = .returned (.bool true) ∧ Below w.heap.size w w' := by
 have h := same_c s1 s2 A1 A2 c1 c2 l1 l2 z z 3 p 3 p B1 B2 d1 d2 w I1 I2
 simp only [decide_true, Bool.and_true] at h
 exact h
set_option maxHeartbeats 16000000 in
theorem sane_c (w : World) (hd0 : DigW w) (m : Int) (hm : w.cell? ⟨1, 0, none⟩ = some (.int .i64 m)) :
 Calls Tryz.prog 16 #[] w fun e w' => e = .returned (.bool true) ∧ Below w.heap.size w w' := by
 skip
 go_enter Tryz.func16, Tryz.ntmps16
 go_upto_region 15 with first
  | (go_at_call 26; have hmark := I23; refine (s_rparse _).mono ?_; rintro e w24 ⟨s24, A24, c24, l24, B24, d24, rfl, I24, b24⟩; have q24 := p23.trans (b24.mono p23.size); rw [kd_ok rfl])
  | (go_at_call 65; have hmark := I22; refine (s_ratio s21 s22 A21 A22 c21 c22 l21 l22 _ (I21.on b22) I22).mono ?_; rintro e w23 ⟨s23, A23, c23, l23, sq, Aq, cq, lq, sr, Ar, cr, lr, rfl, I23, Ir, b23⟩; have q23 := q22.trans (b23.mono q22.size); have x23 := (al1 w23 (.cells #[.int .i64 3, .int .i64 2, .bool s23, .slice A23 l23.length c23, .string ⟨#[]⟩, .slice none 0 0] 27)).trans ((al1 _ (.cells #[.bool sq, .slice Aq lq.length cq, .bool sr, .slice Ar lr.length cr] 77)).mono (al1 w23 (.cells #[.int .i64 3, .int .i64 2, .bool s23, .slice A23 l23.length c23, .string ⟨#[]⟩, .slice none 0 0] 27)).size); have p23 := q23.trans (x23.mono q23.size))
  | (go_at_call 45; have hmark := I21; refine (ROf_calls 4 _ (by decide) (by decide)).mono ?_; rintro e w22 ⟨s22, A22, c22, l22, rfl, z22, n22, r22, b22⟩; have I22 : IV w22 s22 A22 c22 l22 4 := ⟨r22, n22, z22⟩; have q22 := q21.trans (b22.mono q21.size))
  | (go_at_call 45; have hmark := I20; refine (ROf_calls 1 _ (by decide) (by decide)).mono ?_; rintro e w21 ⟨s21, A21, c21, l21, rfl, z21, n21, r21, b21⟩; have I21 : IV w21 s21 A21 c21 l21 1 := ⟨r21, n21, z21⟩; have q21 := p20.trans (b21.mono p20.size))
  | (go_at_call 25; have hmark := b19; refine (s_parse _ m ((q19.cell (p := ⟨1, 0, none⟩) (World.block_lt_of_cell? w _ hm)).trans hm)).mono ?_; rintro e w20 ⟨s20, A20, c20, l20, rfl, I20, b20⟩; have q20 := q19.trans (b20.mono q19.size); have x20 := al1 w20 (.cells #[.int .i64 3, .int .i64 1, .bool s20, .slice A20 l20.length c20, .string ⟨#[]⟩, .slice none 0 0] 27); have p20 := q20.trans (x20.mono q20.size))
  | (go_at_call 23; have hmark := I18; refine (s_text s18 A18 c18 l18 B18 d18 _ (hd0.on q18) I18).mono ?_; rintro e w19 ⟨rfl, b19⟩; have q19 := q18.trans (b19.mono q18.size))
  | (go_at_call 74; have hmark := I17; refine (of_m5_2 _).mono ?_; rintro e w18 ⟨s18, A18, c18, l18, B18, d18, rfl, I18, b18⟩; have q18 := p17.trans (b18.mono p17.size))
  | (go_at_call 52; have hmark := I16; refine (s_ceil s16 A16 c16 l16 B16 d16 _ I16).mono ?_; rintro e w17 ⟨s17, A17, c17, l17, rfl, I17, b17⟩; have q17 := q16.trans (b17.mono q16.size); have x17 := al1 w17 (.cells #[.bool s17, .slice A17 l17.length c17] 24); have p17 := q17.trans (x17.mono q17.size))
  | (go_at_call 74; have hmark := I15; refine (of_m25_1 _).mono ?_; rintro e w16 ⟨s16, A16, c16, l16, B16, d16, rfl, I16, b16⟩; have q16 := p15.trans (b16.mono p15.size))
  | (go_at_call 49; have hmark := I14; refine (s_round s14 A14 c14 l14 B14 d14 _ I14).mono ?_; rintro e w15 ⟨s15, A15, c15, l15, rfl, I15, b15⟩; have q15 := q14.trans (b15.mono q14.size); have x15 := al1 w15 (.cells #[.int .i64 3, .int .i64 1, .bool s15, .slice A15 l15.length c15, .string ⟨#[]⟩, .slice none 0 0] 27); have p15 := q15.trans (x15.mono q15.size))
  | (go_at_call 74; have hmark := I13; refine (of_25_2 _).mono ?_; rintro e w14 ⟨s14, A14, c14, l14, B14, d14, rfl, I14, b14⟩; have q14 := p13.trans (b14.mono p13.size))
  | (go_at_call 19; have hmark := I12; refine (s_sqrt s12 A12 c12 l12 B12 d12 _ I12).mono ?_; rintro e w13 ⟨s13, A13, c13, l13, rfl, I13, b13⟩; have q13 := q12.trans (b13.mono q12.size); have x13 := al1 w13 (.cells #[.int .i64 3, .int .i64 1, .bool s13, .slice A13 l13.length c13, .string ⟨#[]⟩, .slice none 0 0] 27); have p13 := q13.trans (x13.mono q13.size))
  | (go_at_call 74; have hmark := I11; refine (of_225_2 _).mono ?_; rintro e w12 ⟨s12, A12, c12, l12, B12, d12, rfl, I12, b12⟩; have q12 := p11.trans (b12.mono p11.size))
  | (go_at_call 18; have hmark := I10; refine (s_pow s10 A10 c10 l10 B10 d10 _ I10).mono ?_; rintro e w11 ⟨s11, A11, c11, l11, rfl, I11, b11⟩; have q11 := q10.trans (b11.mono q10.size); have x11 := al1 w11 (.cells #[.int .i64 3, .int .i64 2, .bool s11, .slice A11 l11.length c11, .string ⟨#[]⟩, .slice none 0 0] 27); have p11 := q11.trans (x11.mono q11.size))
  | (go_at_call 74; have hmark := I9; refine (of_2_0 _).mono ?_; rintro e w10 ⟨s10, A10, c10, l10, B10, d10, rfl, I10, b10⟩; have q10 := p9.trans (b10.mono p9.size))
  | (go_at_call 36; have hmark := I8; refine (s_zero s7 s8 A7 A8 c7 c8 l7 l8 B7 B8 d7 d8 _ (I7.on b8) I8).mono ?_; rintro e w9 ⟨s9, A9, c9, l9, rfl, I9, b9⟩; have q9 := q8.trans (b9.mono q8.size); have x9 := al1 w9 (.cells #[.int .i64 0, .int .i64 0, .bool s9, .slice A9 l9.length c9, .string ⟨#[]⟩, .slice none 0 0] 27); have p9 := q9.trans (x9.mono q9.size))
  | (go_at_call 74; have hmark := I7; refine (of_0_0 _).mono ?_; rintro e w8 ⟨s8, A8, c8, l8, B8, d8, rfl, I8, b8⟩; have q8 := q7.trans (b8.mono q7.size))
  | (go_at_call 74; have hmark := I6; refine (of_1_0 _).mono ?_; rintro e w7 ⟨s7, A7, c7, l7, B7, d7, rfl, I7, b7⟩; have q7 := p6.trans (b7.mono p6.size))
  | (go_at_call 36; have hmark := I5; refine (s_div s4 s5 A4 A5 c4 c5 l4 l5 B4 B5 d4 d5 _ (I4.on b5) I5).mono ?_; rintro e w6 ⟨s6, A6, c6, l6, rfl, I6, b6⟩; have q6 := q5.trans (b6.mono q5.size); have x6 := al1 w6 (.cells #[.int .i64 3, .int .i64 20, .bool s6, .slice A6 l6.length c6, .string ⟨#[]⟩, .slice none 0 0] 27); have p6 := q6.trans (x6.mono q6.size))
  | (go_at_call 74; have hmark := I4; refine (of_3_0 _).mono ?_; rintro e w5 ⟨s5, A5, c5, l5, B5, d5, rfl, I5, b5⟩; have q5 := q4.trans (b5.mono q4.size))
  | (go_at_call 74; have hmark := I3; refine (of_2_0 _).mono ?_; rintro e w4 ⟨s4, A4, c4, l4, B4, d4, rfl, I4, b4⟩; have q4 := p3.trans (b4.mono p3.size))
  | (go_at_call 38; have hmark := I2; refine (s_add s1 s2 A1 A2 c1 c2 l1 l2 B1 B2 d1 d2 _ (I1.on b2) I2).mono ?_; rintro e w3 ⟨s3, A3, c3, l3, rfl, I3, b3⟩; have q3 := q2.trans (b3.mono q2.size); have x3 := al1 w3 (.cells #[.int .i64 3, .int .i64 1, .bool s3, .slice A3 l3.length c3, .string ⟨#[]⟩, .slice none 0 0] 27); have p3 := q3.trans (x3.mono q3.size))
  | (go_at_call 74; have hmark := I1; refine (of_2_1 _).mono ?_; rintro e w2 ⟨s2, A2, c2, l2, B2, d2, rfl, I2, b2⟩; have q2 := q1.trans (b2.mono q1.size))
  | (go_at_call 74; refine (of_1_1 _).mono ?_; rintro e w1 ⟨s1, A1, c1, l1, B1, d1, rfl, I1, b1⟩; have q1 := b1)
 obtain ⟨W, hW, hbW, KG, hszW⟩ := box1 w24 #[.int .i64 3, .int .i64 20, .bool s24, .slice A24 l24.length c24, .string ⟨#[]⟩, .slice B24 0 d24, .int .i64 0] 36
 rw [hW]
 have qW := q24.trans (hbW.mono q24.size)
 have I24 := I24.on hbW
 have f24 := b24.trans (hbW.mono b24.size)
 have e23 := x23.trans (f24.mono x23.size)
 have f23 := b23.trans (e23.mono b23.size)
 have e22 := f23
 have f22 := b22.trans (e22.mono b22.size)
 have e21 := f22
 have f21 := b21.trans (e21.mono b21.size)
 have e20 := x20.trans (f21.mono x20.size)
 have f20 := b20.trans (e20.mono b20.size)
 have e19 := f20
 have f19 := b19.trans (e19.mono b19.size)
 have e18 := f19
 have f18 := b18.trans (e18.mono b18.size)
 have e17 := x17.trans (f18.mono x17.size)
 have f17 := b17.trans (e17.mono b17.size)
 have e16 := f17
 have f16 := b16.trans (e16.mono b16.size)
 have e15 := x15.trans (f16.mono x15.size)
 have f15 := b15.trans (e15.mono b15.size)
 have e14 := f15
 have f14 := b14.trans (e14.mono b14.size)
 have e13 := x13.trans (f14.mono x13.size)
 have f13 := b13.trans (e13.mono b13.size)
 have e12 := f13
 have f12 := b12.trans (e12.mono b12.size)
 have e11 := x11.trans (f12.mono x11.size)
 have f11 := b11.trans (e11.mono b11.size)
 have e10 := f11
 have f10 := b10.trans (e10.mono b10.size)
 have e9 := x9.trans (f10.mono x9.size)
 have f9 := b9.trans (e9.mono b9.size)
 have e8 := f9
 have f8 := b8.trans (e8.mono b8.size)
 have e7 := f8
 have f7 := b7.trans (e7.mono b7.size)
 have e6 := x6.trans (f7.mono x6.size)
 have f6 := b6.trans (e6.mono b6.size)
 have e5 := f6
 have f5 := b5.trans (e5.mono b5.size)
 have e4 := f5
 have f4 := b4.trans (e4.mono b4.size)
 have e3 := x3.trans (f4.mono x3.size)
 have K3 := (blk_new w3 #[.int .i64 3, .int .i64 1, .bool s3, .slice A3 l3.length c3, .string ⟨#[]⟩, .slice none 0 0] 27).on f4
 replace I3 := I3.on e3
 have K6 := (blk_new w6 #[.int .i64 3, .int .i64 20, .bool s6, .slice A6 l6.length c6, .string ⟨#[]⟩, .slice none 0 0] 27).on f7
 replace I6 := I6.on e6
 have K11 := (blk_new w11 #[.int .i64 3, .int .i64 2, .bool s11, .slice A11 l11.length c11, .string ⟨#[]⟩, .slice none 0 0] 27).on f12
 replace I11 := I11.on e11
 have K13 := (blk_new w13 #[.int .i64 3, .int .i64 1, .bool s13, .slice A13 l13.length c13, .string ⟨#[]⟩, .slice none 0 0] 27).on f14
 replace I13 := I13.on e13
 have K15 := (blk_new w15 #[.int .i64 3, .int .i64 1, .bool s15, .slice A15 l15.length c15, .string ⟨#[]⟩, .slice none 0 0] 27).on f16
 replace I15 := I15.on e15
 have K17 := (blk_new w17 #[.bool s17, .slice A17 l17.length c17] 24).on f18
 replace I17 := I17.on e17
 have K20 := (blk_new w20 #[.int .i64 3, .int .i64 1, .bool s20, .slice A20 l20.length c20, .string ⟨#[]⟩, .slice none 0 0] 27).on f21
 replace I20 := I20.on e20
 have K23 := (blk_up (o := .cells #[.bool sq, .slice Aq lq.length cq, .bool sr, .slice Ar lr.length cr] 77) (blk_new w23 #[.int .i64 3, .int .i64 2, .bool s23, .slice A23 l23.length c23, .string ⟨#[]⟩, .slice none 0 0] 27)).on f24
 have KT := (blk_new2 w23 (.cells #[.int .i64 3, .int .i64 2, .bool s23, .slice A23 l23.length c23, .string ⟨#[]⟩, .slice none 0 0] 27) #[.bool sq, .slice Aq lq.length cq, .bool sr, .slice Ar lr.length cr] 77).on f24
 replace I23 := I23.on e23
 replace Ir := Ir.on e23
 have hlr : lr.length = 0 := by rw [Ir.len, Int.natAbs_zero, lim_zero]; rfl
 rw [hlr] at KT
 clear hm hd0 hW hszW hbW Ir hlr b1 q1 I1 b2 q2 I2 b3 q3 x3 p3 e3 b4 q4 f4 e4 I4 b5 q5 f5 e5 I5 b6 q6 x6 p6 f6 e6 b7 q7 f7 e7 I7 b8 q8 f8 e8 I8 b9 q9 x9 p9 f9 e9 I9 b10 q10 f10 e10 I10 b11 q11 x11 p11 f11 e11 b12 q12 f12 e12 I12 b13 q13 x13 p13 f13 e13 b14 q14 f14 e14 I14 b15 q15 x15 p15 f15 e15 b16 q16 f16 e16 I16 b17 q17 x17 p17 f17 e17 b18 q18 f18 e18 I18 b19 q19 f19 e19 b20 q20 x20 p20 f20 e20 b21 q21 f21 e21 I21 b22 q22 f22 e22 I22 b23 q23 x23 p23 f23 e23 b24 q24 f24
 generalize w3.heap.size = g3 at *
 generalize w6.heap.size = g6 at *
 generalize w11.heap.size = g11 at *
 generalize w13.heap.size = g13 at *
 generalize w15.heap.size = g15 at *
 generalize w17.heap.size = g17 at *
 generalize w20.heap.size = g20 at *
 generalize w23.heap.size = g23 at *
 generalize w24.heap.size = g24 at *
 have HS : ∀ W', Below W.heap.size W W' → (fun w'' => V6 w'' g3 1 s3 A3 l3.length c3 none 0 ∧ V6 w'' g6 20 s6 A6 l6.length c6 none 0 ∧ V6 w'' g11 2 s11 A11 l11.length c11 none 0 ∧ V6 w'' g13 1 s13 A13 l13.length c13 none 0 ∧ V6 w'' g15 1 s15 A15 l15.length c15 none 0 ∧ V6 w'' g20 1 s20 A20 l20.length c20 none 0 ∧ V6 w'' g23 2 s23 A23 l23.length c23 none 0 ∧ V6 w'' g24 20 s24 A24 l24.length c24 B24 d24 ∧ w''.cell? ⟨g17, 0, none⟩ = some (.bool s17) ∧ w''.cell? ⟨g17, 1, none⟩ = some (.slice A17 l17.length c17) ∧ w''.cell? ⟨g23 + 1, 3, none⟩ = some (.slice Ar 0 cr)) W' := fun W' q => ⟨v6_of K3 q, v6_of K6 q, v6_of K11 q, v6_of K13 q, v6_of K15 q, v6_of K20 q, v6_of K23 q, v6_of KG q, cell_at (K17.on q).h 0 _ rfl, cell_at (K17.on q).h 1 _ rfl, cell_at (KT.on q).h 3 _ rfl⟩
 have H0 := HS _ (Below.refl _ _)
 replace HS := Lib.hid HS
 try dsimp only at H0
 go_region_held3 (fun w'' => V6 w'' g3 1 s3 A3 l3.length c3 none 0 ∧ V6 w'' g6 20 s6 A6 l6.length c6 none 0 ∧ V6 w'' g11 2 s11 A11 l11.length c11 none 0 ∧ V6 w'' g13 1 s13 A13 l13.length c13 none 0 ∧ V6 w'' g15 1 s15 A15 l15.length c15 none 0 ∧ V6 w'' g20 1 s20 A20 l20.length c20 none 0 ∧ V6 w'' g23 2 s23 A23 l23.length c23 none 0 ∧ V6 w'' g24 20 s24 A24 l24.length c24 B24 d24 ∧ w''.cell? ⟨g17, 0, none⟩ = some (.bool s17) ∧ w''.cell? ⟨g17, 1, none⟩ = some (.slice A17 l17.length c17) ∧ w''.cell? ⟨g23 + 1, 3, none⟩ = some (.slice Ar 0 cr)) ((first | (with_reducible exact H0) | exact H0))
  ((first
   | (go_at_call 59; have hmark := q47; refine (s_check_no s47 A47 c47 l47 none 0 _ ⟨r47, n47, z47⟩).mono ?_; rintro e w48 ⟨rfl, b48⟩; have q48 := q47.trans (b48.mono q47.size); clear H0; have H0 := HS.out _ q48; (try dsimp only at H0))
   | (go_at_call 45; have hmark := q46; refine (ROf_calls 20 _ (by decide) (by decide)).mono ?_; rintro e w47 ⟨s47, A47, c47, l47, rfl, z47, n47, r47, b47⟩; have q47 := q46.trans (b47.mono q46.size); clear H0; have H0 := HS.out _ q47; (try dsimp only at H0))
   | (go_at_call 59; have hmark := q45; refine (s_check s45 A45 c45 l45 B45 d45 _ I45).mono ?_; rintro e w46 ⟨rfl, b46⟩; have q46 := q45.trans (b46.mono q45.size); clear H0; have H0 := HS.out _ q46; (try dsimp only at H0))
   | (go_at_call 74; have hmark := q44; refine (of_2_0 _).mono ?_; rintro e w45 ⟨s45, A45, c45, l45, B45, d45, rfl, I45, b45⟩; have q45 := q44.trans (b45.mono q44.size); clear H0; have H0 := HS.out _ q45; (try dsimp only at H0))
   | (go_at_call 27; have hmark := q43; refine (s_same 2 25 s23 s43 A23 A43 c23 c43 l23 l43 none B43 0 d43 _ (I23.on q43) I43).mono ?_; rintro e w44 ⟨rfl, b44⟩; have q44 := q43.trans (b44.mono q43.size); clear H0; have H0 := HS.out _ q44; (try dsimp only at H0))
   | (go_at_call 74; have hmark := q42; refine (of_25_2 _).mono ?_; rintro e w43 ⟨s43, A43, c43, l43, B43, d43, rfl, I43, b43⟩; have q43 := q42.trans (b43.mono q42.size); clear H0; have H0 := HS.out _ q43; (try dsimp only at H0))
   | (go_at_call 27; have hmark := q41; refine (s_same 1 75 s20 s41 A20 A41 c20 c41 l20 l41 none B41 0 d41 _ (I20.on q41) I41).mono ?_; rintro e w42 ⟨rfl, b42⟩; have q42 := q41.trans (b42.mono q41.size); clear H0; have H0 := HS.out _ q42; (try dsimp only at H0))
   | (go_at_call 74; have hmark := q40; refine (of_75_1 _).mono ?_; rintro e w41 ⟨s41, A41, c41, l41, B41, d41, rfl, I41, b41⟩; have q41 := q40.trans (b41.mono q40.size); clear H0; have H0 := HS.out _ q41; (try dsimp only at H0))
   | (go_at_call 67; have hmark := q39; have hc := Same_calls s17 s39 A17 A39 c17 c39 l17 l39 w39 (I17.on q39).rd r39 I17.cap n39; rw [sameI_z I17.isZ z39, show decide ((-2 : Int) = -2) = true from by decide] at hc; refine hc.mono ?_; clear hc; rintro e w40 ⟨rfl, b40⟩; have q40 := q39.trans (b40.mono q39.size); clear H0; have H0 := HS.out _ q40; (try dsimp only at H0))
   | (go_at_call 45; have hmark := q38; refine (ROf_calls (-2) _ (by decide) (by decide)).mono ?_; rintro e w39 ⟨s39, A39, c39, l39, rfl, z39, n39, r39, b39⟩; have q39 := q38.trans (b39.mono q38.size); clear H0; have H0 := HS.out _ q39; (try dsimp only at H0))
   | (go_at_call 27; have hmark := q37; refine (s_same 1 2 s15 s37 A15 A37 c15 c37 l15 l37 none B37 0 d37 _ (I15.on q37) I37).mono ?_; rintro e w38 ⟨rfl, b38⟩; have q38 := q37.trans (b38.mono q37.size); clear H0; have H0 := HS.out _ q38; (try dsimp only at H0))
   | (go_at_call 74; have hmark := q36; refine (of_2_1 _).mono ?_; rintro e w37 ⟨s37, A37, c37, l37, B37, d37, rfl, I37, b37⟩; have q37 := q36.trans (b37.mono q36.size); clear H0; have H0 := HS.out _ q37; (try dsimp only at H0))
   | (go_at_call 27; have hmark := q35; refine (s_same 1 15 s13 s35 A13 A35 c13 c35 l13 l35 none B35 0 d35 _ (I13.on q35) I35).mono ?_; rintro e w36 ⟨rfl, b36⟩; have q36 := q35.trans (b36.mono q35.size); clear H0; have H0 := HS.out _ q36; (try dsimp only at H0))
   | (go_at_call 74; have hmark := q34; refine (of_15_1 _).mono ?_; rintro e w35 ⟨s35, A35, c35, l35, B35, d35, rfl, I35, b35⟩; have q35 := q34.trans (b35.mono q34.size); clear H0; have H0 := HS.out _ q35; (try dsimp only at H0))
   | (go_at_call 27; have hmark := q33; refine (s_same 2 25 s11 s33 A11 A33 c11 c33 l11 l33 none B33 0 d33 _ (I11.on q33) I33).mono ?_; rintro e w34 ⟨rfl, b34⟩; have q34 := q33.trans (b34.mono q33.size); clear H0; have H0 := HS.out _ q34; (try dsimp only at H0))
   | (go_at_call 74; have hmark := q32; refine (of_25_2 _).mono ?_; rintro e w33 ⟨s33, A33, c33, l33, B33, d33, rfl, I33, b33⟩; have q33 := q32.trans (b33.mono q32.size); clear H0; have H0 := HS.out _ q33; (try dsimp only at H0))
   | (go_at_call 27; have hmark := q31; refine (s_same 20 66666666666666666667 s6 s24 A6 A24 c6 c24 l6 l24 none B24 0 d24 _ (I6.on q31) (I24.on q31)).mono ?_; rintro e w32 ⟨rfl, b32⟩; have q32 := q31.trans (b32.mono q31.size); clear H0; have H0 := HS.out _ q32; (try dsimp only at H0))
   | (go_at_call 27; have hmark := q30; refine (s_same 1 3 s3 s30 A3 A30 c3 c30 l3 l30 none B30 0 d30 _ (I3.on q30) I30).mono ?_; rintro e w31 ⟨rfl, b31⟩; have q31 := q30.trans (b31.mono q30.size); clear H0; have H0 := HS.out _ q31; (try dsimp only at H0))
   | (go_at_call 74; refine (of_3_1 _).mono ?_; rintro e w30 ⟨s30, A30, c30, l30, B30, d30, rfl, I30, b30⟩; have q30 := (below_drew (Below.refl W.heap.size W)).trans (b30.mono (below_drew (Below.refl W.heap.size W)).size); clear H0; have H0 := HS.out _ q30; (try dsimp only at H0))))
 all_goals
  go_wp2_with fail
  go_ret
  exact ⟨rfl, qW.trans (q48.mono qW.size)⟩
end Dc
end Go.Proofs.YtjghnghceeijeaaGreatDoor
namespace Go.Proofs.YtjghnghceeijeaaGreatDoor
namespace Dc
open Go.ChangeShapes Go.WideShapes Go.ChangeAt Go.WideMaps Go.WideElems Go.RowKit Go.Shelf Go.Proofs.YtjghnghceeijeaaGreatDoor.Nm
theorem max_len {W : World} (h : W.ShapedOpen Tryz.prog) : ∃ m, W.cell? ⟨1, 0, none⟩ = some (.int .i64 m) :=
 cell_of_shapedOpen_int (P := Tryz.prog) (g := 1) (t := 3) (zero := #[.int .i64 0]) h (of_decide_eq_true (by kernel_rfl)) (by kernel_rfl) rfl (by kernel_rfl) (by kernel_rfl) Tryz.underlying3
theorem uVal : ∃ f0 f1 f2 f3 f4 : Field, Tryz.prog.underlying 27 = some (.struct #[f0, f1, f2, f3, f4]) ∧ (f0.type = 3 ∧ f0.offset = 0) ∧ (f1.type = 3 ∧ f1.offset = 1) ∧ (f2.type = 24 ∧ f2.offset = 2) ∧ (f3.type = 9 ∧ f3.offset = 4) ∧ (f4.type = 25 ∧ f4.offset = 5) := ⟨_, _, _, _, _, Tryz.underlying27, ⟨rfl, rfl⟩, ⟨rfl, rfl⟩, ⟨rfl, rfl⟩, ⟨rfl, rfl⟩, ⟨rfl, rfl⟩⟩
theorem cVal : Tryz.prog.cellsOf 27 = 6 := by kernel_rfl
theorem cNum : Tryz.prog.cellsOf 3 = 1 := by kernel_rfl
theorem cStr : Tryz.prog.cellsOf 9 = 1 := by kernel_rfl
theorem cVals : Tryz.prog.cellsOf 25 = 1 := by kernel_rfl
theorem open_two {H : Type} {enc : TypeId × Value → H} {W : World} {fuel : Nat} {c0 c1 : Value} {d : DataW H} {p : List MemPlace} (hd : DataW.trod enc Tryz.prog W 0 (fun _ => true) true fuel 24 [c0, c1] = some (d, p)) (hwt : ∀ n ∈ d.weights Tryz.prog 24, n ≤ reachBytes) :
 ∃ n A c l, c0 = .bool n ∧ c1 = .slice A (List.length l) c ∧ Rd W A l ∧ l.length ≤ c := by
 obtain ⟨f0, f1, hu, ht0, ho0, ht1, ho1⟩ := uInt
 obtain ⟨y0, y1, m, hx, -, h0, h1⟩ := trod_struct2 hu hd
 rw [ht0, ho0, cBool] at h0
 rw [ht1, ho1, cWords] at h1
 obtain ⟨n, hb, -⟩ := DataW.trod_bool uBool h0
 have e0 : c0 = .bool n := by simpa [Value.cells] using hb
 have h1' : DataW.trod enc Tryz.prog W 0 (fun _ => true) true m 22 [c1] = some y1 := by simpa [Value.cells] using h1
 rcases open_ints underl_u32 uWord cWord h1' with ⟨e1, -⟩ | ⟨a, len, cap, zs, e1, -, hlc, hmax, hzl, hy, hcell, hwf⟩
 · exact ⟨n, none, 0, [], e0, by simpa using e1, Rd.nil _ _, Nat.le_refl _⟩
 · have e1' : c1 = .slice (some a) len cap := by simpa using e1
   rw [if_pos rfl] at hzl
   refine ⟨n, some a, cap, (zs.take len).map Int.toNat, e0, ?_, ?_, ?_⟩
   · rw [e1', List.length_map, List.length_take, Nat.min_eq_left (by omega)]
   · have hlen : ((zs.take len).map Int.toNat).length = len := by rw [List.length_map, List.length_take, Nat.min_eq_left (by omega)]
     have hz : ∀ i, i < len → (((zs.take len).map Int.toNat).getD i 0 : Int) = zs.getD i 0 ∧ ((zs.take len).map Int.toNat).getD i 0 < 4294967296 := by
      intro i hi
      have hi' : i < zs.length := by omega
      have hw := hwf zs[i] (List.getElem_mem hi')
      have hw2 : 0 ≤ zs[i] ∧ zs[i] ≤ 4294967295 := by simpa [Lit.wf, IntKind.has, IntKind.min, IntKind.max, IntKind.signed, IntKind.bits, ← Int.lt_iff_add_one_le] using hw
      rw [List.getD_eq_getElem?_getD, List.getElem?_map, List.getElem?_take_of_lt hi, List.getElem?_eq_getElem hi', List.getD_eq_getElem?_getD, List.getElem?_eq_getElem hi']
      simp only [Option.map_some, Option.getD_some]
      omega
     refine ⟨fun i hi => ?_, fun x hx => ?_, ?_⟩
     · rw [hlen] at hi
       have hc := hcell i (by omega)
       rw [← (hz i hi).1] at hc
       obtain ⟨b, o, s⟩ := a
       cases s with
       | none =>
        refine ⟨b, o, rfl, ?_⟩
        have e : (⟨b, o, none⟩ : Addr).add i = ⟨b, o + i, none⟩ := by unfold Addr.add; split <;> simp_all
        rwa [e] at hc
       | some s =>
        have h0 := hcell 0 (by omega)
        simp [World.cell?, Addr.add] at h0
        split at h0 <;> cases h0
     · obtain ⟨i, hi, rfl⟩ := List.getElem_of_mem hx
       have := (hz i (by omega)).2
       rwa [List.getD_eq_getElem?_getD, List.getElem?_eq_getElem hi] at this
     · rw [hlen]
       have h3 := hwt ((zs.take len).length * 4 + (zs.drop len).length * 4) (by
        have hb4 : Tryz.prog.bytesOf 127 = 4 := by kernel_rfl
        have e : d = .agg [y0.1, y1.1] := congrArg Prod.fst hx
        rw [e, DataW.weights, hu]
        simp only [List.map_cons, List.map_nil, ht0, ht1, DataW.weightsEach]
        rw [hy]
        simp only [DataW.weights, underl_u32, hb4, lits, List.length_map, ← Nat.add_mul]
        simp)
       rw [List.length_take, List.length_drop] at h3
       simp only [reachBytes] at h3
       omega
   · rw [List.length_map, List.length_take]
     omega
theorem open_val {H : Type} {enc : TypeId × Value → H} {W : World} {base : Nat} {v : Value} {d : DataW H} {p : List MemPlace} (hv : Value.okWide Tryz.prog W .any base 27 v) (h : DataW.Trod enc Tryz.prog W 0 (fun _ => true) true 27 v d p) (hwt : ∀ n ∈ d.weights Tryz.prog 27, n ≤ reachBytes) :
 ∃ a : VA, v = a.val ∧ a.At W := by
 obtain ⟨f0, f1, f2, f3, f4, hu, ⟨t0, o0⟩, ⟨t1, o1⟩, ⟨t2, o2⟩, ⟨t3, o3⟩, ⟨t4, o4⟩⟩ := uVal
 obtain ⟨cs, rfl, hsz, -⟩ : ∃ cs, v = .agg cs ∧ cs.size = Tryz.prog.cellsOf 27 ∧ _ := by
  unfold Value.okWide at hv
  rw [hu] at hv
  exact hv
 rw [cVal] at hsz
 obtain ⟨fuel, hd⟩ := h
 obtain ⟨xs, m, -, hx, -, hxl, hf⟩ := DataW.trod_struct hu hd
 have hl : cs.toList.length = 6 := by rw [Array.length_toList]; exact hsz
 obtain ⟨c0, c1, c2, c3, c4, c5, hcs⟩ : ∃ c0 c1 c2 c3 c4 c5, cs.toList = [c0, c1, c2, c3, c4, c5] := by
  match hh : cs.toList, hl with
  | [c0, c1, c2, c3, c4, c5], _ => exact ⟨c0, c1, c2, c3, c4, c5, rfl⟩
 obtain rfl : cs = #[c0, c1, c2, c3, c4, c5] := by rw [← Array.toArray_toList (xs := cs), hcs]
 obtain ⟨y0, y1, y2, y3, y4, rfl⟩ : ∃ y0 y1 y2 y3 y4, xs = [y0, y1, y2, y3, y4] := by
  match xs, hxl with
  | [y0, y1, y2, y3, y4], _ => exact ⟨y0, y1, y2, y3, y4, rfl⟩
 have h0 := hf 0 f0 rfl
 have h1 := hf 1 f1 rfl
 have h2 := hf 2 f2 rfl
 have h3 := hf 3 f3 rfl
 have h4 := hf 4 f4 rfl
 rw [t0, o0, cNum] at h0
 rw [t1, o1, cNum] at h1
 rw [t2, o2, cInt] at h2
 rw [t3, o3, cStr] at h3
 rw [t4, o4, cVals] at h4
 obtain ⟨k, e0, -, -⟩ := DataW.trod_int Tryz.underlying3 h0
 obtain ⟨q, e1, -, -⟩ := DataW.trod_int Tryz.underlying3 h1
 obtain ⟨S, e3, -, -⟩ := DataW.trod_string Tryz.underlying9 h3
 have hy2 : ∀ n ∈ y2.1.weights Tryz.prog 24, n ≤ reachBytes := fun n hn => hwt n (by
  have e : d = .agg [y0.1, y1.1, y2.1, y3.1, y4.1] := congrArg Prod.fst hx
  rw [e, DataW.weights, hu]
  simp only [List.map_cons, List.map_nil, t0, t1, t2, t3, t4, DataW.weightsEach]
  simp only [List.mem_append]
  simp [hn])
 obtain ⟨n, A, c, l, g0, g1, r1, k1⟩ := open_two (c0 := c2) (c1 := c3) (d := y2.1) (p := y2.2) h2 hy2
 have e5 : ∃ B m d, c5 = .slice B m d := by
  rcases DataW.trod_slice Tryz.underlying25 h4 with ⟨e, -⟩ | ⟨a, len, cap, _, _, _, _, e, _⟩
  · exact ⟨none, 0, 0, by simpa [Value.cells] using e⟩
  · exact ⟨some a, len, cap, by simpa [Value.cells] using e⟩
 obtain ⟨B, m, d, e5⟩ := e5
 refine ⟨⟨k, q, n, A, c, l, S, B, m, d⟩, ?_, ⟨r1, k1⟩⟩
 rw [g0, g1, e5, show c0 = .int .i64 k by simpa [Value.cells] using e0, show c1 = .int .i64 q by simpa [Value.cells] using e1, show c4 = .string S by simpa [Value.cells] using e3]
end Dc
end Go.Proofs.YtjghnghceeijeaaGreatDoor
namespace Go.Proofs.YtjghnghceeijeaaGreatDoor
namespace Dc
open Go.RowKit Go.Shelf Go.BigFrame Go.Proofs.YtjghnghceeijeaaGreatDoor.Nm
attribute [local go_sem] Oper.semAt_some
theorem lz_ten_eight (k : Nat) (hk : k ≤ 40) : Lz 8 ((10 : Int) ^ k) := by
 refine (Lz.of (k := 5) ?_).mono (by decide)
 rw [Int.natAbs_pow]
 exact Nat.lt_of_le_of_lt (Nat.pow_le_pow_right (by decide) hk) (by decide)
end Dc
end Go.Proofs.YtjghnghceeijeaaGreatDoor
