/-
  Contracts of the walks below.
-/
import Derived.Test.YtjghnghceeijeaaGreatDoorDp21
import Derived.Test.YtjghnghceeijeaaGreatDoorDp29
import Derived.Test.YtjghnghceeijeaaGreatDoorShelfb
set_option maxRecDepth 100000
set_option maxHeartbeats 4000000
set_option linter.unusedVariables false
set_option linter.unusedSimpArgs false
namespace Go.Proofs.YtjghnghceeijeaaGreatDoor
namespace Dc
open Go.RowKit Go.Shelf Go.BigFrame Go.Proofs.YtjghnghceeijeaaGreatDoor.Nm
attribute [local go_sem] Oper.semAt_some
def padT (p : Nat) (t : List Nat) : List Nat := List.replicate (p + 1 - t.length) 48 ++ t
def textDot (t : List Nat) (p : Nat) : List Nat := t.take (t.length - p) ++ 46 :: t.drop (t.length - p)
def decL (z : Int) (p : Nat) : List Nat := (if z < 0 then [45] else []) ++ textDot (padT p (textL false 10 z.natAbs)) p
theorem textL_len (n : Nat) (h : n < BB ^ 40) : 1 ≤ (textL false 10 n).length ∧ (textL false 10 n).length ≤ 1281 := by
 unfold textL
 by_cases h0 : n = 0
 · rw [if_pos h0]; decide
 · rw [if_neg h0]
   rw [pow_BB] at h
   have h1 := digs_length (b := 10) (by decide) (32 * 40) n h
   have h2 : 0 < (digs 10 n).length := by rw [digs_pos (by decide) (by omega)]; simp
   simp only [Bool.false_eq_true, if_false, List.nil_append, List.length_reverse, List.length_map]
   omega
theorem strB_size (l : List Nat) : (strB l).size = l.length := by
 show (l.map UInt8.ofNat).toArray.size = _
 simp
theorem strB_append (a b : List Nat) : strB (a ++ b) = strB a ++ strB b := by
 apply ByteArray.ext
 rw [ByteArray.data_append]
 unfold strB
 simp
theorem strB_extract (l : List Nat) (i j : Nat) : (strB l).extract i j = strB ((l.drop i).take (j - i)) := by
 apply ByteArray.ext
 rw [ByteArray.data_extract]
 unfold strB
 simp [List.map_take, List.map_drop]
theorem repeat_zero : ∀ c, (⟨(Lib.repeatL [48] c).toArray⟩ : ByteArray) = strB (List.replicate c 48)
 | 0 => rfl
 | c + 1 => by
  have h := congrArg (fun b : ByteArray => b.data.toList) (repeat_zero c)
  apply ByteArray.ext
  unfold strB at h ⊢
  simp only [Lib.repeatL, List.replicate_succ, List.map_cons] at h ⊢
  rw [h]
  rfl
def textX (a : VA) : List Nat × Int := if a.ok = true then (decL a.z a.q, 0) else ([], 2)
theorem text1_z (n1 : Bool) (A1 : Option Addr) (c1 : Nat) (l1 : List Nat) (z1 : Int) (p : Nat) (B1 : Option Addr) (d1 ga gs : Nat) (hga : ga ≠ gs) (w : World) (Ka : Blk w ga #[.int .i64 3, .int .i64 (p : Int), .bool n1, .slice A1 l1.length c1, .string ⟨#[]⟩, .slice B1 0 d1] 27) (Ks : Blk w gs #[.string ⟨#[]⟩] 9) (I1 : IV w n1 A1 c1 l1 z1) (D1 : IsD z1 p) (hd : DigW w) :
 Calls Tryz.prog 99 #[.pointer (some ⟨ga, 0, none⟩), .pointer (some ⟨gs, 0, none⟩)] w fun e w' => e = .returned (.tuple #[]) ∧ Off (fun k => k = gs) w w' ∧ Blk w' gs #[.string (strB (decL z1 p))] 9 := by
 have ha : (VA.mk 3 (p : Int) n1 A1 c1 l1 ⟨#[]⟩ B1 0 d1).At w := ⟨(I1.on (Below.refl _ w)).rd, I1.cap⟩
 have hdc := decimals_c w.heap.size [(VA.mk 3 (p : Int) n1 A1 c1 l1 ⟨#[]⟩ B1 0 d1)] (w.alloc (.cells #[.int .i64 3, .int .i64 (p : Int), .bool n1, .slice A1 l1.length c1, .string ⟨#[]⟩, .slice B1 0 d1] 27)) (by simp) (vals_one (VA.mk 3 (p : Int) n1 A1 c1 l1 ⟨#[]⟩ B1 0 d1) _ _ ⟨World.alloc_heap_new w _⟩ (ha.on (al1 w _))) (by simp)
 rw [decE_one, VA.ok_made I1.isZ D1, if_pos rfl] at hdc
 have a1 := al1 w (.cells #[.int .i64 3, .int .i64 (p : Int), .bool n1, .slice A1 l1.length c1, .string ⟨#[]⟩, .slice B1 0 d1] 27)
 have hsz := fun W' (h : Below w.heap.size w W') => size_z n1 A1 c1 l1 z1 W' (I1.on h) (D1.lz.mono (by decide))
 have f1 := D1.lz.abs
 obtain ⟨T, hT⟩ : ∃ T, strB (textL false 10 z1.natAbs) = T := ⟨_, rfl⟩
 have hTx : ∀ W' (h : Below w.heap.size w W') s A c l (I : IV W' s A c l (z1.natAbs : Int)), Calls Tryz.prog 100 #[iv s A l.length c, .int .i64 10] W' (fun e w'' => e = .returned (.tuple #[.string T, .int .i64 0]) ∧ Below W'.heap.size W' w'') := fun W' h s A c l I => by
  have := Text_calls s 10 A c l W' I.rd I.cap (hd.on h)
  rw [textR_z (I.ok f1 (by decide)), if_pos (by decide), decide_eq_false (by omega), Int.natAbs_natCast, show (10 : Int).toNat = 10 from rfl, hT] at this
  exact this
 have hTs : T.size = (textL false 10 z1.natAbs).length := by rw [← hT, strB_size]
 obtain ⟨hT1, hT2⟩ := textL_len z1.natAbs D1.lz.lt
 obtain ⟨c, hc⟩ : ∃ c, p + 1 - T.size = c := ⟨_, rfl⟩
 have hcm : max 0 (wrap64 (wrap64 ((p : Int) + 1) - (T.size : Int))) = (c : Int) := by
  have := D1.hi
  unfold wrap64
  omega
 have hRep : ∀ W' (x : Int), x = (c : Int) → Calls Tryz.prog 102 #[.string ⟨#[48]⟩, .int .i64 x] W' (fun e w' => e = .returned (.string (strB (List.replicate c 48))) ∧ Below W'.heap.size W' w') := fun W' x hx => by
  have := D1.hi
  have h := Tryz.strings_Repeat ⟨#[48]⟩ c W' (by omega) (by show 1 * c ≤ _; omega)
  rw [show (⟨#[48]⟩ : ByteArray).data.toList = [48] from rfl, repeat_zero] at h
  rw [hx]
  exact h
 have hnb : ¬ 9223372036854775807 < (strB (List.replicate c 48)).size + T.size := by have := D1.hi; rw [strB_size, List.length_replicate]; omega
 clear f1
 replace hTs := Lib.hid hTs
 replace hc := Lib.hid hc
 replace hT := Lib.hid hT
 obtain ⟨x0, x1, x2, x3, x4, x5⟩ := cL6 Ka.h
 have HD := Lib.hid D1
 have Hsg := Lib.hid I1.sgn
 clear ha D1
 go_enter Tryz.func99, Tryz.ntmps99
 go_upto_region 3 with first
  | (go_at_call 78; refine (need_ok _).mono ?_; rintro e w8 ⟨rfl, rfl⟩)
  | (go_at_call 100; have hmark := q6; refine (hTx _ q6 _ _ _ _ I6).mono ?_; rintro e w7 ⟨rfl, b7⟩; have q7 := q6.trans (b7.mono q6.size); clear y0 y1 y2 y3 y4 y5; obtain ⟨y0, y1, y2, y3, y4, y5⟩ := cL6 (Ka.on q7).h)
  | (go_at_call 101; have hmark := q5; refine (hsz _ q5).mono ?_; rintro e w6 ⟨s6, A6, c6, l6, rfl, I6, b6⟩; have q6 := q5.trans (b6.mono q5.size); clear y0 y1 y2 y3 y4 y5; obtain ⟨y0, y1, y2, y3, y4, y5⟩ := cL6 (Ka.on q6).h)
  | (go_at_call 77; refine hdc.mono ?_; rintro e w5 ⟨hw, b5⟩; obtain rfl := hw.1 rfl; have q5 := a1.trans (b5.mono a1.size); clear x0 x1 x2 x3 x4 x5; obtain ⟨y0, y1, y2, y3, y4, y5⟩ := cL6 (Ka.on q5).h)
 go_upto_region 4 with (go_at_call 102; refine (hRep _ _ rfl).mono ?_; rintro e w8 ⟨rfl, b8⟩; have q8 := q7.trans (b8.mono q7.size); clear y0 y1 y2 y3 y4 y5; obtain ⟨y0, y1, y2, y3, y4, y5⟩ := cL6 (Ka.on q8).h; have k0 := cell_at (Ks.on q8).h 0 _ rfl; have f0 := frozen_at (Ks.on q8).h 0)
 have q8' := q8
 clear y0 y1 y2 y3 y4 y5
 have r0 := cell_at (Ka.on q8).h 1 _ rfl
 obtain ⟨T2, hT2⟩ : ∃ T2, strB (List.replicate c 48) ++ T = T2 := ⟨_, rfl⟩
 try rw [hT2]
 have hTT : T2 = strB (padT p (textL false 10 z1.natAbs)) := by rw [← hT2, ← hT.out, ← strB_append, ← hc.out, hTs.out]; rfl
 have hn2 : T2.size = c + T.size := by rw [← hT2, ByteArray.size_append, strB_size, List.length_replicate]
 obtain ⟨m, hm⟩ : ∃ m, T2.size - p = m := ⟨_, rfl⟩
 have hcx := hc.out
 have hTx := hTs.out
 have hwm : IntKind.i64.wrap ((T2.size : Int) - (p : Int)) = (m : Int) := by rw [IntKind.wrap_i64]; have := HD.out.hi; omega
 have hm1 : (m : Int) ≤ (T2.size : Int) := by omega
 have hm2 : (0 : Int) ≤ (m : Int) := by omega
 replace hm := Lib.hid hm
 replace hn2 := Lib.hid hn2
 replace hTT := Lib.hid hTT
 replace hT2 := Lib.hid hT2
 obtain ⟨Ea, hEa⟩ : ∃ Ea, T2.extract 0 m = Ea := ⟨_, rfl⟩
 obtain ⟨Eb, hEb⟩ : ∃ Eb, T2.extract m T2.size = Eb := ⟨_, rfl⟩
 obtain ⟨Ec, hEc⟩ : ∃ Ec, Ea ++ ⟨#[46]⟩ = Ec := ⟨_, rfl⟩
 obtain ⟨Ed, hEd⟩ : ∃ Ed, Ec ++ Eb = Ed := ⟨_, rfl⟩
 have hsb : T2.size ≤ 5000 := by have := HD.out.hi; have := hn2.out; omega
 have hsa : Ea.size ≤ 5000 := by rw [← hEa, ByteArray.size_extract]; omega
 have hsb : Eb.size ≤ 5000 := by rw [← hEb, ByteArray.size_extract]; omega
 have hsc : Ec.size ≤ 5001 := by rw [← hEc, ByteArray.size_append]; exact Nat.add_le_add hsa (Nat.le_refl 1)
 have hna : ¬ 9223372036854775807 < Ea.size + (⟨#[46]⟩ : ByteArray).size := by show ¬ _ < Ea.size + 1; omega
 have hna' : ¬ 9223372036854775807 < Ea.size + 1 := by omega
 have hnc : ¬ 9223372036854775807 < Ec.size + Eb.size := by omega
 have hEd2 : Ed = strB (textDot (padT p (textL false 10 z1.natAbs)) p) := by
  rw [← hEd, ← hEc, ← hEa, ← hEb, hTT.out, strB_size, strB_extract, strB_extract, List.drop_zero, Nat.sub_zero, show (⟨#[46]⟩ : ByteArray) = strB [46] from rfl, ← strB_append, ← strB_append]
  unfold textDot
  rw [show (padT p (textL false 10 z1.natAbs)).length - p = m by rw [← strB_size, ← hTT.out]; exact hm.out, List.append_assoc]
  rw [List.take_of_length_le (i := (padT p (textL false 10 z1.natAbs)).length - m) (by rw [List.length_drop]; exact Nat.le_refl _)]
  rfl
 have hnd : ¬ 9223372036854775807 < 1 + Ed.size := by rw [← hEd, ByteArray.size_append]; omega
 replace hEd2 := Lib.hid hEd2
 clear hcx hTx hsa hsb hsc
 refine wp_region_any (by kernel_rfl) ?_
 refine pT 0 (Value.string T2) ?_
 try simp only [Act.put, aQ, bQ, cQ]
 refine pT 1 (Value.string T2) ?_
 try simp only [Act.put, aQ, bQ, cQ]
 refine pT 2 (Value.int .i64 (T2.size : Int)) ?_
 try simp only [Act.put, aQ, bQ, cQ]
 refine pT 3 (Value.pointer (some ⟨ga, 1, none⟩)) ?_
 try simp only [Act.put, aQ, bQ, cQ]
 refine pT 8 (Value.string T2) ?_
 try simp only [Act.put, aQ, bQ, cQ]
 refine pT 9 (Value.string T2) ?_
 try simp only [Act.put, aQ, bQ, cQ]
 refine pT 10 (Value.int .i64 (T2.size : Int)) ?_
 try simp only [Act.put, aQ, bQ, cQ]
 refine pT 11 (Value.pointer (some ⟨ga, 1, none⟩)) ?_
 try simp only [Act.put, aQ, bQ, cQ]
 refine wpAny_of_F (S := fun w'' => w''.cell? ⟨ga, 1, none⟩ = some (.int .i64 (p : Int))) (late := [16]) _ _ _ _ ?_
 refine fT 4 6 (Value.int .i64 (p : Int)) r0 ?_
 try simp only [Act.put, aQ, bQ, cQ]
 refine fT 12 6 (Value.int .i64 (p : Int)) r0 ?_
 try simp only [Act.put, aQ, bQ, cQ]
 refine fT 5 6 (Value.int .i64 (m : Int)) r0 ?_
 try simp only [Act.put, aQ, bQ, cQ]
 refine fT 6 6 (Value.string Ea) r0 ?_
 try simp only [Act.put, aQ, bQ, cQ]
 refine fT 7 6 (Value.string Ec) r0 ?_
 try simp only [Act.put, aQ, bQ, cQ]
 refine fT 13 6 (Value.int .i64 (m : Int)) r0 ?_
 try simp only [Act.put, aQ, bQ, cQ]
 refine fT 14 6 (Value.string Eb) r0 ?_
 try simp only [Act.put, aQ, bQ, cQ]
 refine fT 15 6 (Value.string Ed) r0 ?_
 try simp only [Act.put, aQ, bQ, cQ]
 refine wpAnyF_one (i := 16) (by kernel_rfl) rfl (fun K hK => ?_)
 go_simp
 refine hK.out _ _ (Or.inl (by decide)) ?_
 clear hK K
 try simp only [Act.put, aQ, bQ, cQ]
 refine wpAnyF_done (by kernel_rfl) ?_ _
 obtain ⟨X, hX⟩ : ∃ X, (w8.setCell ⟨gs, 0, none⟩ (.string Ed)).drew = X := ⟨_, rfl⟩
 have KX : Blk X ga #[.int .i64 3, .int .i64 (p : Int), .bool n1, .slice A1 l1.length c1, .string ⟨#[]⟩, .slice B1 0 d1] 27 := by rw [← hX]; exact blk_drew (blk_ne hga (Ka.on q8))
 have SX : Blk X gs #[.string Ed] 9 := by rw [← hX]; exact blk_drew ⟨set_blk (Ks.on q8).h 0 _⟩
 have OX : Off (fun k => k = gs) w X := by rw [← hX]; exact ((Off.of_below (P := fun k => k = gs) q8).set (g := gs) (.inl rfl) 0 (.string Ed)).on (below_drew (Below.refl _ _))
 have hsg := Hsg.out
 rw [hX]
 clear hX k0 f0 r0
 obtain ⟨y0, y1, y2, y3, y4, y5⟩ := cL6 KX.h
 have k0 := cell_at SX.h 0 _ rfl
 have f0 := frozen_at SX.h 0
 cases n1
 · have hd : strB (decL z1 p) = Ed := by rw [hEd2.out]; unfold decL; rw [if_neg (of_decide_eq_false hsg.symm)]; rfl
   replace hd := Lib.hid hd
   clear hsg
   go_wp2_with fail
   go_end0
   rw [hd.out]
   exact ⟨rfl, OX, SX⟩
 · have hd : strB (decL z1 p) = ⟨#[45]⟩ ++ Ed := by rw [hEd2.out]; unfold decL; rw [if_pos (of_decide_eq_true hsg.symm), strB_append]; rfl
   replace hd := Lib.hid hd
   clear hsg
   go_wp2_with fail
   go_end0
   rw [hd.out]
   exact ⟨rfl, OX.set (.inl rfl) 0 _, ⟨set_blk SX.h 0 _⟩⟩
theorem text1_no (a : VA) (ga gs : Nat) (w : World) (Ka : Blk w ga #[.int .i64 a.k, .int .i64 a.p, .bool a.s, .slice a.A a.l.length a.c, .string a.S, .slice a.B a.m a.d] 27) (Ks : Blk w gs #[.string ⟨#[]⟩] 9) (ha : a.At w) (hno : a.ok = false) :
 Calls Tryz.prog 99 #[.pointer (some ⟨ga, 0, none⟩), .pointer (some ⟨gs, 0, none⟩)] w fun e w' => e = .panicked (failure 2) ∧ Off (fun k => k = gs) w w' ∧ Blk w' gs #[.string ⟨#[]⟩] 9 := by
 have hdc := decimals_c w.heap.size [a] (w.alloc (.cells #[.int .i64 a.k, .int .i64 a.p, .bool a.s, .slice a.A a.l.length a.c, .string a.S, .slice a.B a.m a.d] 27)) (by simp) (vals_one a _ _ ⟨World.alloc_heap_new w _⟩ (ha.on (al1 w _))) (by simp)
 rw [decE_one, if_neg (by rw [hno]; decide)] at hdc
 clear hno
 obtain ⟨x0, x1, x2, x3, x4, x5⟩ := cL6 Ka.h
 have a1 := al1 w (.cells #[.int .i64 a.k, .int .i64 a.p, .bool a.s, .slice a.A a.l.length a.c, .string a.S, .slice a.B a.m a.d] 27)
 go_enter Tryz.func99, Tryz.ntmps99
 go_wp2_with (go_at_call 77; refine hdc.mono ?_; rintro e w5 ⟨hw, b5⟩; obtain rfl := hw.2 (by decide); have q5 := a1.trans (b5.mono a1.size))
 exact ⟨rfl, rfl, .of_below q5, Ks.on q5⟩
theorem text1_all (a : VA) (ga gs : Nat) (hga : ga ≠ gs) (w : World) (Ka : Blk w ga #[.int .i64 a.k, .int .i64 a.p, .bool a.s, .slice a.A a.l.length a.c, .string a.S, .slice a.B a.m a.d] 27) (Ks : Blk w gs #[.string ⟨#[]⟩] 9) (ha : a.At w) (hd : DigW w) :
 Calls Tryz.prog 99 #[.pointer (some ⟨ga, 0, none⟩), .pointer (some ⟨gs, 0, none⟩)] w fun e w' => Went (textX a).2 e ∧ Off (fun k => k = gs) w w' ∧ Blk w' gs #[.string (strB (textX a).1)] 9 := by
 unfold textX
 cases hok : a.ok
 · rw [if_neg (by decide)]
   exact (text1_no a ga gs w Ka Ks ha hok).mono fun e w' h => ⟨⟨fun h => absurd h (by decide), fun _ => h.1⟩, h.2⟩
 · rw [if_pos rfl]
   obtain ⟨p, s1, A1, c1, l1, B1, d1, e1, i1, D1, -, q1⟩ := VA.destruct ha.rd.words hok
   rw [q1]
   generalize a.z = za at *
   subst e1
   exact (text1_z s1 A1 c1 l1 za p B1 d1 ga gs hga w Ka Ks ⟨ha.rd, ha.cap, i1⟩ D1 hd).mono fun e w' h => ⟨⟨fun _ => h.1, fun h => absurd rfl h⟩, h.2⟩
theorem DText_calls (a : VA) (w : World) (ha : a.At w) (hd : DigW w) : Calls Tryz.prog 23 #[a.val] w fun e w' => e = .returned (.tuple #[.string (strB (textX a).1), .int .i64 (textX a).2]) ∧ Below w.heap.size w w' := by
 have hmf := mkf
 obtain ⟨W, hW, hbW, K0, K1, hszW⟩ := box2 w #[.int .i64 a.k, .int .i64 a.p, .bool a.s, .slice a.A a.l.length a.c, .string a.S, .slice a.B a.m a.d] 27 #[.string ⟨#[]⟩] 9
 have hal : Below W.heap.size W (W.alloc (.cells #[.int .i64 0] 30)) := al1 W _
 have lw := hszW
 have hv := guard_calls 99 #[.pointer (some ⟨w.heap.size, 0, none⟩), .pointer (some ⟨w.heap.size + 1, 0, none⟩)] (enters_of Tryz.func99 (by kernel_rfl) rfl) W (textX a).2
  (fun w' => Off (fun k => k = w.heap.size + 1) w w' ∧ Blk w' (w.heap.size + 1) #[.string (strB (textX a).1)] 9)
  ((text1_all a _ _ (by omega) _ (K0.on hal) (K1.on hal) ((ha.on hbW).on hal) ((hd.on hbW).on hal)).mono (by
   rintro e w' ⟨h1, h2, h3⟩
   have hle := h2.size
   rw [World.size_alloc] at hle
   exact ⟨h1, h2.blk (by omega) ⟨World.alloc_heap_new W _⟩, by omega, (Off.of_below (hbW.trans (hal.mono hbW.size))).trans h2, h3⟩))
 generalize strB (textX a).1 = S at *
 generalize (textX a).2 = er at *
 replace hszW := Lib.hid hszW
 replace lw := Lib.hid lw
 go_enter Tryz.func23, Tryz.ntmps23
 go_wp2_with (go_at_call 98; refine hv.mono ?_; rintro e w5 ⟨rfl, w4, ⟨o4, K4⟩, n5⟩; have K5 : Blk w5 (w.heap.size + 1) #[.string S] 9 := ⟨(n5.low.block _ (by have := lw.out; omega)).trans K4.h⟩; have u0 := cell_at K5.h 0 _ rfl; have f0 := frozen_at K5.h 0)
 have hb4 : Below w.heap.size w w4 := o4.below (Nat.le_refl _) (by rintro k rfl; omega)
 have hb5 := hb4.trans (n5.low.mono (by have := lw.out; omega))
 have KX : Blk (w5.setCell ⟨w.heap.size + 1, 0, none⟩ (.string S)) (w.heap.size + 1) #[.string S] 9 := ⟨set_blk K5.h 0 _⟩
 have c5 := cell_at KX.h 0 _ rfl
 refine bodyPost_ret (v := .tuple #[.string S, .int .i64 er]) ?_ rfl ⟨rfl, hb5.setCell (by dsimp only; omega) _⟩
 rw [results_cell_tmp rfl]
 simp [asAddr, Result.andThen, go_sem, c5]
def dgB (c : Nat) : Bool := decide (48 ≤ c) && decide (c ≤ 57)
def digL (l : List Nat) : List (Nat × Bool) := (List.range l.length).map fun i => (i, dgB (l.getD i 0))
def encD (x : Nat × Bool) : Array Value := #[.int .i64 (x.1 : Int), .bool x.2]
def numL (l : List Nat) : Bool := l.all dgB && !l.isEmpty
theorem digL_length (l : List Nat) : (digL l).length = l.length := by simp [digL]
theorem digL_take {l : List Nat} {k : Nat} (h : k < l.length) : (digL l).take k ++ [(k, dgB (l.getD k 0))] = (digL l).take (k + 1) := by
 have h1 : (digL l)[k]? = some (k, dgB (l.getD k 0)) := by simp [digL, h]
 rw [List.take_add_one, h1]
 rfl
theorem digL_all (l : List Nat) : (∀ y ∈ digL l, y.2 = true) ↔ l.all dgB = true := by
 rw [List.all_eq_true]
 constructor
 · intro h c hc
   obtain ⟨i, hi, rfl⟩ := List.getElem_of_mem hc
   have := h (i, dgB (l.getD i 0)) (by simp only [digL, List.mem_map, List.mem_range]; exact ⟨i, hi, rfl⟩)
   simpa [List.getD_eq_getElem?_getD, List.getElem?_eq_getElem hi] using this
 · intro h y hy
   simp only [digL, List.mem_map, List.mem_range] at hy
   obtain ⟨i, hi, rfl⟩ := hy
   exact h _ (by rw [List.getD_eq_getElem?_getD, List.getElem?_eq_getElem hi]; exact List.getElem_mem hi)
theorem digits1_stops (n : Nat) (B n₀ : Nat) (S : ByteArray) (w : World) (hB : w.cell? ⟨B, 0, none⟩ = some (.string S)) (hlt : B < n₀) (hsm : S.size < 4611686018427387904) :
 SeqStopsK Fence.wide n Tryz.prog 224 #[.pointer (some ⟨B, 0, none⟩)] encD (Below n₀) (fun xs => xs = digL (bytesN S)) (fun pre => pre <+: digL (bytesN S)) S.size w := by
 intro lp J Jx W hW hJ hJx hY h0
 have hB' : W.cell? ⟨B, 0, none⟩ = some (.string S) := (hW.cell (p := ⟨B, 0, none⟩) (World.block_lt_of_cell? w _ hB)).trans hB
 have hl := bytesN_length S
 have hdl := digL_length (bytesN S)
 clear hB hW
 refine callsIn_of_wp Tryz.func224 rfl trivial ?_ rfl
 simp only [Tryz.ntmps224, List.size_toArray, List.length_cons, List.length_nil, Nat.reduceAdd, Nat.reduceSub, Array.replicate_succ, Array.replicate_zero, List.push_toArray, List.append_toArray, List.nil_append, List.cons_append]
 gi_wp2
 gi_loopw [6] (fun i wr => ∃ k : Nat, k ≤ S.size ∧ i = .int .i64 k ∧ J ((digL (bytesN S)).take k) wr ∧ Below n₀ W wr)
  (fun i _ => S.size - (intOf i).toNat)
 case atStart => exact ⟨0, Nat.zero_le _, rfl, by simpa using h0, Below.refl _ _⟩
 case round =>
  obtain ⟨k, hk, rfl, hJs, hnx⟩ := hrel
  by_cases ilt : k < S.size
  · have hget := getB ilt
    have hBr : wr.cell? ⟨B, 0, none⟩ = some (.string S) := (hnx.cell (p := ⟨B, 0, none⟩) hlt).trans hB'
    obtain ⟨c, hc⟩ : ∃ c, (bytesN S).getD k 0 = c := ⟨_, rfl⟩
    have hc256 : c < 256 := by rw [← hc]; exact byte_lt S ilt
    have htk := digL_take (l := bytesN S) (k := k) (by omega)
    rw [hc] at hget htk
    obtain ⟨fn, tmps, assign, body, hy, hR⟩ := hY _ (k, dgB c) wr hJs (by rw [List.length_take, hdl]; omega)
    rw [htk] at hR
    unfold encD at hy
    dsimp only at hy
    have hkI : (k : Int) < (S.size : Int) := by omega
    have e1 : dgB c = (decide (48 ≤ c) && decide (c ≤ 57)) := rfl
    clear hJs hc htk hB'
    rcases (show (48 ≤ c ∧ c ≤ 57) ∨ (48 ≤ c ∧ ¬ c ≤ 57) ∨ ¬ 48 ≤ c by omega) with ⟨h1, h2⟩ | ⟨h1, h2⟩ | h1
    · rw [e1, decide_eq_true h1, decide_eq_true h2, Bool.and_true] at hy
      have i1 : (48 : Int) ≤ (c : Int) := by omega
      have i2 : (c : Int) ≤ 57 := by omega
      gi_wp2
      refine ⟨fun h => by simp [Fence.wide] at h, hR.mono ?_⟩
      rintro e W3 (⟨rfl, hJ3, hk3⟩ | ⟨rfl, hJx3⟩)
      · gi_wp2
        go_roundw
        case rel => exact ⟨k + 1, by omega, by simp, hJ3, hnx.trans hk3⟩
        case measure => simp [intOf]; omega
      · gi_wp2
        refine bodyPost_ret (results_none rfl _ _ _) rfl ?_
        exact ⟨⟨_, rfl⟩, .inr ⟨_, List.take_prefix _ _, hJx3⟩⟩
    · rw [e1, decide_eq_true h1, decide_eq_false h2, Bool.true_and] at hy
      have i1 : (48 : Int) ≤ (c : Int) := by omega
      have i2 : ¬ (c : Int) ≤ 57 := by omega
      gi_wp2
      refine ⟨fun h => by simp [Fence.wide] at h, hR.mono ?_⟩
      rintro e W3 (⟨rfl, hJ3, hk3⟩ | ⟨rfl, hJx3⟩)
      · gi_wp2
        go_roundw
        case rel => exact ⟨k + 1, by omega, by simp, hJ3, hnx.trans hk3⟩
        case measure => simp [intOf]; omega
      · gi_wp2
        refine bodyPost_ret (results_none rfl _ _ _) rfl ?_
        exact ⟨⟨_, rfl⟩, .inr ⟨_, List.take_prefix _ _, hJx3⟩⟩
    · rw [e1, decide_eq_false h1, Bool.false_and] at hy
      have i1 : ¬ (48 : Int) ≤ (c : Int) := by omega
      gi_wp2
      refine ⟨fun h => by simp [Fence.wide] at h, hR.mono ?_⟩
      rintro e W3 (⟨rfl, hJ3, hk3⟩ | ⟨rfl, hJx3⟩)
      · gi_wp2
        go_roundw
        case rel => exact ⟨k + 1, by omega, by simp, hJ3, hnx.trans hk3⟩
        case measure => simp [intOf]; omega
      · gi_wp2
        refine bodyPost_ret (results_none rfl _ _ _) rfl ?_
        exact ⟨⟨_, rfl⟩, .inr ⟨_, List.take_prefix _ _, hJx3⟩⟩
  · obtain rfl : k = S.size := by omega
    gi_wp2
    go_end0
    exact ⟨⟨_, rfl⟩, .inl ⟨_, rfl, by rw [List.take_of_length_le (by omega)] at hJs; exact hJs⟩⟩
theorem digits_calls (S : ByteArray) (w : World) :
 Calls Tryz.prog 186 #[.string S] w fun e w' => e = .returned (.func (.func 224) #[] #[.pointer (some ⟨w.heap.size, 0, none⟩)]) ∧ w' = w.alloc (.cells #[.string S] 9) := by
 go_enter Tryz.func186, Tryz.ntmps186
 go_wp2
 go_ret
 exact ⟨rfl, rfl⟩
theorem number_calls (S : ByteArray) (w : World) (hsm : S.size < 4611686018427387904) :
 Calls Tryz.prog 110 #[.string S] w fun e w' => e = .returned (.bool (numL (bytesN S))) ∧ Below w.heap.size w w' := by
 refine (callsIn_wide (n := 5)).1 ?_
 refine callsIn_of_wp_marks Tryz.func110 rfl trivial ?_ rfl
 simp only [Tryz.ntmps110, List.size_toArray, List.length_cons, List.length_nil, Nat.reduceAdd, Nat.reduceSub, Array.replicate_succ, Array.replicate_zero, List.push_toArray, List.append_toArray, List.nil_append, List.cons_append]
 gi_wp2_with (refine ⟨trivial, ?_⟩; gi_at_call 186; refine (callsIn_wide.2 (digits_calls _ _)).mono ?_; rintro e w' ⟨rfl, rfl⟩)
 obtain ⟨W0, hW0, hB0, K0, K1, hsz⟩ := box2 w #[.bool false] 4 #[.string S] 9
 rw [hW0]
 refine wpIn_rangeFunc_ownF rfl (by decide) (gf := 224) (lb := #[.pointer (some ⟨w.heap.size + 1, 0, none⟩)]) rfl trivial (enters_of Tryz.func224 (by kernel_rfl) rfl)
  (digits1_stops 4 (w.heap.size + 1) (w.heap.size + 2) S _ (cell_at K1.h 0 _ rfl) (by omega) hsm) belowK_t (belowK_b (by omega)) (Below.refl _ _) (fun _ => rfl)
  (fun pre W => ((∀ y ∈ pre, y.2 = true) ∧ W.cell? ⟨w.heap.size, 0, none⟩ = some (.bool false) ∧ W.frozen? ⟨w.heap.size, 0, none⟩ = false) ∧ Below w.heap.size w W)
  (fun c pre W => (c = .ret ∧ (∃ y ∈ pre, y.2 = false) ∧ W.cell? ⟨w.heap.size, 0, none⟩ = some (.bool false)) ∧ Below w.heap.size w W)
  (OwnFrom.and (Own.from (fun s A B row hs hg hr => ⟨hs.1, cell_kept hs.2.1 hg hr, (frozen_kept hs.2.1 hg hr).trans hs.2.2⟩) _) (ownFrom_below (Nat.le_refl _) (by omega)))
  (fun c => OwnFrom.and (Own.from (fun s A B row hs hg hr => ⟨hs.1, hs.2.1, cell_kept hs.2.2 hg hr⟩) _) (ownFrom_below (Nat.le_refl _) (by omega)))
  ⟨⟨by simp, cell_at K0.h 0 _ rfl, frozen_at K0.h 0⟩, hB0⟩
  (fun x => { tmps := #[.string S, undef, .pointer (some ⟨w.heap.size, 0, none⟩), undef, .bool x.2, .string S, .func (.func 224) #[] #[.pointer (some ⟨w.heap.size + 1, 0, none⟩)], .int .i64 (x.1 : Int), .bool x.2, undef, undef, undef, undef], defers := [] }) ?assign ?body ?done ?stop
 case assign =>
  intro l x W K hK
  unfold encD
  gi_wp2
  exact hK
 case body =>
  rintro l pre x W ⟨⟨hp, hcr, hfr⟩, hB⟩ _
  obtain ⟨i, b⟩ := x
  cases b
  · gi_wp2
    exact ⟨KeepsOthers.setCell _ _ _, ⟨rfl, ⟨(i, false), by simp, rfl⟩, World.cell?_setCell_same' _ _ _ (by rw [hcr]; rfl)⟩, hB.setCell (p := ⟨w.heap.size, 0, none⟩) (by simp) _⟩
  · gi_wp2
    exact ⟨KeepsOthers.refl _, Below.refl _ _, ⟨fun y hy => (List.mem_append.1 hy).elim (hp y) (fun e => by simp at e; rw [e]), hcr, hfr⟩, hB⟩
 case done =>
  rintro D ys W hD rfl ⟨⟨hne, hcr, hfr⟩, hB⟩ hK
  have hall := (digL_all (bytesN S)).1 hne
  obtain ⟨r, hr1, hr2⟩ : ∃ r, numL (bytesN S) = r ∧ (!S.toList.isEmpty) = r := by
   refine ⟨_, rfl, ?_⟩
   unfold numL bytesN
   rw [show (List.map UInt8.toNat S.data.toList).all dgB = true from hall, Bool.true_and, Lib.toList_data, List.isEmpty_map]
  gi_wp2
  have hK' := (KeepsOthers.setCell W ⟨w.heap.size, 0, none⟩ (.bool r)).same D _ hK rfl
  refine ⟨by simp, .inl ⟨_, _, rfl, run_takeDeferred hK', ?_⟩⟩
  have hc5 := cell_kept (World.cell?_setCell_same' W ⟨w.heap.size, 0, none⟩ (.bool r) (by rw [hcr]; rfl)) (grownBy_putObj' _ D (.deferred none)) (fun r e => by cases e; exact ⟨_, hK', rfl⟩)
  refine ⟨.bool r, ?_, by rw [hr1], (hB.setCell (p := ⟨w.heap.size, 0, none⟩) (by simp) _).trans (belowK_b (w := w) (Nat.le_refl _) _ D _ _ (by omega) hK' rfl rfl)⟩
  simp [results, Tryz.f110, go_sem, hc5]
 case stop =>
  rintro D c pre W hD hpre ⟨⟨rfl, ⟨y, hy, hy2⟩, hcr⟩, hB⟩ hK
  have hno : numL (bytesN S) = false := by
   cases h : (bytesN S).all dgB
   · unfold numL; rw [h]; rfl
   · have := (digL_all (bytesN S)).2 h y (hpre.subset hy)
     rw [hy2] at this; cases this
  gi_wp2
  refine ⟨by simp, .inl ⟨_, _, rfl, run_takeDeferred hK, ?_⟩⟩
  have hc5 := cell_kept hcr (grownBy_putObj' _ D (.deferred none)) (fun r e => by cases e; exact ⟨_, hK, rfl⟩)
  refine ⟨.bool false, ?_, by rw [hno], hB.trans (belowK_b (w := w) (Nat.le_refl _) W D _ _ (by omega) hK rfl rfl)⟩
  simp [results, Tryz.f110, go_sem, hc5]
structure Cutted (S : ByteArray) (neg : Bool) (f b k : ByteArray) (v : Nat) : Prop where
 size : S.size ≤ 2000
 cut : ∃ t : ByteArray, Lib.trimPrefix S.data.toList [45] = t.data.toList ∧ t.size ≤ 2000 ∧ Lib.cut t.data.toList [46] = (f.data.toList, b.data.toList, true)
 pre : Lib.hasPrefix S.data.toList [45] = neg
 front : numL (bytesN f) = true
 behind : numL (bytesN b) = true
 kept : Lib.trimRightB b.data.toList 48 = k.data.toList
 fsize : f.size ≤ 2000
 bsize : b.size ≤ 2000
 ksize : k.size ≤ 20
 ok : parOk 10 (bytesN (f ++ k)) = true
 pos : (bytesN (f ++ k)).getD 0 0 ≠ 45
 val : parV 10 (bytesN (f ++ k)) = v
 fit : fitZ (v : Int) = ((v : Int), 0)
 lz : Lz 300 (v : Int)
theorem list_back (s : ByteArray) : (⟨s.data.toList.toArray⟩ : ByteArray) = s := by
 cases s
 simp
theorem Parse_pos (S : ByteArray) (w : World) (hsm : S.size < 35184372088832) (hok : parOk 10 (bytesN S) = true) (hp : (bytesN S).getD 0 0 ≠ 45) (v : Nat) (hv : parV 10 (bytesN S) = v) (hf : fitZ (v : Int) = ((v : Int), 0)) :
 Calls Tryz.prog 112 #[.string S, .int .i64 10] w (RetZE (v : Int) 0 w) := by
 have hmf := mkf
 obtain ⟨W3, hW3, hb3, B1, B2, hR, hsz⟩ := box3 w #[.string S] 9 #[.int .i64 10] 3 #[.bool false, .slice none 0 0] 24
 have hB4 : ∀ o o', Below W3.heap.size W3 ((W3.alloc o).alloc o') := fun o o' => ((Below.refl _ W3).alloc (Nat.le_refl _) _).alloc (by simp) _
 obtain ⟨h0, hg⟩ := parOk_true hok
 rw [bytesN_length] at h0 hg
 have hcl := fun o o' => parse1_good_f (w.heap.size + 1) w.heap.size 10 S S ((W3.alloc o).alloc o') (B2.on (hB4 o o')) (B1.on (hB4 o o')) (by omega) (by decide) (by decide) h0 _ (getB h0) (by rw [beq_eq_false_iff_ne]; omega) rfl hsm h0 hg v hv
 rw [hf] at hcl
 have hlt : w.heap.size < W3.heap.size := by omega
 have ht := try_low w.heap.size 191 #[.pointer (some ⟨w.heap.size + 1, 0, none⟩), .pointer (some ⟨w.heap.size, 0, none⟩)] (enters_of Tryz.func191 (by kernel_rfl) rfl) W3 hlt (v : Int) 0 (hcl _ _) (fun h => absurd rfl h)
 clear hsz hcl
 go_enter Tryz.func112, Tryz.ntmps112
 go_wp2_with (go_at_call 144; refine ht.mono ?_; rintro e w' ⟨s, A, c, l, rfl, hz, hc, hr, hb⟩; have hq := hb.blk (by omega) hR; obtain ⟨z0, z1⟩ := cL2 hq.h; obtain ⟨u0, u1⟩ := fZ2 hq.h)
 exact ret_cell_tmp (x := .bool s) (y := .slice A l.length c) rfl rfl rfl (set_blk (set_blk hq.h 0 _) 1 _) ⟨s, A, c, l, rfl, hz, hc, rd_sets hr hq _ _, ((hb3.trans hb.low).setCell (by dsimp only; omega) _).setCell (by dsimp only; omega) _⟩
theorem parse1_good (S f b k : ByteArray) (neg : Bool) (v : Nat) (ga : Nat) (w : World) (m : Int) (hm : w.cell? ⟨1, 0, none⟩ = some (.int .i64 m)) (Ka : Blk w ga #[.string S] 9) (C : Cutted S neg f b k v) :
 Calls Tryz.prog 107 #[.pointer (some ⟨ga, 0, none⟩)] w (PostV (fun _ => False) (madeE (if neg = true then -(v : Int) else (v : Int)) k.size) w) := by
 obtain ⟨hS, ⟨t, ht, hts, hcu⟩, hpre, hnf, hnb, hk, hfs, hbs, hks, hok, hpos, hv, hfit, hlz⟩ := C
 obtain ⟨W, hW, hbW, K0, hszW⟩ := box1 w (vcells 0 0 false none 0 0 ⟨#[]⟩ none 0 0) 27
 have hcp : ∀ W', Calls Tryz.prog 108 #[.string S, .string ⟨#[45]⟩] W' fun e w' => e = .returned (.tuple #[.string t, .bool neg]) ∧ w' = W' := fun W' => by
  have h := Tryz.strings_CutPrefix S ⟨#[45]⟩ W'
  rw [show (⟨#[45]⟩ : ByteArray).data.toList = [45] from rfl, ht, hpre, list_back] at h
  exact h
 have hct : ∀ W', Below w.heap.size w W' → Calls Tryz.prog 109 #[.string t, .string ⟨#[46]⟩] W' fun e w' => e = .returned (.tuple #[.string f, .string b, .bool true]) ∧ Below W'.heap.size W' w' := fun W' hb => by
  have h := Tryz.strings_Cut t ⟨#[46]⟩ m W' (by omega) ((hb.cell (p := ⟨1, 0, none⟩) (World.block_lt_of_cell? w _ hm)).trans hm)
  rw [show (⟨#[46]⟩ : ByteArray).data.toList = [46] from rfl, hcu] at h
  dsimp only at h
  rw [list_back, list_back] at h
  exact h.mono fun e w' hh => ⟨hh.1, by obtain ⟨n, e⟩ := hh.2; rw [e]; exact below_drewN (Below.refl _ _) n⟩
 have hn1 : ∀ W', Calls Tryz.prog 110 #[.string f] W' fun e w' => e = .returned (.bool true) ∧ Below W'.heap.size W' w' := fun W' => by
  have h := number_calls f W' (by omega)
  rwa [hnf] at h
 have hn2 : ∀ W', Calls Tryz.prog 110 #[.string b] W' fun e w' => e = .returned (.bool true) ∧ Below W'.heap.size W' w' := fun W' => by
  have h := number_calls b W' (by omega)
  rwa [hnb] at h
 have htr : ∀ W', Calls Tryz.prog 111 #[.string b, .string ⟨#[48]⟩] W' fun e w' => e = .returned (.string k) ∧ w' = W' := fun W' => by
  have h := Tryz.strings_TrimRight_one b 48 (by decide) W' (by omega)
  rw [hk, list_back] at h
  exact h
 have hpa : ∀ W', Calls Tryz.prog 112 #[.string (f ++ k), .int .i64 10] W' (fun e w' => ∃ s A c l, e = .returned (.tuple #[iv s A (List.length l) c, .int .i64 0]) ∧ IV w' s A c l (v : Int) ∧ Below W'.heap.size W' w') := fun W' => by
  have h := Parse_pos (f ++ k) W' (by rw [ByteArray.size_append]; omega) hok hpos v hv hfit
  exact h.mono fun e w' ⟨s, A, c, l, h1, h2, h3, h4, h5⟩ => ⟨s, A, c, l, h1, ⟨h4, h3, h2⟩, h5⟩
 have hna : ¬ 9223372036854775807 < f.size + k.size := by omega
 have hS2 : ¬ (2000 : Int) < (S.size : Int) := by omega
 have hk2 : ¬ (20 : Int) < (k.size : Int) := by omega
 obtain ⟨z, hz⟩ : ∃ z, (if neg = true then -(v : Int) else (v : Int)) = z := ⟨_, rfl⟩
 rw [hz]
 have hz3 : Lz 300 z := by rw [← hz]; split; exact hlz.neg; exact hlz
 have U1 := fun W' s A c l (I : IV W' s A c l z) => made_z s A c l _ k.size hks W' I hz3
 obtain ⟨E, hE⟩ : ∃ E, madeE z k.size = E := ⟨_, rfl⟩
 rw [hE] at U1 ⊢
 clear hE
 have x0 := cell_at (Ka.on hbW).h 0 _ rfl
 clear hS ht hts hcu hpre hnf hnb hk hfs hbs hks hv hok hpos hfit
 replace hszW := Lib.hid hszW
 go_enter Tryz.func107, Tryz.ntmps107
 go_upto_region 10 with first
  | (go_at_call 108; refine (hcp _).mono ?_; rintro e w4 ⟨rfl, rfl⟩)
  | (go_at_call 109; refine (hct _ hbW).mono ?_; rintro e w5 ⟨rfl, b5⟩; have hmark := hbW)
  | (go_at_call 110; refine (hn1 _).mono ?_; clear hn1; rintro e w6 ⟨rfl, b6⟩; have q6 := b5.trans (b6.mono b5.size))
  | (go_at_call 110; refine (hn2 _).mono ?_; rintro e w7 ⟨rfl, b7⟩; have q7 := q6.trans (b7.mono q6.size))
  | (go_at_call 111; refine (htr _).mono ?_; rintro e w8 ⟨rfl, rfl⟩)
 go_upto_region 11 with first
  | (go_at_call 112; refine (hpa _).mono ?_; rintro e w9 ⟨s9, A9, c9, l9, rfl, I9, b9⟩; have q9 := q7.trans (b9.mono q7.size))
  | (go_at_call 81; refine (must_ok s9 A9 c9 l9 _ _ I9).mono ?_; rintro e w10 ⟨s10, A10, c10, l10, rfl, I10, b10⟩; have q10 := q9.trans (b10.mono q9.size))
 have KB := blk_new w10 #[.bool s10, .slice A10 l10.length c10] 24
 have IX := iv_up (o := .cells #[.bool s10, .slice A10 l10.length c10] 24) I10
 have qX := q10.trans ((al1 w10 (.cells #[.bool s10, .slice A10 l10.length c10] 24)).mono q10.size)
 have hlt := q10.size
 have hu := hbW.size
 obtain ⟨g, hg⟩ : ∃ g, w10.heap.size = g := ⟨_, rfl⟩
 rw [hg] at KB hlt ⊢
 obtain ⟨X, hX⟩ : ∃ X, w10.alloc (.cells #[.bool s10, .slice A10 l10.length c10] 24) = X := ⟨_, rfl⟩
 rw [hX] at KB IX qX ⊢
 clear hX hg q10 b10 I10 q9 b9 I9 q7 b7 q6 b6 b5 hn2 hcp hct htr hpa x0
 obtain ⟨y0, y1⟩ := cL2 KB.h
 by_cases h0 : E.2.2 = 0
 all_goals
  cases neg
  · obtain rfl : (v : Int) = z := hz
    go_wp2_with (go_at_call 85; refine (U1 _ _ _ _ _ IX).mono ?_; rintro e w13 ⟨o13, p13, p13'⟩; first | (obtain ⟨v, rfl, s13, A13, c13, l13, rfl, I13⟩ := p13 h0; rw [kd_ok h0]; have q13 := qX.trans (o13.full.mono qX.size); obtain ⟨u0, u1, u2, u3, u4, u5⟩ := cL6 (K0.on q13).h; obtain ⟨f0, f1, f2, f3, f4, f5⟩ := fZ6 (K0.on q13).h) | (obtain rfl := p13' h0; have q13 := qX.trans (o13.full.mono qX.size)))
    all_goals first
     | exact ⟨rfl, .of_below (hbW.trans (q13.mono hbW.size)), fun h => absurd h h0, fun _ => rfl⟩
     | (have hb13 := hbW.trans (q13.mono hbW.size)
        obtain ⟨Z, hZ, KZ, NZ, OZ⟩ := storeV (k' := 3) (p' := (E.2.1 : Int)) (s' := s13) (A' := A13) (n' := l13.length) (c' := c13) (S' := ⟨#[]⟩) (B' := none) (m' := 0) (d' := 0) (K0.on q13)
        rw [hZ]
        exact ret_cellT rfl Tryz.underlying27 val_size rfl rfl KZ.h rfl ⟨.of_below (hb13.trans (NZ.low.mono (by omega))), fun _ => ⟨_, rfl, s13, A13, c13, l13, by rw [kd_ok h0], I13.nudge NZ⟩, fun h => absurd h0 h⟩)
  · obtain rfl : -(v : Int) = z := hz
    go_upto_region 13 with (go_at_call 113; refine (negative_z s10 A10 c10 l10 _ _ IX hlz).mono ?_; rintro e w11 ⟨s11, A11, c11, l11, rfl, I11, b11⟩; obtain ⟨x0, x1⟩ := cL2 (KB.on b11).h; obtain ⟨f0, f1⟩ := fZ2 (KB.on b11).h)
    obtain ⟨Y, hY, KY, NY, OY⟩ := storeI (s' := s11) (A' := A11) (n' := l11.length) (c' := c11) (KB.on b11)
    rw [hY]
    clear y0 y1 x0 x1 f0 f1
    obtain ⟨y0, y1⟩ := cL2 KY.h
    replace qX := (qX.trans (b11.mono qX.size)).trans (NY.low.mono hlt)
    replace IX := I11.nudge NY
    go_wp2_with (go_at_call 85; refine (U1 _ _ _ _ _ IX).mono ?_; rintro e w13 ⟨o13, p13, p13'⟩; first | (obtain ⟨v, rfl, s13, A13, c13, l13, rfl, I13⟩ := p13 h0; rw [kd_ok h0]; have q13 := qX.trans (o13.full.mono qX.size); obtain ⟨u0, u1, u2, u3, u4, u5⟩ := cL6 (K0.on q13).h; obtain ⟨f0, f1, f2, f3, f4, f5⟩ := fZ6 (K0.on q13).h) | (obtain rfl := p13' h0; have q13 := qX.trans (o13.full.mono qX.size)))
    all_goals first
     | exact ⟨rfl, .of_below (hbW.trans (q13.mono hbW.size)), fun h => absurd h h0, fun _ => rfl⟩
     | (have hb13 := hbW.trans (q13.mono hbW.size)
        obtain ⟨Z, hZ, KZ, NZ, OZ⟩ := storeV (k' := 3) (p' := (E.2.1 : Int)) (s' := s13) (A' := A13) (n' := l13.length) (c' := c13) (S' := ⟨#[]⟩) (B' := none) (m' := 0) (d' := 0) (K0.on q13)
        rw [hZ]
        exact ret_cellT rfl Tryz.underlying27 val_size rfl rfl KZ.h rfl ⟨.of_below (hb13.trans (NZ.low.mono (by omega))), fun _ => ⟨_, rfl, s13, A13, c13, l13, by rw [kd_ok h0], I13.nudge NZ⟩, fun h => absurd h0 h⟩)
theorem DParse_calls (S f b k : ByteArray) (neg : Bool) (v : Nat) (w : World) (m : Int) (hm : w.cell? ⟨1, 0, none⟩ = some (.int .i64 m)) (C : Cutted S neg f b k v) :
 Calls Tryz.prog 25 #[.string S] w (RetV (madeE (if neg = true then -(v : Int) else (v : Int)) k.size) w) := by
 have hmf := mkf
 obtain ⟨W, hW, hbW, K0, K1, hszW⟩ := box2 w #[.string S] 9 (vcells 0 0 false none 0 0 ⟨#[]⟩ none 0 0) 27
 have hv := value_calls (fun _ => False) 107 #[.pointer (some ⟨w.heap.size, 0, none⟩)] (enters_of Tryz.func107 (by kernel_rfl) rfl) (madeE (if neg = true then -(v : Int) else (v : Int)) k.size) (bare_made _ _) W (fun _ h => h.elim) (fun _ => True) (fun W' h => Calls.mono ((parse1_good S f b k neg v _ W' m (((hbW.trans (h.mono hbW.size)).cell (p := ⟨1, 0, none⟩) (World.block_lt_of_cell? w _ hm)).trans hm) (K0.on h) C)) fun _ _ h => ⟨h, trivial⟩)
 obtain ⟨x, hx⟩ : ∃ x, madeE (if neg = true then -(v : Int) else (v : Int)) k.size = x := ⟨_, rfl⟩
 rw [hx] at hv ⊢
 obtain ⟨z, p, er⟩ := x
 dsimp only at hv
 clear hx
 replace hszW := Lib.hid hszW
 go_enter Tryz.func25, Tryz.ntmps25
 go_wp2_with (go_at_call 75; refine hv.mono ?_; rintro e w5 ⟨⟨v, rfl, s5, A5, c5, l5, rfl, I5⟩, o5, -⟩; have K5 := K1.on o5.full; obtain ⟨u0, u1, u2, u3, u4, u5⟩ := cL6 K5.h; obtain ⟨f0, f1, f2, f3, f4, f5⟩ := fZ6 K5.h)
 obtain ⟨X, hX, KX, NX, OX⟩ := storeV (k' := kd (z, p, er)) (p' := (p : Int)) (s' := s5) (A' := A5) (n' := l5.length) (c' := c5) (S' := ⟨#[]⟩) (B' := none) (m' := 0) (d' := 0) K5
 rw [hX]
 have hb5 := hbW.trans (o5.full.mono hbW.size)
 exact ret_cellT_tmp rfl Tryz.underlying27 val_size rfl rfl KX.h rfl ⟨_, rfl, ⟨s5, A5, c5, l5, rfl, I5.nudge NX⟩, hb5.trans (NX.low.mono (by omega))⟩
end Dc
end Go.Proofs.YtjghnghceeijeaaGreatDoor
