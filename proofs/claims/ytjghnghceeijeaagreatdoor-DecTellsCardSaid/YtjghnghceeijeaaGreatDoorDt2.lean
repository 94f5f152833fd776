/-
  Contracts of the walks below.
-/
import Derived.Test.YtjghnghceeijeaaGreatDoorDb31
import Derived.Test.YtjghnghceeijeaaGreatDoorDt1
import Derived.Test.YtjghnghceeijeaaGreatDoorTie
import Derived.ChangeMaps5
import Derived.Test.YtjghnghceeijeaaGreatDoorCards
import Derived.SevenTiedAt
import Derived.Lay
import Derived.HandedShaped
import Derived.Shelf.Vars
set_option maxRecDepth 100000
set_option maxHeartbeats 4000000
set_option linter.unusedVariables false
set_option linter.unusedSimpArgs false
namespace Go.Proofs.YtjghnghceeijeaaGreatDoor
namespace Dc
open Go.RowKit Go.Shelf Go.BigFrame Go.Proofs.YtjghnghceeijeaaGreatDoor.Nm

end Dc
end Go.Proofs.YtjghnghceeijeaaGreatDoor
namespace Go.Proofs.YtjghnghceeijeaaGreatDoor
namespace Dc
open Go.RowKit Go.Shelf Go.BigFrame Go.Proofs.YtjghnghceeijeaaGreatDoor.Nm
attribute [local go_sem] Oper.semAt_some
def negX (a : VA) : DR := one a (-a.z, a.q, 0)
def cmpX (a b : VA) : Int × Int := if (a.ok && b.ok) = true then (cmpZ a.u b.u, 0) else (0, 2)
theorem neg1_no (a : VA) (ga : Nat) (w : World) (Ka : Blk w ga #[.int .i64 a.k, .int .i64 a.p, .bool a.s, .slice a.A a.l.length a.c, .string a.S, .slice a.B a.m a.d] 27) (ha : a.At w) (hno : a.ok = false) :
 Calls Tryz.prog 137 #[.pointer (some ⟨ga, 0, none⟩)] w (PostV (fun _ => False) (err 2) w) := by
 obtain ⟨W, hW, hbW, K0, hszW⟩ := box1 w (vcells 0 0 false none 0 0 ⟨#[]⟩ none 0 0) 27
 have hdc := decimals_c W.heap.size [a] (W.alloc (.cells #[.int .i64 a.k, .int .i64 a.p, .bool a.s, .slice a.A a.l.length a.c, .string a.S, .slice a.B a.m a.d] 27)) (by simp) (vals_one a _ _ ⟨World.alloc_heap_new W _⟩ ((ha.on hbW).on (al1 W _))) (by simp)
 rw [decE_one, if_neg (by rw [hno]; decide)] at hdc
 clear hno
 obtain ⟨x0, x1, x2, x3, x4, x5⟩ := cL6 (Ka.on hbW).h
 clear hszW
 go_enter Tryz.func137, Tryz.ntmps137
 go_wp2_with (go_at_call 77; refine hdc.mono ?_; rintro e w5 ⟨hw, b5⟩; obtain rfl := hw.2 (by decide))
 exact ⟨rfl, PostV.no rfl (by decide) (.of_below (hbW.trans (((al1 W _).trans (b5.mono (al1 W _).size)).mono hbW.size)))⟩
theorem neg1_z (n1 : Bool) (A1 : Option Addr) (c1 : Nat) (l1 : List Nat) (z1 : Int) (p : Nat) (B1 : Option Addr) (d1 ga : Nat) (w : World) (Ka : Blk w ga #[.int .i64 3, .int .i64 (p : Int), .bool n1, .slice A1 l1.length c1, .string ⟨#[]⟩, .slice B1 0 d1] 27) (I1 : IV w n1 A1 c1 l1 z1) (D1 : IsD z1 p) :
 Calls Tryz.prog 137 #[.pointer (some ⟨ga, 0, none⟩)] w (PostV (fun _ => False) (-z1, p, 0) w) := by
 obtain ⟨W, hW, hbW, K0, hszW⟩ := box1 w (vcells 0 0 false none 0 0 ⟨#[]⟩ none 0 0) 27
 have ha : (VA.mk 3 (p : Int) n1 A1 c1 l1 ⟨#[]⟩ B1 0 d1).At W := ⟨(I1.on hbW).rd, I1.cap⟩
 have hdc := decimals_c W.heap.size [(VA.mk 3 (p : Int) n1 A1 c1 l1 ⟨#[]⟩ B1 0 d1)] (W.alloc (.cells #[.int .i64 3, .int .i64 (p : Int), .bool n1, .slice A1 l1.length c1, .string ⟨#[]⟩, .slice B1 0 d1] 27)) (by simp) (vals_one (VA.mk 3 (p : Int) n1 A1 c1 l1 ⟨#[]⟩ B1 0 d1) _ _ ⟨World.alloc_heap_new W _⟩ (ha.on (al1 W _))) (by simp)
 rw [decE_one, VA.ok_made I1.isZ D1, if_pos rfl] at hdc
 have a1 := al1 W (.cells #[.int .i64 3, .int .i64 (p : Int), .bool n1, .slice A1 l1.length c1, .string ⟨#[]⟩, .slice B1 0 d1] 27)
 have J1 := I1.on hbW
 have L1 := Ka.on hbW
 have lg := blk_lt Ka
 have T1 := fun W' (h : Below W.heap.size W W') => negative_z n1 A1 c1 l1 z1 W' (J1.on h) (D1.lz.mono (by decide))
 have U1 := fun W' s A c l (I : IV W' s A c l (-z1)) => made_z s A c l (-z1) p D1.hi W' I (D1.neg.lz.mono (by decide))
 rw [madeE_id D1.neg] at U1
 obtain ⟨E, hE⟩ : ∃ E, ((-z1, p, 0) : DR) = E := ⟨_, rfl⟩
 rw [hE] at U1 ⊢
 clear hE D1 ha Ka I1
 generalize -z1 = nz at *
 obtain ⟨x0, x1, x2, x3, x4, x5⟩ := cL6 L1.h
 replace hszW := Lib.hid hszW
 go_enter Tryz.func137, Tryz.ntmps137
 go_upto_region 2 with (go_at_call 77; refine hdc.mono ?_; rintro e w5 ⟨hw, b5⟩; obtain rfl := hw.1 rfl; have q5 := a1.trans (b5.mono a1.size))
 have r0 := cell_at (L1.on q5).h 1 _ rfl
 have r1 := cell_at (L1.on q5).h 2 _ rfl
 have r2 := cell_at (L1.on q5).h 3 _ rfl
 clear x0 x1 x2 x3 x4 x5 hW hdc a1
 refine wp_region_any (by kernel_rfl) ?_
 refine pT 0 (Value.pointer (some ⟨ga, 2, none⟩)) ?_
 try simp only [Act.put, aQ, bQ, cQ]
 refine pT 3 (Value.pointer (some ⟨ga, 1, none⟩)) ?_
 try simp only [Act.put, aQ, bQ, cQ]
 refine wpAny_of_F (S := fun w'' => w''.cell? ⟨ga, 1, none⟩ = some (.int .i64 (p : Int)) ∧ w''.cell? ⟨ga, 2, none⟩ = some (.bool n1) ∧ w''.cell? ⟨ga, 3, none⟩ = some (.slice A1 l1.length c1)) (late := [6]) _ _ _ _ ?_
 refine fT 1 6 (Value.agg #[.bool n1, .slice A1 l1.length c1]) ⟨r0, r1, r2⟩ ?_
 try simp only [Act.put, aQ, bQ, cQ]
 refine fT 4 6 (Value.int .i64 (p : Int)) ⟨r0, r1, r2⟩ ?_
 try simp only [Act.put, aQ, bQ, cQ]
 refine wpAnyF_one (i := 2) (by kernel_rfl) rfl (fun K hK => ?_)
 go_simp
 go_at_call 113; refine (T1 _ (q5.trans (below_drew (Below.refl _ w5)))).mono ?_; rintro e w10 ⟨s10, A10, c10, l10, rfl, I10, b10⟩; have q10 := (q5.trans (below_drew (Below.refl _ w5))).trans (b10.mono q5.size); replace r0 := cell_at (L1.on q10).h 1 _ rfl; replace r1 := cell_at (L1.on q10).h 2 _ rfl; replace r2 := cell_at (L1.on q10).h 3 _ rfl
 go_wp2_with fail
 refine hK.out _ _ (Or.inr ⟨r0, r1, r2⟩) ?_
 clear hK K
 try simp only [Act.put, aQ, bQ, cQ]
 refine wpAnyF_one (i := 5) (by kernel_rfl) rfl (fun K hK => ?_)
 go_simp
 go_at_call 85; refine (U1 _ _ _ _ _ I10).mono ?_; rintro e w13 ⟨o13, p13, p13'⟩; have q13 := q10.trans (o13.full.mono q10.size)
 have hb13 := hbW.trans (q13.mono hbW.size)
 by_cases h0 : E.2.2 = 0
 · obtain ⟨v, rfl, s13, A13, c13, l13, rfl, I13⟩ := p13 h0
   rw [kd_ok h0]
   have K13 := K0.on q13
   replace r0 := cell_at (L1.on q13).h 1 _ rfl; replace r1 := cell_at (L1.on q13).h 2 _ rfl; replace r2 := cell_at (L1.on q13).h 3 _ rfl
   go_wp2_with fail
   refine hK.out _ _ (Or.inr ⟨r0, r1, r2⟩) ?_
   clear hK K
   try simp only [Act.put, aQ, bQ, cQ]
   obtain ⟨ka0, ka1, ka2, ka3, ka4, ka5⟩ := cL6 K13.h
   obtain ⟨kb0, kb1, kb2, kb3, kb4, kb5⟩ := fZ6 K13.h
   refine wpAnyF_one (i := 6) (by kernel_rfl) rfl (fun K hK => ?_)
   go_simp
   refine hK.out _ _ (Or.inl (by decide)) ?_
   clear hK K
   try simp only [Act.put, aQ, bQ, cQ]
   refine wpAnyF_done (by kernel_rfl) ?_ _
   obtain ⟨X, hX, KX, NX, OX⟩ := storeV (k' := 3) (p' := (E.2.1 : Int)) (s' := s13) (A' := A13) (n' := l13.length) (c' := c13) (S' := ⟨#[]⟩) (B' := none) (m' := 0) (d' := 0) K13
   rw [hX]
   go_wp2_with fail
   exact ret_cellT rfl Tryz.underlying27 val_size rfl rfl KX.h rfl ⟨.of_below (hb13.trans (NX.low.mono (by omega))), fun _ => ⟨_, rfl, s13, A13, c13, l13, by rw [kd_ok h0], I13.nudge NX⟩, fun h => absurd h0 h⟩
 · obtain rfl := p13' h0
   go_wp2_with fail
   exact ⟨rfl, .of_below hb13, fun h => absurd h h0, fun _ => rfl⟩
theorem neg1_all (a : VA) (ga : Nat) (w : World) (Ka : Blk w ga #[.int .i64 a.k, .int .i64 a.p, .bool a.s, .slice a.A a.l.length a.c, .string a.S, .slice a.B a.m a.d] 27) (ha : a.At w) :
 Calls Tryz.prog 137 #[.pointer (some ⟨ga, 0, none⟩)] w (PostV (fun _ => False) (negX a) w) := by
 unfold negX
 cases hok : a.ok
 · rw [one_no hok]
   exact neg1_no a ga w Ka ha hok
 · rw [one_ok hok]
   obtain ⟨p, s1, A1, c1, l1, B1, d1, e1, i1, D1, -, q1⟩ := VA.destruct ha.rd.words hok
   rw [q1]
   generalize a.z = za at *
   subst e1
   exact neg1_z s1 A1 c1 l1 za p B1 d1 ga w Ka ⟨ha.rd, ha.cap, i1⟩ D1
theorem DNeg_calls (a : VA) (w : World) (ha : a.At w) :
 Calls Tryz.prog 61 #[a.val] w (RetV (negX a) w) := by
 have hmf := mkf
 obtain ⟨W, hW, hbW, K0, K1, hszW⟩ := box2 w #[.int .i64 a.k, .int .i64 a.p, .bool a.s, .slice a.A a.l.length a.c, .string a.S, .slice a.B a.m a.d] 27 (vcells 0 0 false none 0 0 ⟨#[]⟩ none 0 0) 27
 have hv := value_calls (fun _ => False) 137 #[.pointer (some ⟨w.heap.size, 0, none⟩)] (enters_of Tryz.func137 (by kernel_rfl) rfl) (negX a) (bare_one (bare_ok _ _)) W (fun _ h => h.elim) (fun _ => True) (fun W' h => Calls.mono (neg1_all a _ W' (K0.on h) ((ha.on hbW).on h)) fun _ _ h => ⟨h, trivial⟩)
 obtain ⟨x, hx⟩ : ∃ x, negX a = x := ⟨_, rfl⟩
 rw [hx] at hv ⊢
 obtain ⟨z, p, er⟩ := x
 dsimp only at hv
 clear hx
 replace hszW := Lib.hid hszW
 go_enter Tryz.func61, Tryz.ntmps61
 go_wp2_with (go_at_call 75; refine hv.mono ?_; rintro e w5 ⟨⟨v, rfl, s5, A5, c5, l5, rfl, I5⟩, o5, -⟩; have K5 := K1.on o5.full; obtain ⟨u0, u1, u2, u3, u4, u5⟩ := cL6 K5.h; obtain ⟨f0, f1, f2, f3, f4, f5⟩ := fZ6 K5.h)
 obtain ⟨X, hX, KX, NX, OX⟩ := storeV (k' := kd (z, p, er)) (p' := (p : Int)) (s' := s5) (A' := A5) (n' := l5.length) (c' := c5) (S' := ⟨#[]⟩) (B' := none) (m' := 0) (d' := 0) K5
 rw [hX]
 have hb5 := hbW.trans (o5.full.mono hbW.size)
 exact ret_cellT_tmp rfl Tryz.underlying27 val_size rfl rfl KX.h rfl ⟨_, rfl, ⟨s5, A5, c5, l5, rfl, I5.nudge NX⟩, hb5.trans (NX.low.mono (by omega))⟩
theorem args_one (W : World) (n1 : Bool) (A1 : Option Addr) (c1 : Nat) (l1 : List Nat) (h1 : Rd W A1 l1) (hc1 : l1.length ≤ c1) : ArgsAt (W.alloc (.cells #[.bool n1, .slice A1 l1.length c1] 24)) W.heap.size [⟨n1, A1, c1, l1⟩] where
 neg := fun k hk => by
  obtain rfl : k = 0 := by simpa using hk
  exact cell_at (World.alloc_heap_new W _) 0 _ rfl
 abs := fun k hk => by
  obtain rfl : k = 0 := by simpa using hk
  exact cell_at (World.alloc_heap_new W _) 1 _ rfl
 rd := fun k hk => by
  obtain rfl : k = 0 := by simpa using hk
  exact ⟨h1.on (al1 W _), hc1⟩
theorem intE_one (x : IntArg) : intE [x] = if okI x.neg x.l = true then 0 else 2 := by simp [intE, IntArg.ok]
theorem make1_no (n1 : Bool) (A1 : Option Addr) (c1 : Nat) (l1 : List Nat) (k : Int) (ga gk : Nat) (w : World) (Ka : Blk w ga #[.bool n1, .slice A1 l1.length c1] 24) (Kk : Blk w gk #[.int .i64 k] 3) (h1 : Rd w A1 l1) (hc1 : l1.length ≤ c1) (hno : okI n1 l1 = false) :
 Calls Tryz.prog 135 #[.pointer (some ⟨ga, 0, none⟩), .pointer (some ⟨gk, 0, none⟩)] w (PostV (fun _ => False) (err 2) w) := by
 obtain ⟨W, hW, hbW, K0, hszW⟩ := box1 w (vcells 0 0 false none 0 0 ⟨#[]⟩ none 0 0) 27
 have hdc := integers_c W.heap.size [⟨n1, A1, c1, l1⟩] (W.alloc (.cells #[.bool n1, .slice A1 l1.length c1] 24)) (by simp) (args_one W n1 A1 c1 l1 (h1.on hbW) hc1) (by simp)
 rw [intE_one, if_neg (by rw [hno]; decide)] at hdc
 clear hno hszW
 obtain ⟨x0, x1⟩ := cL2 (Ka.on hbW).h
 go_enter Tryz.func135, Tryz.ntmps135
 go_wp2_with (go_at_call 136; refine hdc.mono ?_; rintro e w5 ⟨hw, b5⟩; obtain rfl := hw.2 (by decide))
 exact ⟨rfl, PostV.no rfl (by decide) (.of_below (hbW.trans (((al1 W _).trans (b5.mono (al1 W _).size)).mono hbW.size)))⟩
theorem make1_z (n1 : Bool) (A1 : Option Addr) (c1 : Nat) (l1 : List Nat) (k : Int) (ga gk : Nat) (w : World) (Ka : Blk w ga #[.bool n1, .slice A1 l1.length c1] 24) (Kk : Blk w gk #[.int .i64 k] 3) (h1 : Rd w A1 l1) (hc1 : l1.length ≤ c1) (hok : okI n1 l1 = true) :
 Calls Tryz.prog 135 #[.pointer (some ⟨ga, 0, none⟩), .pointer (some ⟨gk, 0, none⟩)] w (PostV (fun _ => False) (if k < 0 ∨ 20 < k then err 1 else madeE (toZ n1 l1) k.toNat) w) := by
 obtain ⟨W, hW, hbW, K0, hszW⟩ := box1 w (vcells 0 0 false none 0 0 ⟨#[]⟩ none 0 0) 27
 have hdc := integers_c W.heap.size [⟨n1, A1, c1, l1⟩] (W.alloc (.cells #[.bool n1, .slice A1 l1.length c1] 24)) (by simp) (args_one W n1 A1 c1 l1 (h1.on hbW) hc1) (by simp)
 rw [intE_one, if_pos hok] at hdc
 have k1 := okZ_of h1.words hok
 have I1 : IV W n1 A1 c1 l1 (toZ n1 l1) := ⟨h1.on hbW, hc1, k1.isZ⟩
 have f1 : Lz 300 (toZ n1 l1) := (len_le_iff I1).1 k1.small
 generalize toZ n1 l1 = z1 at *
 have a1 := al1 W (.cells #[.bool n1, .slice A1 l1.length c1] 24)
 clear k1 hok
 obtain ⟨x0, x1⟩ := cL2 (Ka.on hbW).h
 have y0 := cell_at (Kk.on hbW).h 0 _ rfl
 obtain ⟨E, hE⟩ : ∃ E, (if k < 0 ∨ 20 < k then err 1 else madeE z1 k.toNat) = E := ⟨_, rfl⟩
 rw [hE]
 replace hE := Lib.hid hE
 replace hszW := Lib.hid hszW
 by_cases hk0 : k < 0
 · have hE2 := hE.out
   rw [if_pos (.inl hk0)] at hE2
   replace hE2 := Lib.hid hE2.symm
   have kb : decide (k < 0) = true := decide_eq_true hk0
   clear hE hk0
   go_enter Tryz.func135, Tryz.ntmps135
   go_wp2_with first
    | (go_at_call 78; have hmark := b5; refine (need_no 1 (by decide) _).mono ?_; rintro e w6 ⟨rfl, rfl⟩)
    | (go_at_call 136; refine hdc.mono ?_; rintro e w5 ⟨hw, b5⟩; obtain rfl := hw.1 rfl; have q5 := a1.trans (b5.mono a1.size); have y0 := cell_at ((Kk.on hbW).on q5).h 0 _ rfl)
   exact ⟨rfl, PostV.no hE2.out (by decide) (.of_below (hbW.trans (q5.mono hbW.size)))⟩
 · have kb : decide (k < 0) = false := decide_eq_false hk0
   by_cases hk1 : 20 < k
   · have hE2 := hE.out
     rw [if_pos (.inr hk1)] at hE2
     replace hE2 := Lib.hid hE2.symm
     have kc : decide (20 < k) = true := decide_eq_true hk1
     clear hE hk0 hk1
     go_enter Tryz.func135, Tryz.ntmps135
     go_wp2_with first
      | (go_at_call 78; have hmark := b5; refine (need_no 1 (by decide) _).mono ?_; rintro e w6 ⟨rfl, rfl⟩)
      | (go_at_call 136; refine hdc.mono ?_; rintro e w5 ⟨hw, b5⟩; obtain rfl := hw.1 rfl; have q5 := a1.trans (b5.mono a1.size); have y0 := cell_at ((Kk.on hbW).on q5).h 0 _ rfl)
     exact ⟨rfl, PostV.no hE2.out (by decide) (.of_below (hbW.trans (q5.mono hbW.size)))⟩
   · have kc : decide (20 < k) = false := decide_eq_false hk1
     have hE2 := hE.out
     rw [if_neg (by omega)] at hE2
     obtain ⟨m, rfl⟩ : ∃ m : Nat, k = (m : Int) := ⟨k.toNat, by omega⟩
     rw [Int.toNat_natCast] at hE2
     have U1 := fun W' (h : Below W.heap.size W W') => made_z n1 A1 c1 l1 z1 m (by omega) W' (I1.on h) f1
     rw [hE2] at U1
     clear hE hE2 hk0 hk1 f1
     by_cases h0 : E.2.2 = 0
     all_goals
      go_enter Tryz.func135, Tryz.ntmps135
      go_wp2_with first
       | (go_at_call 85; have hmark := q5; refine (U1 _ q5).mono ?_; rintro e w9 ⟨o9, p9, p9'⟩; first | (obtain ⟨v, rfl, s9, A9, c9, l9, rfl, I9⟩ := p9 h0; rw [kd_ok h0]; have q9 := q5.trans (o9.full.mono q5.size); obtain ⟨u0, u1, u2, u3, u4, u5⟩ := cL6 (K0.on q9).h; obtain ⟨f0, f1, f2, f3, f4, f5⟩ := fZ6 (K0.on q9).h) | (obtain rfl := p9' h0; have q9 := q5.trans (o9.full.mono q5.size)))
       | (go_at_call 136; refine hdc.mono ?_; rintro e w5 ⟨hw, b5⟩; obtain rfl := hw.1 rfl; have q5 := a1.trans (b5.mono a1.size); have y0 := cell_at ((Kk.on hbW).on q5).h 0 _ rfl; obtain ⟨x0, x1⟩ := cL2 ((Ka.on hbW).on q5).h)
     · have hb9 := hbW.trans (q9.mono hbW.size)
       obtain ⟨X, hX, KX, NX, OX⟩ := storeV (k' := 3) (p' := (E.2.1 : Int)) (s' := s9) (A' := A9) (n' := l9.length) (c' := c9) (S' := ⟨#[]⟩) (B' := none) (m' := 0) (d' := 0) (K0.on q9)
       rw [hX]
       exact ret_cellT rfl Tryz.underlying27 val_size rfl rfl KX.h rfl ⟨.of_below (hb9.trans (NX.low.mono (by omega))), fun _ => ⟨_, rfl, s9, A9, c9, l9, by rw [kd_ok h0], I9.nudge NX⟩, fun h => absurd h0 h⟩
     · exact ⟨rfl, .of_below (hbW.trans (q9.mono hbW.size)), fun h => absurd h h0, fun _ => rfl⟩
theorem make1_all (n1 : Bool) (A1 : Option Addr) (c1 : Nat) (l1 : List Nat) (k : Int) (ga gk : Nat) (w : World) (Ka : Blk w ga #[.bool n1, .slice A1 l1.length c1] 24) (Kk : Blk w gk #[.int .i64 k] 3) (h1 : Rd w A1 l1) (hc1 : l1.length ≤ c1) :
 Calls Tryz.prog 135 #[.pointer (some ⟨ga, 0, none⟩), .pointer (some ⟨gk, 0, none⟩)] w (PostV (fun _ => False) (makeX n1 l1 k) w) := by
 unfold makeX
 cases hok : okI n1 l1
 · rw [if_neg (by decide)]
   exact make1_no n1 A1 c1 l1 k ga gk w Ka Kk h1 hc1 hok
 · rw [if_pos rfl]
   exact make1_z n1 A1 c1 l1 k ga gk w Ka Kk h1 hc1 hok
theorem DMake_calls (n1 : Bool) (A1 : Option Addr) (c1 : Nat) (l1 : List Nat) (k : Int) (w : World) (h1 : Rd w A1 l1) (hc1 : l1.length ≤ c1) :
 Calls Tryz.prog 60 #[iv n1 A1 l1.length c1, .int .i64 k] w (RetV (makeX n1 l1 k) w) := by
 have hmf := mkf
 obtain ⟨W, hW, hbW, K0, K1, K2, hszW⟩ := box3 w #[.bool n1, .slice A1 l1.length c1] 24 #[.int .i64 k] 3 (vcells 0 0 false none 0 0 ⟨#[]⟩ none 0 0) 27
 have hv := value_calls (fun _ => False) 135 #[.pointer (some ⟨w.heap.size, 0, none⟩), .pointer (some ⟨w.heap.size + 1, 0, none⟩)] (enters_of Tryz.func135 (by kernel_rfl) rfl) (makeX n1 l1 k) (bare_if (bare_if (bare_err 1) (bare_made _ _)) (bare_err 2)) W (fun _ h => h.elim) (fun _ => True) (fun W' h => Calls.mono (make1_all n1 A1 c1 l1 k _ _ W' (K0.on h) (K1.on h) ((h1.on hbW).on h) hc1) fun _ _ h => ⟨h, trivial⟩)
 obtain ⟨x, hx⟩ : ∃ x, makeX n1 l1 k = x := ⟨_, rfl⟩
 rw [hx] at hv ⊢
 obtain ⟨z, p, er⟩ := x
 dsimp only at hv
 clear hx
 replace hszW := Lib.hid hszW
 go_enter Tryz.func60, Tryz.ntmps60
 go_wp2_with (go_at_call 75; refine hv.mono ?_; rintro e w5 ⟨⟨v, rfl, s5, A5, c5, l5, rfl, I5⟩, o5, -⟩; have K5 := K2.on o5.full; obtain ⟨u0, u1, u2, u3, u4, u5⟩ := cL6 K5.h; obtain ⟨f0, f1, f2, f3, f4, f5⟩ := fZ6 K5.h)
 obtain ⟨X, hX, KX, NX, OX⟩ := storeV (k' := kd (z, p, er)) (p' := (p : Int)) (s' := s5) (A' := A5) (n' := l5.length) (c' := c5) (S' := ⟨#[]⟩) (B' := none) (m' := 0) (d' := 0) K5
 rw [hX]
 have hb5 := hbW.trans (o5.full.mono hbW.size)
 exact ret_cellT_tmp rfl Tryz.underlying27 val_size rfl rfl KX.h rfl ⟨_, rfl, ⟨s5, A5, c5, l5, rfl, I5.nudge NX⟩, hb5.trans (NX.low.mono (by omega))⟩
theorem rminus_i (n1 : Bool) (A1 : Option Addr) (c1 : Nat) (l1 : List Nat) (z1 : Int) (w : World) (I1 : IV w n1 A1 c1 l1 z1) : Calls Tryz.prog 37 #[iv n1 A1 l1.length c1] w (RetI (-z1) w) := (Minus_calls n1 A1 c1 l1 z1 w I1.rd I1.cap I1.isZ).mono fun _ _ h => .of h
theorem rcmp_i (n1 n2 : Bool) (A1 A2 : Option Addr) (c1 c2 : Nat) (l1 l2 : List Nat) (z1 z2 : Int) (w : World) (I1 : IV w n1 A1 c1 l1 z1) (I2 : IV w n2 A2 c2 l2 z2) : Calls Tryz.prog 47 #[iv n1 A1 l1.length c1, iv n2 A2 l2.length c2] w fun e w' => e = .returned (.int .i64 (cmpZ z1 z2)) ∧ Below w.heap.size w w' := RCompare_calls n1 n2 A1 A2 c1 c2 l1 l2 z1 z2 w I1.rd I2.rd I1.cap I2.cap I1.isZ I2.isZ
theorem set2_ne {W : World} {a i g : Nat} {x0 x1 : Value} {v : Value} (h : W.cell? ⟨a, i, none⟩ = some v) (hne : a ≠ g) : ((W.setCell ⟨g, 0, none⟩ x0).setCell ⟨g, 1, none⟩ x1).cell? ⟨a, i, none⟩ = some v := cell_set_ne (cell_set_ne h hne) hne
theorem set7_ne {W : World} {a i g : Nat} {x0 x1 x2 x3 x4 x5 x6 : Value} {v : Value} (h : W.cell? ⟨a, i, none⟩ = some v) (hne : a ≠ g) : (((((((W.setCell ⟨g, 0, none⟩ x0).setCell ⟨g, 1, none⟩ x1).setCell ⟨g, 2, none⟩ x2).setCell ⟨g, 3, none⟩ x3).setCell ⟨g, 4, none⟩ x4).setCell ⟨g, 5, none⟩ x5).setCell ⟨g, 6, none⟩ x6).cell? ⟨a, i, none⟩ = some v := cell_set_ne (cell_set_ne (cell_set_ne (cell_set_ne (cell_set_ne (cell_set_ne (cell_set_ne h hne) hne) hne) hne) hne) hne) hne
abbrev VK (w : World) (g : Nat) (k p : Int) (s : Bool) (A : Option Addr) (n c : Nat) (S : ByteArray) (B : Option Addr) (m d : Nat) : Prop :=
 w.cell? ⟨g, 0, none⟩ = some (.int .i64 k) ∧ w.cell? ⟨g, 1, none⟩ = some (.int .i64 p) ∧ w.cell? ⟨g, 2, none⟩ = some (.bool s) ∧ w.cell? ⟨g, 3, none⟩ = some (.slice A n c) ∧ w.cell? ⟨g, 4, none⟩ = some (.string S) ∧ w.cell? ⟨g, 5, none⟩ = some (.slice B m d)
theorem vk_of {W W' : World} {g : Nat} {k p : Int} {s : Bool} {A : Option Addr} {n c : Nat} {S : ByteArray} {B : Option Addr} {m d : Nat} {t : TypeId} (h : Blk W g #[.int .i64 k, .int .i64 p, .bool s, .slice A n c, .string S, .slice B m d] t) (hb : Below W.heap.size W W') : VK W' g k p s A n c S B m d :=
 cL6 (h.on hb).h
end Dc
end Go.Proofs.YtjghnghceeijeaaGreatDoor
namespace Go.Proofs.YtjghnghceeijeaaGreatDoor
namespace Dc
open Go.ChangeShapes Go.WideShapes Go.ChangeAt Go.WideMaps Go.WideElems Go.RowKit Go.Shelf Go.Proofs.YtjghnghceeijeaaGreatDoor.Nm
theorem laidOut : laidOutB Tryz.prog = true := by kernel_rfl
theorem gDigits : Tryz.prog.globalNamed "zermelo/num.digits" = some 0 := by kernel_rfl
theorem tDigits : (Tryz.prog.globals[0]?).map (·.type) = some 168 := by kernel_rfl
theorem uDigits : Tryz.prog.underlying 168 = some (.array 36 5) := by kernel_rfl
theorem uByte : Tryz.prog.underlying 5 = some (.int .u8) := by kernel_rfl
def tabZ : List Int := [48, 49, 50, 51, 52, 53, 54, 55, 56, 57, 97, 98, 99, 100, 101, 102, 103, 104, 105, 106, 107, 108, 109, 110, 111, 112, 113, 114, 115, 116, 117, 118, 119, 120, 121, 122]
abbrev laidZ : List (String × DataW Unit) := [("unicode/utf8.acceptRanges", Rows.laid_unicode_utf8_acceptRanges), ("zermelo/num.digits", Rows.laid_zermelo_num_digits), ("unicode/utf8.first", Rows.laid_unicode_utf8_first)]
theorem tab_second {P : Program} {W : World} {x : String × DataW Unit} {name : String} {k : IntKind} {zs : List Int} {rest : List (String × DataW Unit)} {g : Nat} {t e : TypeId} {n : Nat}
 (hg : P.globalNamed name = some g) (hty : (P.globals[g]?).map (·.type) = some t) (ht : P.underlying t = some (.array n e)) (he : P.underlying e = some (.int k)) (hce : P.cellsOf e = 1) (hct : P.cellsOf t = n)
 (h : laidMet P (x :: (name, Lib.tabData k zs) :: rest) W) : Lib.TabIs P W name k zs := by
 obtain ⟨ps, ⟨_, _, _, _, _, _, _, _, _, _, ⟨g', t', cs, fuel, p, q, hg', ht', hvar, hd, _, _⟩, _⟩, _⟩ := h
 obtain rfl := Option.some.inj (hg.symm.trans hg')
 obtain rfl := Option.some.inj (hty.symm.trans ht')
 unfold Lib.TabIs
 rw [hvar, ← Lib.cells_of_tab ht he hce hct hd]
theorem dig_of_laidZ {W : World} (h : laidMetH Tryz.prog laidZ W) : DigW W := by
 rw [MakeChecks.laidMetH_plain _ _ _ (by kernel_rfl), show laidZ = ("unicode/utf8.acceptRanges", Rows.laid_unicode_utf8_acceptRanges) :: ("zermelo/num.digits", Lib.tabData .u8 tabZ) :: [("unicode/utf8.first", Rows.laid_unicode_utf8_first)] from rfl] at h
 have hT := tab_second gDigits tDigits uDigits uByte (by kernel_rfl) (by kernel_rfl) h
 intro i hi
 have hc := hT.cell gDigits i hi
 have e : ∀ i : Fin 36, tabZ.getD i.val 0 = ((chr i.val : Nat) : Int) := by decide
 rw [hc, e ⟨i, hi⟩]
end Dc
end Go.Proofs.YtjghnghceeijeaaGreatDoor
namespace Go.Proofs.YtjghnghceeijeaaGreatDoor
namespace Dc
open Go.RowKit Go.Shelf Go.BigFrame Go.Proofs.YtjghnghceeijeaaGreatDoor.Nm
attribute [local go_sem] Oper.semAt_some
theorem scaled_i (n1 : Bool) (A1 : Option Addr) (c1 : Nat) (l1 : List Nat) (z1 : Int) (p : Nat) (hp : p ≤ 20) (B1 : Option Addr) (d1 : Nat) (w : World) (I1 : IV w n1 A1 c1 l1 z1) {k : Nat} (f1 : Lz k z1) (hk : k ≤ 2000) :
 Calls Tryz.prog 121 #[(vv 3 (p : Int) n1 A1 l1.length c1 ⟨#[]⟩ B1 0 d1)] w (RetI (unitsZ z1 p) w) := by
 obtain ⟨W, hW, hbW, K0, K1, hszW⟩ := box2 w #[.int .i64 3, .int .i64 (p : Int), .bool n1, .slice A1 l1.length c1, .string ⟨#[]⟩, .slice B1 0 d1] 27 #[.bool false, .slice none 0 0] 24
 have J1 := I1.on hbW
 have hx : IntKind.i64.wrap (20 - (p : Int)) = ((20 - p : Nat) : Int) := by rw [IntKind.wrap_i64]; omega
 have hT : ∀ W' (x : Int), x = ((20 - p : Nat) : Int) → Calls Tryz.prog 35 #[.int .i64 x] W' (RetI (10 ^ (20 - p)) W') := fun W' x hx => by rw [hx]; exact Ten_i (20 - p) (by omega) W'
 have ft : Lz 3 ((10 : Int) ^ (20 - p)) := lz_ten (20 - p) (by omega)
 have hM := fun W' (h : Below W.heap.size W W') s A c l (I : IV W' s A c l (10 ^ (20 - p))) => rtimes_i n1 s A1 A c1 c l1 l z1 (10 ^ (20 - p)) W' (J1.on h) I f1 ft (by omega) (by decide)
 unfold unitsZ
 generalize (10 : Int) ^ (20 - p) = t at *
 obtain ⟨q, hq⟩ : ∃ q, 20 - p = q := ⟨_, rfl⟩
 rw [hq] at hx hT
 generalize z1 * t = m at *
 clear hq ft f1 hk I1 J1
 replace hszW := Lib.hid hszW
 go_enter Tryz.func121, Tryz.ntmps121
 go_upto_region 1 with fail
 have x1 : W.cell? ⟨w.heap.size, 1, none⟩ = some (.int .i64 (p : Int)) := cell_at K0.h 1 _ rfl
 have x2 : W.cell? ⟨w.heap.size, 2, none⟩ = some (.bool n1) := cell_at K0.h 2 _ rfl
 have x3 : W.cell? ⟨w.heap.size, 3, none⟩ = some (.slice A1 l1.length c1) := cell_at K0.h 3 _ rfl
 have hne0 : w.heap.size ≠ w.heap.size + 1 := by omega
 go_region_held3 (fun w'' => w''.cell? ⟨w.heap.size, 1, none⟩ = some (.int .i64 (p : Int)) ∧ w''.cell? ⟨w.heap.size, 2, none⟩ = some (.bool n1) ∧ w''.cell? ⟨w.heap.size, 3, none⟩ = some (.slice A1 l1.length c1)) ((first | (with_reducible exact ⟨x1, x2, x3⟩) | (with_reducible exact rd5 ⟨x1, x2, x3⟩) | (with_reducible exact ⟨set2_ne x1 hne0, set2_ne x2 hne0, set2_ne x3 hne0⟩)))
  ((first
   | (go_at_call 34; have hmark := q5; refine (hM _ q5 _ _ _ _ I5).mono ?_; rintro e w6 ⟨s6, A6, c6, l6, rfl, I6, b6⟩; have q6 := q5.trans (b6.mono q5.size); clear x1 x2 x3; have x1 : w6.cell? ⟨w.heap.size, 1, none⟩ = some (.int .i64 (p : Int)) := cell_at (K0.on q6).h 1 _ rfl; have x2 : w6.cell? ⟨w.heap.size, 2, none⟩ = some (.bool n1) := cell_at (K0.on q6).h 2 _ rfl; have x3 : w6.cell? ⟨w.heap.size, 3, none⟩ = some (.slice A1 l1.length c1) := cell_at (K0.on q6).h 3 _ rfl; obtain ⟨u0, u1⟩ := cL2 (K1.on q6).h; obtain ⟨g0, g1⟩ := fZ2 (K1.on q6).h)
   | (go_at_call 35; refine (hT _ _ rfl).mono ?_; rintro e w5 ⟨s5, A5, c5, l5, rfl, I5, b5⟩; have q5 := (below_drew (Below.refl W.heap.size W)).trans b5; clear x1 x2 x3; have x1 : w5.cell? ⟨w.heap.size, 1, none⟩ = some (.int .i64 (p : Int)) := cell_at (K0.on q5).h 1 _ rfl; have x2 : w5.cell? ⟨w.heap.size, 2, none⟩ = some (.bool n1) := cell_at (K0.on q5).h 2 _ rfl; have x3 : w5.cell? ⟨w.heap.size, 3, none⟩ = some (.slice A1 l1.length c1) := cell_at (K0.on q5).h 3 _ rfl)))
 go_wp2_with fail
 have hb6 := hbW.trans (q6.mono hbW.size)
 exact ret_cell rfl rfl rfl (set_blk (set_blk (K1.on q6).h 0 _) 1 _) (retI_end I6 (K1.on q6) hb6 (by omega))
theorem vk_drew {W : World} {a : Nat} {k p : Int} {s : Bool} {A : Option Addr} {n c : Nat} {S : ByteArray} {B : Option Addr} {m d : Nat} (h : VK W a k p s A n c S B m d) : VK W.drew a k p s A n c S B m d := h
abbrev NK (w : World) (g : Nat) (s : Bool) (A : Option Addr) (n c : Nat) : Prop := w.cell? ⟨g, 0, none⟩ = some (.bool s) ∧ w.cell? ⟨g, 1, none⟩ = some (.slice A n c)
theorem nk_of {W W' : World} {g : Nat} {s : Bool} {A : Option Addr} {n c : Nat} {t : TypeId} (h : Blk W g #[.bool s, .slice A n c] t) (hb : Below W.heap.size W W') : NK W' g s A n c := ⟨cell_at (h.on hb).h 0 _ rfl, cell_at (h.on hb).h 1 _ rfl⟩
theorem nk_drew {W : World} {g : Nat} {s : Bool} {A : Option Addr} {n c : Nat} (h : NK W g s A n c) : NK W.drew g s A n c := h
theorem RNeg_no (a : VA) (w : World) (ha : a.At w) (hno : a.ok = false) :
 Calls Tryz.prog 63 #[a.val] w (RetG (err 2) w) := by
 obtain ⟨W, hW, hbW, K0, K1, hszW⟩ := box2 w #[.int .i64 a.k, .int .i64 a.p, .bool a.s, .slice a.A a.l.length a.c, .string a.S, .slice a.B a.m a.d] 27 #[.int .i64 0, .int .i64 0, .bool false, .slice none 0 0, .string ⟨#[]⟩, .slice none 0 0, .int .i64 0] 36
 obtain ⟨x0, x1, x2, x3, x4, x5⟩ := cL6 K0.h
 obtain ⟨e0, e1, e2, e3, e4, e5, e6⟩ := cL7 K1.h
 obtain ⟨f0, f1, f2, f3, f4, f5, f6⟩ := fZ7 K1.h
 have his := is_c a W (ha.on hbW)
 rw [hno] at his
 clear hno
 go_enter Tryz.func63, Tryz.ntmps63
 go_wp2_with (go_at_call 31; refine his.mono ?_; rintro e w5 ⟨rfl, b5⟩; clear x0 x1 x2 x3 x4 x5 e0 e1 e2 e3 e4 e5 e6 f0 f1 f2 f3 f4 f5 f6; obtain ⟨x0, x1, x2, x3, x4, x5⟩ := cL6 (K0.on b5).h; obtain ⟨e0, e1, e2, e3, e4, e5, e6⟩ := cL7 (K1.on b5).h; obtain ⟨f0, f1, f2, f3, f4, f5, f6⟩ := fZ7 (K1.on b5).h)
 have hb8 := hbW.trans (b5.mono hbW.size)
 obtain ⟨X, hX, KX, NX, OX⟩ := storeG (k' := 0) (p' := 0) (s' := false) (A' := none) (n' := 0) (c' := 0) (S' := ⟨#[]⟩) (B' := none) (m' := 0) (d' := 0) (e' := 2) (K1.on b5)
 rw [hX]
 exact ret_cellT rfl Tryz.underlying36 rgot_size rfl rfl KX.h rfl (retG_err 2 (by decide) ((hb8).trans (NX.low.mono (by omega))))
theorem RNeg_z (n1 : Bool) (A1 : Option Addr) (c1 : Nat) (l1 : List Nat) (z1 : Int) (p : Nat) (B1 : Option Addr) (d1 : Nat) (w : World) (I1 : IV w n1 A1 c1 l1 z1) (D1 : IsD z1 p) :
 Calls Tryz.prog 63 #[(vv 3 (p : Int) n1 A1 l1.length c1 ⟨#[]⟩ B1 0 d1)] w (RetG (-z1, p, 0) w) := by
 obtain ⟨W, hW, hbW, K0, K1, hszW⟩ := box2 w #[.int .i64 3, .int .i64 (p : Int), .bool n1, .slice A1 l1.length c1, .string ⟨#[]⟩, .slice B1 0 d1] 27 #[.int .i64 0, .int .i64 0, .bool false, .slice none 0 0, .string ⟨#[]⟩, .slice none 0 0, .int .i64 0] 36
 obtain ⟨x0, x1, x2, x3, x4, x5⟩ := cL6 K0.h
 obtain ⟨e0, e1, e2, e3, e4, e5, e6⟩ := cL7 K1.h
 obtain ⟨f0, f1, f2, f3, f4, f5, f6⟩ := fZ7 K1.h
 have J1 := I1.on hbW
 have his : Calls Tryz.prog 31 #[(vv 3 (p : Int) n1 A1 l1.length c1 ⟨#[]⟩ B1 0 d1)] W (fun e w' => e = .returned (.bool true) ∧ Below W.heap.size W w') := by
  have := is_c (VA.mk 3 (p : Int) n1 A1 c1 l1 ⟨#[]⟩ B1 0 d1) W ⟨J1.rd, J1.cap⟩
  rwa [VA.ok_made I1.isZ D1] at this
 have hM := fun W' (h : Below W.heap.size W W') => rminus_i n1 A1 c1 l1 z1 W' (J1.on h)
 clear D1 I1
 generalize -z1 = m at *
 replace hszW := Lib.hid hszW
 go_enter Tryz.func63, Tryz.ntmps63
 go_upto_region 3 with (go_at_call 31; refine his.mono ?_; rintro e w5 ⟨rfl, b5⟩; clear x0 x1 x2 x3 x4 x5 e0 e1 e2 e3 e4 e5 e6 f0 f1 f2 f3 f4 f5 f6; obtain ⟨x0, x1, x2, x3, x4, x5⟩ := cL6 (K0.on b5).h; obtain ⟨e0, e1, e2, e3, e4, e5, e6⟩ := cL7 (K1.on b5).h; obtain ⟨f0, f1, f2, f3, f4, f5, f6⟩ := fZ7 (K1.on b5).h)
 have hb5 := hbW.trans (b5.mono hbW.size)
 have M5 := fun W' (h : Below w5.heap.size w5 W') => hM W' (b5.trans (h.mono b5.size))
 replace K0 := K0.on b5
 replace K1 := K1.on b5
 clear hM his J1 hW
 clear x0 x1 x2 x3 x4 x5 e0 e1 e2 e3 e4 e5 e6 f0 f1 f2 f3 f4 f5 f6
 have x1 : w5.cell? ⟨w.heap.size, 1, none⟩ = some (.int .i64 (p : Int)) := cell_at K0.h 1 _ rfl
 have x2 : w5.cell? ⟨w.heap.size, 2, none⟩ = some (.bool n1) := cell_at K0.h 2 _ rfl
 have x3 : w5.cell? ⟨w.heap.size, 3, none⟩ = some (.slice A1 l1.length c1) := cell_at K0.h 3 _ rfl
 have hne0 : w.heap.size ≠ w.heap.size + 1 := by omega
 go_region_held3 (fun w'' => w''.cell? ⟨w.heap.size, 1, none⟩ = some (.int .i64 (p : Int)) ∧ w''.cell? ⟨w.heap.size, 2, none⟩ = some (.bool n1) ∧ w''.cell? ⟨w.heap.size, 3, none⟩ = some (.slice A1 l1.length c1)) ((first | (with_reducible exact ⟨x1, x2, x3⟩) | (with_reducible exact rd5 ⟨x1, x2, x3⟩) | (with_reducible exact ⟨set7_ne x1 hne0, set7_ne x2 hne0, set7_ne x3 hne0⟩)))
  ((first
   | (go_at_call 37; refine (M5 _ (below_drew (Below.refl w5.heap.size w5))).mono ?_; rintro e w6 ⟨s6, A6, c6, l6, rfl, I6, b6⟩; have q6 := (below_drew (Below.refl w5.heap.size w5)).trans b6; clear x1 x2 x3; have x1 : w6.cell? ⟨w.heap.size, 1, none⟩ = some (.int .i64 (p : Int)) := cell_at (K0.on q6).h 1 _ rfl; have x2 : w6.cell? ⟨w.heap.size, 2, none⟩ = some (.bool n1) := cell_at (K0.on q6).h 2 _ rfl; have x3 : w6.cell? ⟨w.heap.size, 3, none⟩ = some (.slice A1 l1.length c1) := cell_at (K0.on q6).h 3 _ rfl; obtain ⟨e0, e1, e2, e3, e4, e5, e6⟩ := cL7 (K1.on q6).h; obtain ⟨f0, f1, f2, f3, f4, f5, f6⟩ := fZ7 (K1.on q6).h)))
 go_wp2_with fail
 have hb8 := hb5.trans (q6.mono hb5.size)
 obtain ⟨X, hX, KX, NX, OX⟩ := storeG (k' := 3) (p' := (p : Int)) (s' := s6) (A' := A6) (n' := l6.length) (c' := c6) (S' := ⟨#[]⟩) (B' := none) (m' := 0) (d' := 0) (e' := 0) (K1.on q6)
 rw [hX]
 exact ret_cellT rfl Tryz.underlying36 rgot_size rfl rfl KX.h rfl ⟨s6, A6, c6, l6, none, 0, rfl, I6.nudge NX, hb8.trans (NX.low.mono (by omega))⟩
theorem RNeg_calls (a : VA) (w : World) (ha : a.At w) : Calls Tryz.prog 63 #[a.val] w (RetG (negX a) w) := by
 unfold negX
 cases hok : a.ok
 · rw [one_no hok]
   exact RNeg_no a w ha hok
 · rw [one_ok hok]
   obtain ⟨p, s1, A1, c1, l1, B1, d1, e1, i1, D1, u1, q1⟩ := VA.destruct ha.rd.words hok
   rw [q1]
   generalize a.z = za at *
   subst e1
   exact RNeg_z s1 A1 c1 l1 za p B1 d1 w ⟨ha.rd, ha.cap, i1⟩ D1
theorem RCompare_z (n1 n2 : Bool) (A1 A2 : Option Addr) (c1 c2 : Nat) (l1 l2 : List Nat) (z1 z2 : Int) (p q : Nat) (B1 B2 : Option Addr) (d1 d2 : Nat) (w : World) (I1 : IV w n1 A1 c1 l1 z1) (I2 : IV w n2 A2 c2 l2 z2) (D1 : IsD z1 p) (D2 : IsD z2 q) :
 Calls Tryz.prog 64 #[(vv 3 (p : Int) n1 A1 l1.length c1 ⟨#[]⟩ B1 0 d1), (vv 3 (q : Int) n2 A2 l2.length c2 ⟨#[]⟩ B2 0 d2)] w fun e w' => e = .returned (.int .i64 (cmpZ (unitsZ z1 p) (unitsZ z2 q))) ∧ Below w.heap.size w w' := by
 obtain ⟨W, hW, hbW, K0, K1, hszW⟩ := box2 w #[.int .i64 3, .int .i64 (p : Int), .bool n1, .slice A1 l1.length c1, .string ⟨#[]⟩, .slice B1 0 d1] 27 #[.int .i64 3, .int .i64 (q : Int), .bool n2, .slice A2 l2.length c2, .string ⟨#[]⟩, .slice B2 0 d2] 27
 have J1 := I1.on hbW
 have J2 := I2.on hbW
 have f1 := D1.lz
 have f2 := D2.lz
 have hp := D1.hi
 have hq := D2.hi
 have hs1 := fun W' (h : Below W.heap.size W W') => scaled_i n1 A1 c1 l1 z1 p hp B1 d1 W' (J1.on h) f1 (by decide)
 have hs2 := fun W' (h : Below W.heap.size W W') => scaled_i n2 A2 c2 l2 z2 q hq B2 d2 W' (J2.on h) f2 (by decide)
 generalize unitsZ z1 p = v1 at *
 generalize unitsZ z2 q = v2 at *
 have hC := fun W' s A c l s' A' c' l' (I : IV W' s A c l v1) (I' : IV W' s' A' c' l' v2) => rcmp_i s s' A A' c c' l l' v1 v2 W' I I'
 generalize cmpZ v1 v2 = cc at *
 clear I1 I2 D1 D2 f1 f2 hp hq J1 J2
 have lw := hszW
 replace hszW := Lib.hid hszW
 go_enter Tryz.func64, Tryz.ntmps64
 go_upto_region 1 with fail
 have HS : ∀ W', Below W.heap.size W W' → (fun w'' => VK w'' w.heap.size 3 (p : Int) n1 A1 l1.length c1 ⟨#[]⟩ B1 0 d1 ∧ VK w'' (w.heap.size + 1) 3 (q : Int) n2 A2 l2.length c2 ⟨#[]⟩ B2 0 d2) W' := fun W' h => ⟨vk_of K0 h, vk_of K1 h⟩
 have H0 := HS _ (Below.refl _ _)
 replace HS := Lib.hid HS
 try dsimp only at H0
 clear lw
 go_region_held3 (fun w'' => VK w'' w.heap.size 3 (p : Int) n1 A1 l1.length c1 ⟨#[]⟩ B1 0 d1 ∧ VK w'' (w.heap.size + 1) 3 (q : Int) n2 A2 l2.length c2 ⟨#[]⟩ B2 0 d2) ((first | (with_reducible exact H0) | (with_reducible exact ⟨vk_drew H0.1, vk_drew H0.2⟩)))
  ((first
   | (go_at_call 47; have hmark := q8; refine (hC _ _ _ _ _ _ _ _ _ (I7.on b8) I8).mono ?_; rintro e w9 ⟨rfl, b9⟩; have q9 := q8.trans (b9.mono q8.size); clear H0; have H0 := HS.out _ q9; (try dsimp only at H0))
   | (go_at_call 121; have hmark := q7; refine (hs2 _ q7).mono ?_; rintro e w8 ⟨s8, A8, c8, l8, rfl, I8, b8⟩; have q8 := q7.trans (b8.mono q7.size); clear H0; have H0 := HS.out _ q8; (try dsimp only at H0))
   | (go_at_call 121; refine (hs1 _ (below_drew (Below.refl W.heap.size W))).mono ?_; rintro e w7 ⟨s7, A7, c7, l7, rfl, I7, b7⟩; have q7 := (below_drew (Below.refl W.heap.size W)).trans (b7.mono (below_drew (Below.refl W.heap.size W)).size); clear H0; have H0 := HS.out _ q7; (try dsimp only at H0))))
 go_wp2_with fail
 go_ret
 exact ⟨rfl, hbW.trans (q9.mono hbW.size)⟩
theorem RCompare_calls (a b : VA) (w : World) (ha : a.At w) (hb : b.At w) (h1 : a.ok = true) (h2 : b.ok = true) : Calls Tryz.prog 64 #[a.val, b.val] w fun e w' => e = .returned (.int .i64 (cmpZ a.u b.u)) ∧ Below w.heap.size w w' := by
 obtain ⟨p, s1, A1, c1, l1, B1, d1, e1, i1, D1, -, q1⟩ := VA.destruct ha.rd.words h1
 obtain ⟨q, s2, A2, c2, l2, B2, d2, e2, i2, D2, -, q2⟩ := VA.destruct hb.rd.words h2
 unfold VA.u
 rw [q1, q2]
 generalize a.z = za at *
 generalize b.z = zb at *
 subst e1 e2
 exact RCompare_z s1 s2 A1 A2 c1 c2 l1 l2 za zb p q B1 B2 d1 d2 w ⟨ha.rd, ha.cap, i1⟩ ⟨hb.rd, hb.cap, i2⟩ D1 D2
theorem few_c (m : Nat) (g : Nat) (xs : List IntArg) (w : World) (hx : ArgsAt w g xs) (hn : xs.length ≤ 8) :
 Calls Tryz.prog 58 #[.int .i64 (m : Int), .slice (some ⟨g, 0, none⟩) xs.length xs.length] w fun e w' => e = .returned (.bool (xs.all fun x => decide (x.l.length ≤ m))) ∧ w = w' := by
 go_enter Tryz.func58, Tryz.ntmps58
 go_wp2_with fail
 go_loop [5] (fun i => ∃ k : Nat, i = .int .i64 (k : Int) ∧ k ≤ xs.length ∧ Hid ((xs.take k).all (fun x => decide (x.l.length ≤ m)) = true)) (fun i => xs.length - (intOf i).toNat)
 case atStart => exact ⟨0, rfl, Nat.zero_le _, rfl⟩
 case round =>
  obtain ⟨k, rfl, hk, hall⟩ := hrel
  by_cases hlt : k < xs.length
  · have x1 := hx.abs k hlt
    obtain ⟨x, hxk⟩ : ∃ x, xs[k] = x := ⟨_, rfl⟩
    rw [hxk] at x1
    have hs := (hx.rd k hlt).1.small
    rw [hxk] at hs
    have Hxk := Lib.hid hxk
    clear hxk
    by_cases hok : x.l.length ≤ m
    · have hn1 : ¬ (m : Int) < (x.l.length : Int) := by omega
      go_wp2_with fail
      go_round
      case rel =>
       refine ⟨k + 1, by simp, by omega, ?_⟩
       show (xs.take (k + 1)).all _ = true
       rw [List.take_succ_eq_append_getElem hlt, List.all_append, hall.out, Hxk.out]
       simp [hok]
      case measure => simp only [intOf]; omega
    · have hn1 : (m : Int) < (x.l.length : Int) := by omega
      go_wp2_with fail
      go_ret
      refine ⟨?_, rfl⟩
      have : (xs.all fun x => decide (x.l.length ≤ m)) = false := by
       rw [List.all_eq_false]
       exact ⟨xs[k], List.getElem_mem hlt, by rw [Hxk.out]; simpa using hok⟩
      rw [this]; rfl
  · go_wp2_with fail
    go_ret
    have h := hall.out
    rw [List.take_of_length_le (by omega)] at h
    rw [h]
    exact ⟨rfl, rfl⟩
end Dc
end Go.Proofs.YtjghnghceeijeaaGreatDoor
