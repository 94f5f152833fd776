/-
  Contracts of the walks below.
-/
import Derived.Test.YtjghnghceeijeaaGreatDoorDb32
import Derived.Test.YtjghnghceeijeaaGreatDoorDn3
set_option maxRecDepth 100000
set_option maxHeartbeats 4000000
set_option linter.unusedVariables false
set_option linter.unusedSimpArgs false
namespace Go.Proofs.YtjghnghceeijeaaGreatDoor
namespace Dc
open Go.RowKit Go.Shelf Go.BigFrame Go.Proofs.YtjghnghceeijeaaGreatDoor.Nm
attribute [local go_sem] Oper.semAt_some
theorem xdiv {n1 n2 : Bool} {A1 A2 : Option Addr} {c1 c2 : Nat} {l1 l2 : List Nat} {z1 z2 : Int} {p q : Nat} {B1 B2 : Option Addr} {d1 d2 : Nat} {w : World} (I1 : IV w n1 A1 c1 l1 z1) (I2 : IV w n2 A2 c2 l2 z2) (D1 : IsD z1 p) (D2 : IsD z2 q) {u : Int} {t : Nat} {e k : Int} (hE : (if z2 = 0 then err 20 else stripE (nearZ (unitsZ z1 p * 10 ^ 20) (unitsZ z2 q))) = (u, t, e)) (hk : kd (u, t, e) = k) :
 Calls Tryz.prog 36 #[(vv 3 (p : Int) n1 A1 l1.length c1 ⟨#[]⟩ B1 0 d1), (vv 3 (q : Int) n2 A2 l2.length c2 ⟨#[]⟩ B2 0 d2)] w (RetN k t e u w) := by
 have o : ((VA.mk 3 (p : Int) n1 A1 c1 l1 ⟨#[]⟩ B1 0 d1).ok && (VA.mk 3 (q : Int) n2 A2 c2 l2 ⟨#[]⟩ B2 0 d2).ok) = true := by rw [VA.ok_made I1.isZ D1, VA.ok_made I2.isZ D2]; rfl
 have hx : divX (VA.mk 3 (p : Int) n1 A1 c1 l1 ⟨#[]⟩ B1 0 d1) (VA.mk 3 (q : Int) n2 A2 c2 l2 ⟨#[]⟩ B2 0 d2) = (u, ((t : Int)).toNat, e) := by
  unfold divX
  rw [two_ok o, Int.toNat_natCast, ← hE]
  unfold VA.u
  rw [va_z I1, va_z I2]
  rfl
 exact (DDiv_calls (VA.mk 3 (p : Int) n1 A1 c1 l1 ⟨#[]⟩ B1 0 d1) (VA.mk 3 (q : Int) n2 A2 c2 l2 ⟨#[]⟩ B2 0 d2) w ⟨I1.rd, I1.cap⟩ ⟨I2.rd, I2.cap⟩).mono fun _ _ h => RetN.of h hx hk (Int.natCast_nonneg t)
theorem xis {n : Bool} {A : Option Addr} {c : Nat} {l : List Nat} {z : Int} {p : Nat} {B : Option Addr} {d : Nat} {w : World} (I1 : IV w n A c l z) (D1 : IsD z p) :
 Calls Tryz.prog 31 #[vv 3 (p : Int) n A l.length c ⟨#[]⟩ B 0 d] w fun e w' => e = .returned (.bool true) ∧ Below w.heap.size w w' := by
 have h := is_c (VA.mk 3 (p : Int) n A c l ⟨#[]⟩ B 0 d) w ⟨I1.rd, I1.cap⟩
 rwa [VA.ok_made I1.isZ D1] at h
theorem xunits {n : Bool} {A : Option Addr} {c : Nat} {l : List Nat} {z u : Int} {p : Nat} {B : Option Addr} {d : Nat} {w : World} (I1 : IV w n A c l z) (D1 : IsD z p) (hu : unitsZ z p = u) :
 Calls Tryz.prog 33 #[vv 3 (p : Int) n A l.length c ⟨#[]⟩ B 0 d] w (RetI u w) := by
 rw [← hu]
 exact unitsof_i n A c l z p D1.hi B d w I1 D1.lz (by decide)
theorem xlz {z u : Int} {p : Nat} (D1 : IsD z p) (hu : unitsZ z p = u) : Lz 43 u := by
 rw [← hu]
 have := D1.hi
 exact D1.lz.mul (lz_ten (20 - p) (by omega))
theorem DecNearest_no (a b : VA) (w : World) (ha : a.At w) (hb : b.At w) (hf : [a, b].all fmB = false) (hd0 : DigW w) (m : Int) (hm : w.cell? ⟨1, 0, none⟩ = some (.int .i64 m)) :
 Calls Tryz.prog 6 #[a.val, b.val] w fun e w' => e = .returned (.bool true) ∧ Below w.heap.size w w' := by
 obtain ⟨W, hW, hbW, K0, K1, hszW⟩ := box2 w #[.int .i64 a.k, .int .i64 a.p, .bool a.s, .slice a.A a.l.length a.c, .string a.S, .slice a.B a.m a.d] 27 #[.int .i64 b.k, .int .i64 b.p, .bool b.s, .slice b.A b.l.length b.c, .string b.S, .slice b.B b.m b.d] 27
 have hs := sane_c W (hd0.on hbW) m ((hbW.cell (p := ⟨1, 0, none⟩) (World.block_lt_of_cell? w _ hm)).trans hm)
 have hl := fun w5 (h : Below W.heap.size W w5) => lawformed_c w5.heap.size [a, b] (w5.alloc (.cells #[.int .i64 a.k, .int .i64 a.p, .bool a.s, .slice a.A a.l.length a.c, .string a.S, .slice a.B a.m a.d, .int .i64 b.k, .int .i64 b.p, .bool b.s, .slice b.A b.l.length b.c, .string b.S, .slice b.B b.m b.d] 27)) (by simp) (vals_two a b _ _ ⟨World.alloc_heap_new w5 _⟩ (((ha.on hbW).on h).on (al1 w5 _)) (((hb.on hbW).on h).on (al1 w5 _))) (by simp)
 rw [hf] at hl
 clear hf hm hd0
 replace hszW := Lib.hid hszW
 obtain ⟨x0, x1, x2, x3, x4, x5⟩ := cL6 K0.h
 obtain ⟨y0, y1, y2, y3, y4, y5⟩ := cL6 K1.h
 go_enter Tryz.func6, Tryz.ntmps6
 go_wp2_with first
  | (go_at_call 28; have hmark := b5; refine (hl _ b5).mono ?_; rintro e w6 ⟨rfl, b6⟩)
  | (go_at_call 16; refine hs.mono ?_; rintro e w5 ⟨rfl, b5⟩; clear x0 x1 x2 x3 x4 x5 y0 y1 y2 y3 y4 y5; obtain ⟨x0, x1, x2, x3, x4, x5⟩ := cL6 (K0.on b5).h; obtain ⟨y0, y1, y2, y3, y4, y5⟩ := cL6 (K1.on b5).h)
 go_ret
 have a1 := al1 w5 (.cells #[.int .i64 a.k, .int .i64 a.p, .bool a.s, .slice a.A a.l.length a.c, .string a.S, .slice a.B a.m a.d, .int .i64 b.k, .int .i64 b.p, .bool b.s, .slice b.A b.l.length b.c, .string b.S, .slice b.B b.m b.d] 27)
 exact ⟨rfl, hbW.trans ((b5.trans ((a1.trans (b6.mono a1.size)).mono b5.size)).mono hbW.size)⟩
set_option maxHeartbeats 32000000 in
theorem nearest_z' (n1 n2 : Bool) (A1 A2 : Option Addr) (c1 c2 : Nat) (l1 l2 : List Nat) (z1 z2 : Int) (p q : Nat) (B1 B2 : Option Addr) (d1 d2 : Nat) (w : World) (I1 : IV w n1 A1 c1 l1 z1) (I2 : IV w n2 A2 c2 l2 z2) (D1 : IsD z1 p) (D2 : IsD z2 q) (hfm : [(VA.mk 3 (p : Int) n1 A1 c1 l1 ⟨#[]⟩ B1 0 d1), (VA.mk 3 (q : Int) n2 A2 c2 l2 ⟨#[]⟩ B2 0 d2)].all fmB = true) (hd0 : DigW w) (m : Int) (hm : w.cell? ⟨1, 0, none⟩ = some (.int .i64 m)) :
 Calls Tryz.prog 6 #[(vv 3 (p : Int) n1 A1 l1.length c1 ⟨#[]⟩ B1 0 d1), (vv 3 (q : Int) n2 A2 l2.length c2 ⟨#[]⟩ B2 0 d2)] w fun e w' => e = .returned (.bool true) ∧ Below w.heap.size w w' := by
 obtain ⟨u1, t1, e1, hE1, he1⟩ := strip_cases (nearZ (unitsZ z1 p * unitsZ z2 q) (10 ^ 20))
 obtain ⟨k1, hk1⟩ : ∃ k, kd (u1, t1, e1) = k := ⟨_, rfl⟩
 obtain ⟨u2, t2, e2, hE2, he2⟩ : ∃ z t e, (if z2 = 0 then err 20 else stripE (nearZ (unitsZ z1 p * 10 ^ 20) (unitsZ z2 q))) = (z, t, e) ∧ ((z2 = 0 ∧ e = 20) ∨ (z2 ≠ 0 ∧ (e = 0 ∨ e = 3))) := by
  by_cases h0 : z2 = 0
  · rw [if_pos h0]
    exact ⟨_, _, _, rfl, .inl ⟨h0, rfl⟩⟩
  · rw [if_neg h0]
    exact ⟨_, _, _, rfl, .inr ⟨h0, made_err _ 20⟩⟩
 obtain ⟨k2, hk2⟩ : ∃ k, kd (u2, t2, e2) = k := ⟨_, rfl⟩
 have hM := fun W' (Ix : IV W' n1 A1 c1 l1 z1) (Iy : IV W' n2 A2 c2 l2 z2) => xmul (B1 := B1) (B2 := B2) (d1 := d1) (d2 := d2) Ix Iy D1 D2 hE1 hk1
 have hD := fun W' (Ix : IV W' n1 A1 c1 l1 z1) (Iy : IV W' n2 A2 c2 l2 z2) => xdiv (B1 := B1) (B2 := B2) (d1 := d1) (d2 := d2) Ix Iy D1 D2 hE2 hk2
 obtain ⟨ua, hua⟩ : ∃ u, unitsZ z1 p = u := ⟨_, rfl⟩
 obtain ⟨ub, hub⟩ : ∃ u, unitsZ z2 q = u := ⟨_, rfl⟩
 have hUa := fun W' (Ix : IV W' n1 A1 c1 l1 z1) => xunits (B := B1) (d := d1) Ix D1 hua
 have hUb := fun W' (Ix : IV W' n2 A2 c2 l2 z2) => xunits (B := B2) (d := d2) Ix D2 hub
 have fa := xlz D1 hua
 have fb := xlz D2 hub
 have hsb : n2 = decide (ub < 0) := by
  rw [I2.sgn, ← hub]
  exact decide_eq_decide.2 units_nonneg.symm
 have hb0 : z2 ≠ 0 → ub ≠ 0 := fun h h' => by
  rw [← hub] at h'
  rcases Int.mul_eq_zero.1 h' with h'' | h''
  · exact h h''
  · exact absurd h'' (Int.ne_of_gt (ten_pos _))
 rw [hua, hub] at hE1 hE2
 have hTn : ∀ W', Calls Tryz.prog 35 #[.int .i64 20] W' (RetI (10 ^ 20) W') := fun W' => Ten_i 20 (by decide) W'
 have fT : Lz 3 ((10 : Int) ^ 20) := lz_ten 20 (by decide)
 have hTp : (0 : Int) < 10 ^ 20 := ten_pos 20
 have hX : e1 = 0 → ∃ q1, k1 = 3 ∧ (∀ W' s A c l (Ix : IV W' s A c l u1), Calls Tryz.prog 31 #[vv 3 (t1 : Int) s A l.length c ⟨#[]⟩ none 0 0] W' (fun e w' => e = .returned (.bool true) ∧ Below W'.heap.size W' w')) ∧ (∀ W' s A c l (Ix : IV W' s A c l u1), Calls Tryz.prog 33 #[vv 3 (t1 : Int) s A l.length c ⟨#[]⟩ none 0 0] W' (RetI q1 W')) ∧ Lz 43 q1 ∧ q1 = nearP (ua * ub) (10 ^ 20) := by
  intro h
  subst h
  obtain ⟨E1, U1⟩ := strip_of hE1
  exact ⟨unitsZ u1 t1, by rw [← hk1]; exact kd_ok rfl, fun W' s A c l Ix => xis Ix E1, fun W' s A c l Ix => xunits Ix E1 rfl, xlz E1 rfl, by rw [U1]; unfold nearZ; rw [if_neg (by omega)]⟩
 have hY : e2 = 0 → ∃ q2, k2 = 3 ∧ (∀ W' s A c l (Ix : IV W' s A c l u2), Calls Tryz.prog 31 #[vv 3 (t2 : Int) s A l.length c ⟨#[]⟩ none 0 0] W' (fun e w' => e = .returned (.bool true) ∧ Below W'.heap.size W' w')) ∧ (∀ W' s A c l (Ix : IV W' s A c l u2), Calls Tryz.prog 33 #[vv 3 (t2 : Int) s A l.length c ⟨#[]⟩ none 0 0] W' (RetI q2 W')) ∧ Lz 43 q2 ∧ q2 = nearZ (ua * 10 ^ 20) ub := by
  intro h
  subst h
  have h0 : z2 ≠ 0 := by
   rcases he2 with h | h
   · exact absurd h.2 (by decide)
   · exact h.1
  rw [if_neg h0] at hE2
  obtain ⟨E1, U1⟩ := strip_of hE2
  exact ⟨unitsZ u2 t2, by rw [← hk2]; exact kd_ok rfl, fun W' s A c l Ix => xis Ix E1, fun W' s A c l Ix => xunits Ix E1 rfl, xlz E1 rfl, U1⟩
 clear hE1 hE2 hk1 hk2 hua hub D1 D2
 generalize (10 : Int) ^ 20 = T at *
 have hPr := fun W' s A c l s' A' c' l' (Ix : IV W' s A c l ua) (Iy : IV W' s' A' c' l' ub) => rtimes_i s s' A A' c c' l l' ua ub W' Ix Iy fa fb (by decide) (by decide)
 have fm := fa.mul fb
 generalize ua * ub = mm at *
 have hPn := fun W' s A c l s' A' c' l' (Ix : IV W' s A c l ua) (Iy : IV W' s' A' c' l' T) => rtimes_i s s' A A' c c' l l' ua T W' Ix Iy fa fT (by decide) (by decide)
 have fn := fa.mul fT
 generalize ua * T = nn at *
 have hMn := fun W' s A c l (Ix : IV W' s A c l nn) => rminus_i s A c l nn W' Ix
 have hMb := fun W' s A c l (Ix : IV W' s A c l ub) => rminus_i s A c l ub W' Ix
 have hNx : ∀ q1, Lz 43 q1 → q1 = nearP mm T → ∀ W' s A c l s' A' c' l' s'' A'' c'' l'' (Ix : IV W' s A c l q1) (Iy : IV W' s' A' c' l' mm) (Iz : IV W' s'' A'' c'' l'' T), Calls Tryz.prog 32 #[iv s A l.length c, iv s' A' l'.length c', iv s'' A'' l''.length c''] W' (fun e w' => e = .returned (.bool true) ∧ Below W'.heap.size W' w') := fun q1 fq hq W' s A c l s' A' c' l' s'' A'' c'' l'' Ix Iy Iz => nearest_c s s' s'' A A' A'' c c' c'' l l' l'' q1 mm T W' Ix Iy Iz (fq.mono (by decide)) (fm.mono (by decide)) (fT.mono (by decide)) hTp hq
 have hNy : ∀ q2, Lz 43 q2 → q2 = nearZ nn ub → n2 = false → ub ≠ 0 → ∀ W' s A c l s' A' c' l' s'' A'' c'' l'' (Ix : IV W' s A c l q2) (Iy : IV W' s' A' c' l' nn) (Iz : IV W' s'' A'' c'' l'' ub), Calls Tryz.prog 32 #[iv s A l.length c, iv s' A' l'.length c', iv s'' A'' l''.length c''] W' (fun e w' => e = .returned (.bool true) ∧ Below W'.heap.size W' w') := fun q2 fq hq hn hne W' s A c l s' A' c' l' s'' A'' c'' l'' Ix Iy Iz => by
  have hp : ¬ ub < 0 := by rw [hn] at hsb; simpa using hsb.symm
  refine nearest_c s s' s'' A A' A'' c c' c'' l l' l'' q2 nn ub W' Ix Iy Iz (fq.mono (by decide)) (fn.mono (by decide)) (fb.mono (by decide)) (by omega) ?_
  rw [hq]
  unfold nearZ
  rw [if_neg hp]
 have hNm : ∀ q2, Lz 43 q2 → q2 = nearZ nn ub → n2 = true → ∀ W' s A c l s' A' c' l' s'' A'' c'' l'' (Ix : IV W' s A c l q2) (Iy : IV W' s' A' c' l' (-nn)) (Iz : IV W' s'' A'' c'' l'' (-ub)), Calls Tryz.prog 32 #[iv s A l.length c, iv s' A' l'.length c', iv s'' A'' l''.length c''] W' (fun e w' => e = .returned (.bool true) ∧ Below W'.heap.size W' w') := fun q2 fq hq hn W' s A c l s' A' c' l' s'' A'' c'' l'' Ix Iy Iz => by
  have hp : ub < 0 := by rw [hn] at hsb; simpa using hsb.symm
  refine nearest_c s s' s'' A A' A'' c c' c'' l l' l'' q2 (-nn) (-ub) W' Ix Iy Iz (fq.mono (by decide)) (fn.neg.mono (by decide)) (fb.neg.mono (by decide)) (by omega) ?_
  rw [hq]
  unfold nearZ
  rw [if_pos hp]
 have hlz := len_zero I2
 have hDb : n2 = decide (ub < 0) := hsb
 replace hsb := Lib.hid hsb
 clear hDb fa fb fT fm fn hTp
 generalize -nn = nm at *
 generalize -ub = um at *
 replace hX := Lib.hid hX
 replace hY := Lib.hid hY
 replace hNx := Lib.hid hNx
 replace hNy := Lib.hid hNy
 replace hNm := Lib.hid hNm
 replace hb0 := Lib.hid hb0
 replace he2 := Lib.hid he2
 obtain ⟨W, hW, hbW, K0, K1, hszW⟩ := box2 w #[.int .i64 3, .int .i64 (p : Int), .bool n1, .slice A1 l1.length c1, .string ⟨#[]⟩, .slice B1 0 d1] 27 #[.int .i64 3, .int .i64 (q : Int), .bool n2, .slice A2 l2.length c2, .string ⟨#[]⟩, .slice B2 0 d2] 27
 have hs := sane_c W (hd0.on hbW) m ((hbW.cell (p := ⟨1, 0, none⟩) (World.block_lt_of_cell? w _ hm)).trans hm)
 have hl : ∀ w5, IV w5 n1 A1 c1 l1 z1 → IV w5 n2 A2 c2 l2 z2 → Calls Tryz.prog 28 #[.slice (some ⟨w5.heap.size, 0, none⟩) 2 2] (w5.alloc (.cells #[.int .i64 3, .int .i64 (p : Int), .bool n1, .slice A1 l1.length c1, .string ⟨#[]⟩, .slice B1 0 d1, .int .i64 3, .int .i64 (q : Int), .bool n2, .slice A2 l2.length c2, .string ⟨#[]⟩, .slice B2 0 d2] 27)) (fun e w' => e = .returned (.bool true) ∧ Below (w5.alloc (.cells #[.int .i64 3, .int .i64 (p : Int), .bool n1, .slice A1 l1.length c1, .string ⟨#[]⟩, .slice B1 0 d1, .int .i64 3, .int .i64 (q : Int), .bool n2, .slice A2 l2.length c2, .string ⟨#[]⟩, .slice B2 0 d2] 27)).heap.size (w5.alloc (.cells #[.int .i64 3, .int .i64 (p : Int), .bool n1, .slice A1 l1.length c1, .string ⟨#[]⟩, .slice B1 0 d1, .int .i64 3, .int .i64 (q : Int), .bool n2, .slice A2 l2.length c2, .string ⟨#[]⟩, .slice B2 0 d2] 27)) w') := fun w5 I1 I2 => by
  have h := lawformed_c w5.heap.size [(VA.mk 3 (p : Int) n1 A1 c1 l1 ⟨#[]⟩ B1 0 d1), (VA.mk 3 (q : Int) n2 A2 c2 l2 ⟨#[]⟩ B2 0 d2)] (w5.alloc (.cells #[.int .i64 3, .int .i64 (p : Int), .bool n1, .slice A1 l1.length c1, .string ⟨#[]⟩, .slice B1 0 d1, .int .i64 3, .int .i64 (q : Int), .bool n2, .slice A2 l2.length c2, .string ⟨#[]⟩, .slice B2 0 d2] 27)) (by simp) (vals_two (VA.mk 3 (p : Int) n1 A1 c1 l1 ⟨#[]⟩ B1 0 d1) (VA.mk 3 (q : Int) n2 A2 c2 l2 ⟨#[]⟩ B2 0 d2) _ _ ⟨World.alloc_heap_new w5 _⟩ ⟨(I1.on (al1 w5 _)).rd, I1.cap⟩ ⟨(I2.on (al1 w5 _)).rd, I2.cap⟩) (by simp)
  rw [hfm] at h
  exact h
 replace I1 := I1.on hbW
 replace I2 := I2.on hbW
 have Kka := K0
 have Kkb := K1
 have bw := hbW
 clear hm hd0 K0 K1 hbW hfm
 replace hszW := Lib.hid hszW
 obtain ⟨ka_0, ka_1, ka_2, ka_3, ka_4, ka_5⟩ := cL6 Kka.h
 obtain ⟨kb_0, kb_1, kb_2, kb_3, kb_4, kb_5⟩ := cL6 Kkb.h
 rcases he1 with rfl | rfl
 case' inl =>
  obtain ⟨q1, rfl, hIx, hUx, fq1, hq1⟩ := hX.out rfl
  replace hNx := hNx.out q1 fq1 hq1
  clear hX fq1 hq1
  go_enter Tryz.func6, Tryz.ntmps6
  go_upto_region 5 with first
   | (go_at_call 30; have hmark := m6; refine (hM _ I1 I2).mono ?_; rintro e w7 ⟨s7, A7', c7', l7', rfl, I7, b7⟩; have m7 := Lib.hid (rfl : (7 : Nat) = 7); replace Kka := Kka.on b7; replace Kkb := Kkb.on b7; replace I1 := I1.on b7; replace I2 := I2.on b7; replace bw := bw.trans (b7.mono bw.size); have a7 := al1 w7 (.cells #[.int .i64 3, .int .i64 (t1 : Int), .bool s7, .slice A7' l7'.length c7', .string ⟨#[]⟩, .slice none 0 0] 27); replace Kka := Kka.on a7; replace Kkb := Kkb.on a7; replace I1 := I1.on a7; replace I2 := I2.on a7; replace bw := bw.trans (a7.mono bw.size); replace I7 := I7.on a7; have Kv7 := blk_new w7 #[.int .i64 3, .int .i64 (t1 : Int), .bool s7, .slice A7' l7'.length c7', .string ⟨#[]⟩, .slice none 0 0] 27; clear ka_0 ka_1 ka_2 ka_3 ka_4 ka_5 kb_0 kb_1 kb_2 kb_3 kb_4 kb_5; skip)
   | (go_at_call 28; have hmark := m5; refine (hl _ I1 I2).mono ?_; rintro e w6 ⟨rfl, b6⟩; have m6 := Lib.hid (rfl : (6 : Nat) = 6); have a6 := (al1 w5 (.cells #[.int .i64 3, .int .i64 (p : Int), .bool n1, .slice A1 l1.length c1, .string ⟨#[]⟩, .slice B1 0 d1, .int .i64 3, .int .i64 (q : Int), .bool n2, .slice A2 l2.length c2, .string ⟨#[]⟩, .slice B2 0 d2] 27)).trans (b6.mono (al1 w5 (.cells #[.int .i64 3, .int .i64 (p : Int), .bool n1, .slice A1 l1.length c1, .string ⟨#[]⟩, .slice B1 0 d1, .int .i64 3, .int .i64 (q : Int), .bool n2, .slice A2 l2.length c2, .string ⟨#[]⟩, .slice B2 0 d2] 27)).size); replace Kka := Kka.on a6; replace Kkb := Kkb.on a6; replace I1 := I1.on a6; replace I2 := I2.on a6; replace bw := bw.trans (a6.mono bw.size); clear ka_0 ka_1 ka_2 ka_3 ka_4 ka_5 kb_0 kb_1 kb_2 kb_3 kb_4 kb_5; obtain ⟨ka_0, ka_1, ka_2, ka_3, ka_4, ka_5⟩ := cL6 Kka.h; obtain ⟨kb_0, kb_1, kb_2, kb_3, kb_4, kb_5⟩ := cL6 Kkb.h)
   | (go_at_call 16; refine hs.mono ?_; rintro e w5 ⟨rfl, b5⟩; have m5 := Lib.hid (rfl : (5 : Nat) = 5); replace Kka := Kka.on b5; replace Kkb := Kkb.on b5; replace I1 := I1.on b5; replace I2 := I2.on b5; replace bw := bw.trans (b5.mono bw.size); clear ka_0 ka_1 ka_2 ka_3 ka_4 ka_5 kb_0 kb_1 kb_2 kb_3 kb_4 kb_5; obtain ⟨ka_0, ka_1, ka_2, ka_3, ka_4, ka_5⟩ := cL6 Kka.h; obtain ⟨kb_0, kb_1, kb_2, kb_3, kb_4, kb_5⟩ := cL6 Kkb.h)
  generalize hW9 : w7.alloc (.cells #[.int .i64 3, .int .i64 (t1 : Int), .bool s7, .slice A7' l7'.length c7', .string ⟨#[]⟩, .slice none 0 0] 27) = W9 at *
  clear hW9
  generalize w7.heap.size = g7 at *
  have HS : ∀ W', Below W9.heap.size W9 W' → (fun w'' => VK w'' g7 3 (t1 : Int) s7 A7' l7'.length c7' ⟨#[]⟩ none 0 0 ∧ VK w'' w.heap.size 3 (p : Int) n1 A1 l1.length c1 ⟨#[]⟩ B1 0 d1 ∧ VK w'' (w.heap.size + 1) 3 (q : Int) n2 A2 l2.length c2 ⟨#[]⟩ B2 0 d2) W' := fun W' q => ⟨vk_of Kv7 q, vk_of Kka q, vk_of Kkb q⟩
  replace HS := Lib.hid HS
  refine wp_region_held_drew (S := (fun w'' => VK w'' g7 3 (t1 : Int) s7 A7' l7'.length c7' ⟨#[]⟩ none 0 0 ∧ VK w'' w.heap.size 3 (p : Int) n1 A1 l1.length c1 ⟨#[]⟩ B1 0 d1 ∧ VK w'' (w.heap.size + 1) 3 (q : Int) n2 A2 l2.length c2 ⟨#[]⟩ B2 0 d2)) (by kernel_rfl) (HS.out _ (below_drew (Below.refl _ _))) (fun hHeld => ?_)
  refine wpAnyH_take (i := 0) (v := Value.int .i64 0) rfl (by kernel_rfl) (by kernel_rfl) (by kernel_rfl) (fun _ _ _ h => h) (Or.inl ⟨by kernel_rfl, fun w hSw => by (try dsimp only at hSw); go_simp⟩) (by assumption) ?_
  try simp only [Act.put, aQ, bQ, cQ]
  refine wpAnyH_take (i := 1) (v := Value.bool false) rfl (by kernel_rfl) (by kernel_rfl) (by kernel_rfl) (fun _ _ _ h => h) (Or.inl ⟨by kernel_rfl, fun w hSw => by (try dsimp only at hSw); go_simp⟩) (by assumption) ?_
  try simp only [Act.put, aQ, bQ, cQ]
  refine wpAnyH_take (i := 2) (v := Value.bool false) rfl (by kernel_rfl) (by kernel_rfl) (by kernel_rfl) (fun _ _ _ h => h) (Or.inl ⟨by kernel_rfl, fun w hSw => by (try dsimp only at hSw); go_simp⟩) (by assumption) ?_
  try simp only [Act.put, aQ, bQ, cQ]
  refine wpAnyH_take (i := 3) (v := undef) rfl (by kernel_rfl) (by kernel_rfl) (by kernel_rfl) (fun _ _ _ h => h) (Or.inr ⟨by rfl, rfl⟩) (by assumption) ?_
  try simp only [Act.put, aQ, bQ, cQ]
  refine wpAnyH_take (i := 4) (v := undef) rfl (by kernel_rfl) (by kernel_rfl) (by kernel_rfl) (fun _ _ _ h => h) (Or.inr ⟨by rfl, rfl⟩) (by assumption) ?_
  try simp only [Act.put, aQ, bQ, cQ]
  refine wpAnyH_take (i := 5) (v := Value.bool false) rfl (by kernel_rfl) (by kernel_rfl) (by kernel_rfl) (fun _ _ _ h => h) (Or.inl ⟨by kernel_rfl, fun w hSw => by (try dsimp only at hSw); go_simp⟩) (by assumption) ?_
  try simp only [Act.put, aQ, bQ, cQ]
  refine wpAnyH_take (i := 6) (v := Value.bool false) rfl (by kernel_rfl) (by kernel_rfl) (by kernel_rfl) (fun _ _ _ h => h) (Or.inl ⟨by kernel_rfl, fun w hSw => by (try dsimp only at hSw); go_simp⟩) (by assumption) ?_
  try simp only [Act.put, aQ, bQ, cQ]
  refine wpAnyH_take (i := 7) (v := Value.int .i64 0) rfl (by kernel_rfl) (by kernel_rfl) (by kernel_rfl) (fun _ _ _ h => h) (Or.inl ⟨by kernel_rfl, fun w hSw => by (try dsimp only at hSw); go_simp⟩) (by assumption) ?_
  try simp only [Act.put, aQ, bQ, cQ]
  refine wpAnyH_take (i := 8) (v := Value.bool true) rfl (by kernel_rfl) (by kernel_rfl) (by kernel_rfl) (fun _ _ _ h => h) (Or.inl ⟨by kernel_rfl, fun w hSw => by (try dsimp only at hSw); go_simp⟩) (by assumption) ?_
  try simp only [Act.put, aQ, bQ, cQ]
  refine wpAnyH_take (i := 9) (v := Value.bool true) rfl (by kernel_rfl) (by kernel_rfl) (by kernel_rfl) (fun _ _ _ h => h) (Or.inl ⟨by kernel_rfl, fun w hSw => by (try dsimp only at hSw); go_simp⟩) (by assumption) ?_
  try simp only [Act.put, aQ, bQ, cQ]
  refine wpAnyH_take (i := 10) (v := (Value.agg #[.int .i64 3, .int .i64 (t1 : Int), .bool s7, .slice A7' l7'.length c7', .string ⟨#[]⟩, .slice none 0 0])) rfl (by kernel_rfl) (by kernel_rfl) (by kernel_rfl) (fun _ _ _ h => h) (Or.inl ⟨by kernel_rfl, fun w hSw => by (try dsimp only at hSw); go_simp⟩) (by assumption) ?_
  try simp only [Act.put, aQ, bQ, cQ]
  refine wpAnyH_ready (rs := [11]) (by kernel_rfl) (by simp) ?_
  refine AllReadyH.cons rfl (fun K hK => ?_) AllReadyH.nil
  go_simp
  go_at_call 31; refine (hIx _ _ _ _ _ (I7.on (below_drew (Below.refl W9.heap.size W9)))).mono ?_; rintro e w20 ⟨rfl, b20⟩; have q20 := (below_drew (Below.refl W9.heap.size W9)).trans (b20.mono (below_drew (Below.refl W9.heap.size W9)).size)
  go_wp2_with fail
  refine hK.out _ _ (HS.out _ q20) (fun hHeld => ?_)
  clear hK K
  try simp only [Act.put, aQ, bQ, cQ]
  refine wpAnyH_take (i := 12) (v := Value.bool false) rfl (by kernel_rfl) (by kernel_rfl) (by kernel_rfl) (fun _ _ _ h => h) (Or.inl ⟨by kernel_rfl, fun w hSw => by (try dsimp only at hSw); go_simp⟩) (by assumption) ?_
  try simp only [Act.put, aQ, bQ, cQ]
  refine wpAnyH_take (i := 13) (v := Value.bool false) rfl (by kernel_rfl) (by kernel_rfl) (by kernel_rfl) (fun _ _ _ h => h) (Or.inl ⟨by kernel_rfl, fun w hSw => by (try dsimp only at hSw); go_simp⟩) (by assumption) ?_
  try simp only [Act.put, aQ, bQ, cQ]
  refine wpAnyH_take (i := 14) (v := (Value.agg #[.int .i64 3, .int .i64 (t1 : Int), .bool s7, .slice A7' l7'.length c7', .string ⟨#[]⟩, .slice none 0 0])) rfl (by kernel_rfl) (by kernel_rfl) (by kernel_rfl) (fun _ _ _ h => h) (Or.inl ⟨by kernel_rfl, fun w hSw => by (try dsimp only at hSw); go_simp⟩) (by assumption) ?_
  try simp only [Act.put, aQ, bQ, cQ]
  refine wpAnyH_take (i := 16) (v := (Value.agg #[.int .i64 3, .int .i64 (p : Int), .bool n1, .slice A1 l1.length c1, .string ⟨#[]⟩, .slice B1 0 d1])) rfl (by kernel_rfl) (by kernel_rfl) (by kernel_rfl) (fun _ _ _ h => h) (Or.inl ⟨by kernel_rfl, fun w hSw => by (try dsimp only at hSw); go_simp⟩) (by assumption) ?_
  try simp only [Act.put, aQ, bQ, cQ]
  refine wpAnyH_take (i := 18) (v := (Value.agg #[.int .i64 3, .int .i64 (q : Int), .bool n2, .slice A2 l2.length c2, .string ⟨#[]⟩, .slice B2 0 d2])) rfl (by kernel_rfl) (by kernel_rfl) (by kernel_rfl) (fun _ _ _ h => h) (Or.inl ⟨by kernel_rfl, fun w hSw => by (try dsimp only at hSw); go_simp⟩) (by assumption) ?_
  try simp only [Act.put, aQ, bQ, cQ]
  refine wpAnyH_ready (rs := [15]) (by kernel_rfl) (by simp) ?_
  refine AllReadyH.cons rfl (fun K hK => ?_) AllReadyH.nil
  go_simp
  go_at_call 33; refine (hUx _ _ _ _ _ (I7.on q20)).mono ?_; rintro e w21 ⟨s21, A21, c21, l21, rfl, I21, b21⟩; have q21 := q20.trans (b21.mono q20.size)
  go_wp2_with fail
  refine hK.out _ _ (HS.out _ q21) (fun hHeld => ?_)
  clear hK K
  try simp only [Act.put, aQ, bQ, cQ]
  refine wpAnyH_ready (rs := [17]) (by kernel_rfl) (by simp) ?_
  refine AllReadyH.cons rfl (fun K hK => ?_) AllReadyH.nil
  go_simp
  go_at_call 33; refine (hUa _ (I1.on q21)).mono ?_; rintro e w22 ⟨s22, A22, c22, l22, rfl, I22, b22⟩; have q22 := q21.trans (b22.mono q21.size)
  go_wp2_with fail
  refine hK.out _ _ (HS.out _ q22) (fun hHeld => ?_)
  clear hK K
  try simp only [Act.put, aQ, bQ, cQ]
  refine wpAnyH_ready (rs := [19]) (by kernel_rfl) (by simp) ?_
  refine AllReadyH.cons rfl (fun K hK => ?_) AllReadyH.nil
  go_simp
  go_at_call 33; refine (hUb _ (I2.on q22)).mono ?_; rintro e w23 ⟨s23, A23, c23, l23, rfl, I23, b23⟩; have q23 := q22.trans (b23.mono q22.size)
  go_wp2_with fail
  refine hK.out _ _ (HS.out _ q23) (fun hHeld => ?_)
  clear hK K
  try simp only [Act.put, aQ, bQ, cQ]
  refine wpAnyH_ready (rs := [20]) (by kernel_rfl) (by simp) ?_
  refine AllReadyH.cons rfl (fun K hK => ?_) AllReadyH.nil
  go_simp
  go_at_call 34; refine (hPr _ _ _ _ _ _ _ _ _ (I22.on b23) I23).mono ?_; rintro e w24 ⟨s24, A24, c24, l24, rfl, I24, b24⟩; have q24 := q23.trans (b24.mono q23.size)
  go_wp2_with fail
  refine hK.out _ _ (HS.out _ q24) (fun hHeld => ?_)
  clear hK K
  try simp only [Act.put, aQ, bQ, cQ]
  refine wpAnyH_ready (rs := [21]) (by kernel_rfl) (by simp) ?_
  refine AllReadyH.cons rfl (fun K hK => ?_) AllReadyH.nil
  go_simp
  go_at_call 35; refine (hTn _).mono ?_; rintro e w25 ⟨s25, A25, c25, l25, rfl, I25, b25⟩; have q25 := q24.trans (b25.mono q24.size)
  go_wp2_with fail
  refine hK.out _ _ (HS.out _ q25) (fun hHeld => ?_)
  clear hK K
  try simp only [Act.put, aQ, bQ, cQ]
  refine wpAnyH_ready (rs := [22]) (by kernel_rfl) (by simp) ?_
  refine AllReadyH.cons rfl (fun K hK => ?_) AllReadyH.nil
  go_simp
  go_at_call 32; refine (hNx _ _ _ _ _ _ _ _ _ _ _ _ _ ((((I21.on b22).on b23).on b24).on b25) (I24.on b25) I25).mono ?_; rintro e w26 ⟨rfl, b26⟩; have q26 := q25.trans (b26.mono q25.size)
  go_wp2_with fail
  refine hK.out _ _ (HS.out _ q26) (fun hHeld => ?_)
  clear hK K
  try simp only [Act.put, aQ, bQ, cQ]
  refine wpAnyH_take (i := 23) (v := Value.bool false) rfl (by kernel_rfl) (by kernel_rfl) (by kernel_rfl) (fun _ _ _ h => h) (Or.inl ⟨by kernel_rfl, fun w hSw => by (try dsimp only at hSw); go_simp⟩) (by assumption) ?_
  try simp only [Act.put, aQ, bQ, cQ]
  refine wpAnyH_take (i := 24) (v := Value.bool false) rfl (by kernel_rfl) (by kernel_rfl) (by kernel_rfl) (fun _ _ _ h => h) (Or.inl ⟨by kernel_rfl, fun w hSw => by (try dsimp only at hSw); go_simp⟩) (by assumption) ?_
  try simp only [Act.put, aQ, bQ, cQ]
  refine wpAnyH_take (i := 25) (v := Value.bool false) rfl (by kernel_rfl) (by kernel_rfl) (by kernel_rfl) (fun _ _ _ h => h) (Or.inl ⟨by kernel_rfl, fun w hSw => by (try dsimp only at hSw); go_simp⟩) (by assumption) ?_
  try simp only [Act.put, aQ, bQ, cQ]
  refine wpAnyH_take (i := 26) (v := Value.bool false) rfl (by kernel_rfl) (by kernel_rfl) (by kernel_rfl) (fun _ _ _ h => h) (Or.inl ⟨by kernel_rfl, fun w hSw => by (try dsimp only at hSw); go_simp⟩) (by assumption) ?_
  try simp only [Act.put, aQ, bQ, cQ]
  refine wpAnyH_done (by kernel_rfl) ?_ _
  clear hIx hUx hNx hPr
  replace Kka := Kka.on q26; replace Kkb := Kkb.on q26; replace I1 := I1.on q26; replace I2 := I2.on q26
  replace bw := bw.trans (q26.mono bw.size)
  clear HS Kv7 I7 I21 I22 I23 I24 I25 hHeld
 case' inr =>
  clear hX hNx hPr
  go_enter Tryz.func6, Tryz.ntmps6
  go_upto_region 5 with first
   | (go_at_call 30; have hmark := m6; refine (hM _ I1 I2).mono ?_; rintro e w7 ⟨s7, A7', c7', l7', rfl, I7, b7⟩; have m7 := Lib.hid (rfl : (7 : Nat) = 7); replace Kka := Kka.on b7; replace Kkb := Kkb.on b7; replace I1 := I1.on b7; replace I2 := I2.on b7; replace bw := bw.trans (b7.mono bw.size); have a7 := al1 w7 (.cells #[.int .i64 k1, .int .i64 (t1 : Int), .bool s7, .slice A7' l7'.length c7', .string ⟨#[]⟩, .slice none 0 0] 27); replace Kka := Kka.on a7; replace Kkb := Kkb.on a7; replace I1 := I1.on a7; replace I2 := I2.on a7; replace bw := bw.trans (a7.mono bw.size); replace I7 := I7.on a7; have Kv7 := blk_new w7 #[.int .i64 k1, .int .i64 (t1 : Int), .bool s7, .slice A7' l7'.length c7', .string ⟨#[]⟩, .slice none 0 0] 27; clear ka_0 ka_1 ka_2 ka_3 ka_4 ka_5 kb_0 kb_1 kb_2 kb_3 kb_4 kb_5; skip)
   | (go_at_call 28; have hmark := m5; refine (hl _ I1 I2).mono ?_; rintro e w6 ⟨rfl, b6⟩; have m6 := Lib.hid (rfl : (6 : Nat) = 6); have a6 := (al1 w5 (.cells #[.int .i64 3, .int .i64 (p : Int), .bool n1, .slice A1 l1.length c1, .string ⟨#[]⟩, .slice B1 0 d1, .int .i64 3, .int .i64 (q : Int), .bool n2, .slice A2 l2.length c2, .string ⟨#[]⟩, .slice B2 0 d2] 27)).trans (b6.mono (al1 w5 (.cells #[.int .i64 3, .int .i64 (p : Int), .bool n1, .slice A1 l1.length c1, .string ⟨#[]⟩, .slice B1 0 d1, .int .i64 3, .int .i64 (q : Int), .bool n2, .slice A2 l2.length c2, .string ⟨#[]⟩, .slice B2 0 d2] 27)).size); replace Kka := Kka.on a6; replace Kkb := Kkb.on a6; replace I1 := I1.on a6; replace I2 := I2.on a6; replace bw := bw.trans (a6.mono bw.size); clear ka_0 ka_1 ka_2 ka_3 ka_4 ka_5 kb_0 kb_1 kb_2 kb_3 kb_4 kb_5; obtain ⟨ka_0, ka_1, ka_2, ka_3, ka_4, ka_5⟩ := cL6 Kka.h; obtain ⟨kb_0, kb_1, kb_2, kb_3, kb_4, kb_5⟩ := cL6 Kkb.h)
   | (go_at_call 16; refine hs.mono ?_; rintro e w5 ⟨rfl, b5⟩; have m5 := Lib.hid (rfl : (5 : Nat) = 5); replace Kka := Kka.on b5; replace Kkb := Kkb.on b5; replace I1 := I1.on b5; replace I2 := I2.on b5; replace bw := bw.trans (b5.mono bw.size); clear ka_0 ka_1 ka_2 ka_3 ka_4 ka_5 kb_0 kb_1 kb_2 kb_3 kb_4 kb_5; obtain ⟨ka_0, ka_1, ka_2, ka_3, ka_4, ka_5⟩ := cL6 Kka.h; obtain ⟨kb_0, kb_1, kb_2, kb_3, kb_4, kb_5⟩ := cL6 Kkb.h)
  go_quiet (fail)
  clear I7 Kv7
  generalize w7.alloc (.cells #[.int .i64 k1, .int .i64 (t1 : Int), .bool s7, .slice A7' l7'.length c7', .string ⟨#[]⟩, .slice none 0 0] 27) = WX at *
  have bN := below_drewN (Below.refl WX.heap.size WX) nq
  replace Kka := Kka.on bN
  replace Kkb := Kkb.on bN
  replace I1 := I1.on bN
  replace I2 := I2.on bN
  replace bw := bw.trans (bN.mono bw.size)
  clear bN
  generalize WX.drewN nq = W9 at *
 all_goals
  (have ka_0 := cell_at Kka.h 0 _ rfl
   have ka_1 := cell_at Kka.h 1 _ rfl
   have ka_2 := cell_at Kka.h 2 _ rfl
   have ka_3 := cell_at Kka.h 3 _ rfl
   have ka_4 := cell_at Kka.h 4 _ rfl
   have ka_5 := cell_at Kka.h 5 _ rfl
   obtain ⟨kb_0, kb_1, kb_2, kb_3, kb_4, kb_5⟩ := cL6 Kkb.h
   rcases he2.out with ⟨h0, rfl⟩ | ⟨h0, rfl | rfl⟩
   · rw [decide_eq_true h0] at hlz
     clear hY hNy hNm hb0 he2 hUa hUb hTn hPn hMn hMb h0
     go_wp2_with first
      | (go_at_call 36; refine (hD _ I1 I2).mono ?_; rintro e w30 ⟨s30, A30', c30', l30', rfl, I30, b30⟩; have m30 := Lib.hid (rfl : (30 : Nat) = 30); replace Kka := Kka.on b30; replace Kkb := Kkb.on b30; replace I1 := I1.on b30; replace I2 := I2.on b30; replace bw := bw.trans (b30.mono bw.size); have a30 := al1 w30 (.cells #[.int .i64 k2, .int .i64 (t2 : Int), .bool s30, .slice A30' l30'.length c30', .string ⟨#[]⟩, .slice none 0 0] 27); replace Kka := Kka.on a30; replace Kkb := Kkb.on a30; replace I1 := I1.on a30; replace I2 := I2.on a30; replace bw := bw.trans (a30.mono bw.size); replace I30 := I30.on a30; have Kv30 := blk_new w30 #[.int .i64 k2, .int .i64 (t2 : Int), .bool s30, .slice A30' l30'.length c30', .string ⟨#[]⟩, .slice none 0 0] 27; clear ka_0 ka_1 ka_2 ka_3 ka_4 ka_5 kb_0 kb_1 kb_2 kb_3 kb_4 kb_5; obtain ⟨kb_0, kb_1, kb_2, kb_3, kb_4, kb_5⟩ := cL6 Kkb.h)
     go_ret
     exact ⟨rfl, bw⟩
   · rw [decide_eq_false h0] at hlz
     obtain ⟨q2, rfl, hIy, hUy, fq2, hq2⟩ := hY.out rfl
     replace hNy := Lib.hid (fun h => hNy.out q2 fq2 hq2 h (hb0.out h0))
     replace hNm := Lib.hid (hNm.out q2 fq2 hq2)
     clear hY fq2 hq2 he2 hb0 h0
     cases n2
     · replace hNy := Lib.hid (hNy.out rfl)
       clear hNm
       go_upto_region 17 with first
        | (go_at_call 33; have hmark := m33; refine (hUb _ I2).mono ?_; rintro e w34 ⟨s34, A34', c34', l34', rfl, I34, b34⟩; have m34 := Lib.hid (rfl : (34 : Nat) = 34); replace Kka := Kka.on b34; replace Kkb := Kkb.on b34; replace Kv30 := Kv30.on b34; replace Kx33 := Kx33.on b34; replace I1 := I1.on b34; replace I2 := I2.on b34; replace I30 := I30.on b34; replace I31 := I31.on b34; replace I32 := I32.on b34; replace I33 := I33.on b34; replace bw := bw.trans (b34.mono bw.size); have lt34 := Lib.hid (blk_lt Kx33); obtain rfl : s34 = false := (by first | exact I34.sgn.trans hsb.out.symm | (have hh := I34.sgn; rw [hh]; done) | (have hh := I34.sgn; have h2 := hsb.out; simp_all)); have a34 := al1 w34 (.cells #[.bool false, .slice A34' l34'.length c34'] 24); replace Kka := Kka.on a34; replace Kkb := Kkb.on a34; replace Kv30 := Kv30.on a34; replace Kx33 := Kx33.on a34; replace I1 := I1.on a34; replace I2 := I2.on a34; replace I30 := I30.on a34; replace I31 := I31.on a34; replace I32 := I32.on a34; replace I33 := I33.on a34; replace bw := bw.trans (a34.mono bw.size); replace I34 := I34.on a34; have Kx34 := blk_new w34 #[.bool false, .slice A34' l34'.length c34'] 24; clear kb_0 kb_1 kb_2 kb_3 kb_4 kb_5; obtain ⟨x34_0, x34_1⟩ := cL2 Kx34.h; obtain ⟨x33_0, x33_1⟩ := cL2 Kx33.h)
        | (go_at_call 34; have hmark := m32; refine (hPn _ _ _ _ _ _ _ _ _ I31 I32).mono ?_; rintro e w33 ⟨s33, A33', c33', l33', rfl, I33, b33⟩; have m33 := Lib.hid (rfl : (33 : Nat) = 33); replace Kka := Kka.on b33; replace Kkb := Kkb.on b33; replace Kv30 := Kv30.on b33; replace I1 := I1.on b33; replace I2 := I2.on b33; replace I30 := I30.on b33; replace I31 := I31.on b33; replace I32 := I32.on b33; replace bw := bw.trans (b33.mono bw.size); have lt33 := Lib.hid (blk_lt Kv30); have a33 := al1 w33 (.cells #[.bool s33, .slice A33' l33'.length c33'] 24); replace Kka := Kka.on a33; replace Kkb := Kkb.on a33; replace Kv30 := Kv30.on a33; replace I1 := I1.on a33; replace I2 := I2.on a33; replace I30 := I30.on a33; replace I31 := I31.on a33; replace I32 := I32.on a33; replace bw := bw.trans (a33.mono bw.size); replace I33 := I33.on a33; have Kx33 := blk_new w33 #[.bool s33, .slice A33' l33'.length c33'] 24; clear kb_0 kb_1 kb_2 kb_3 kb_4 kb_5; obtain ⟨kb_0, kb_1, kb_2, kb_3, kb_4, kb_5⟩ := cL6 Kkb.h)
        | (go_at_call 35; have hmark := m31; refine (hTn _).mono ?_; rintro e w32 ⟨s32, A32', c32', l32', rfl, I32, b32⟩; have m32 := Lib.hid (rfl : (32 : Nat) = 32); replace Kka := Kka.on b32; replace Kkb := Kkb.on b32; replace Kv30 := Kv30.on b32; replace I1 := I1.on b32; replace I2 := I2.on b32; replace I30 := I30.on b32; replace I31 := I31.on b32; replace bw := bw.trans (b32.mono bw.size); clear kb_0 kb_1 kb_2 kb_3 kb_4 kb_5; obtain ⟨kb_0, kb_1, kb_2, kb_3, kb_4, kb_5⟩ := cL6 Kkb.h)
        | (go_at_call 33; have hmark := m30; refine (hUa _ I1).mono ?_; rintro e w31 ⟨s31, A31', c31', l31', rfl, I31, b31⟩; have m31 := Lib.hid (rfl : (31 : Nat) = 31); replace Kka := Kka.on b31; replace Kkb := Kkb.on b31; replace Kv30 := Kv30.on b31; replace I1 := I1.on b31; replace I2 := I2.on b31; replace I30 := I30.on b31; replace bw := bw.trans (b31.mono bw.size); clear kb_0 kb_1 kb_2 kb_3 kb_4 kb_5 ka_0 ka_1 ka_2 ka_3 ka_4 ka_5; obtain ⟨kb_0, kb_1, kb_2, kb_3, kb_4, kb_5⟩ := cL6 Kkb.h)
        | (go_at_call 36; refine (hD _ I1 I2).mono ?_; rintro e w30 ⟨s30, A30', c30', l30', rfl, I30, b30⟩; have m30 := Lib.hid (rfl : (30 : Nat) = 30); replace Kka := Kka.on b30; replace Kkb := Kkb.on b30; replace I1 := I1.on b30; replace I2 := I2.on b30; replace bw := bw.trans (b30.mono bw.size); have lt30 := Lib.hid (blk_lt Kkb); have a30 := al1 w30 (.cells #[.int .i64 3, .int .i64 (t2 : Int), .bool s30, .slice A30' l30'.length c30', .string ⟨#[]⟩, .slice none 0 0] 27); replace Kka := Kka.on a30; replace Kkb := Kkb.on a30; replace I1 := I1.on a30; replace I2 := I2.on a30; replace bw := bw.trans (a30.mono bw.size); replace I30 := I30.on a30; have Kv30 := blk_new w30 #[.int .i64 3, .int .i64 (t2 : Int), .bool s30, .slice A30' l30'.length c30', .string ⟨#[]⟩, .slice none 0 0] 27; clear ka_0 ka_1 ka_2 ka_3 ka_4 ka_5 kb_0 kb_1 kb_2 kb_3 kb_4 kb_5; obtain ⟨kb_0, kb_1, kb_2, kb_3, kb_4, kb_5⟩ := cL6 Kkb.h; obtain ⟨ka_0, ka_1, ka_2, ka_3, ka_4, ka_5⟩ := cL6 Kka.h)
       generalize w34.alloc (.cells #[.bool false, .slice A34' l34'.length c34'] 24) = WW at *
       have hNz := hNy.out
       clear hNy x34_0 x34_1 x33_0 x33_1
       have HS : ∀ W', Below WW.heap.size WW W' → (fun w'' => VK w'' w30.heap.size 3 (t2 : Int) s30 A30' l30'.length c30' ⟨#[]⟩ none 0 0 ∧ NK w'' w33.heap.size s33 A33' l33'.length c33' ∧ NK w'' w34.heap.size false A34' l34'.length c34') W' := fun W' q => ⟨vk_of Kv30 q, nk_of Kx33 q, nk_of Kx34 q⟩
       have H0 := HS _ (Below.refl _ _)
       replace HS := Lib.hid HS
       try dsimp only at H0
       go_region_held3 (fun w'' => VK w'' w30.heap.size 3 (t2 : Int) s30 A30' l30'.length c30' ⟨#[]⟩ none 0 0 ∧ NK w'' w33.heap.size s33 A33' l33'.length c33' ∧ NK w'' w34.heap.size false A34' l34'.length c34') ((first | (with_reducible exact H0) | (with_reducible exact ⟨vk_drew H0.1, nk_drew H0.2.1, nk_drew H0.2.2⟩)))
        ((first
         | (go_at_call 32; have hmark := q41; refine (hNz _ _ _ _ _ _ _ _ _ _ _ _ _ I41 (I33.on q41) (I34.on q41)).mono ?_; rintro e w42 ⟨rfl, b42⟩; have q42 := q41.trans (b42.mono q41.size); clear H0; have H0 := HS.out _ q42; (try dsimp only at H0))
         | (go_at_call 33; have hmark := q40; refine (hUy _ _ _ _ _ (I30.on q40)).mono ?_; rintro e w41 ⟨s41, A41, c41, l41, rfl, I41, b41⟩; have q41 := q40.trans (b41.mono q40.size); clear H0; have H0 := HS.out _ q41; (try dsimp only at H0))
         | (go_at_call 31; refine (hIy _ _ _ _ _ (I30.on (below_drew (Below.refl WW.heap.size WW)))).mono ?_; rintro e w40 ⟨rfl, b40⟩; have q40 := (below_drew (Below.refl WW.heap.size WW)).trans (b40.mono (below_drew (Below.refl WW.heap.size WW)).size); clear H0; have H0 := HS.out _ q40; (try dsimp only at H0))))
       go_wp2_with fail
       go_ret
       exact ⟨rfl, bw.trans (q42.mono bw.size)⟩
     · replace hNm := Lib.hid (hNm.out rfl)
       clear hNy
       go_upto_region 16 with first
        | (go_at_call 37; have hmark := m34; refine (hMn _ _ _ _ _ I33).mono ?_; rintro e w35 ⟨s35, A35', c35', l35', rfl, I35, b35⟩; have m35 := Lib.hid (rfl : (35 : Nat) = 35); replace Kka := Kka.on b35; replace Kkb := Kkb.on b35; replace Kv30 := Kv30.on b35; replace Kx33 := Kx33.on b35; replace Kx34 := Kx34.on b35; replace I1 := I1.on b35; replace I2 := I2.on b35; replace I30 := I30.on b35; replace I31 := I31.on b35; replace I32 := I32.on b35; replace I33 := I33.on b35; replace I34 := I34.on b35; replace bw := bw.trans (b35.mono bw.size); clear x34_0 x34_1 x33_0 x33_1; obtain ⟨x33_0, x33_1⟩ := cL2 Kx33.h; obtain ⟨x33f0, x33f1⟩ := fZ2 Kx33.h)
        | (go_at_call 33; have hmark := m33; refine (hUb _ I2).mono ?_; rintro e w34 ⟨s34, A34', c34', l34', rfl, I34, b34⟩; have m34 := Lib.hid (rfl : (34 : Nat) = 34); replace Kka := Kka.on b34; replace Kkb := Kkb.on b34; replace Kv30 := Kv30.on b34; replace Kx33 := Kx33.on b34; replace I1 := I1.on b34; replace I2 := I2.on b34; replace I30 := I30.on b34; replace I31 := I31.on b34; replace I32 := I32.on b34; replace I33 := I33.on b34; replace bw := bw.trans (b34.mono bw.size); have lt34 := Lib.hid (blk_lt Kx33); obtain rfl : s34 = true := (by first | exact I34.sgn.trans hsb.out.symm | (have hh := I34.sgn; rw [hh]; done) | (have hh := I34.sgn; have h2 := hsb.out; simp_all)); have a34 := al1 w34 (.cells #[.bool true, .slice A34' l34'.length c34'] 24); replace Kka := Kka.on a34; replace Kkb := Kkb.on a34; replace Kv30 := Kv30.on a34; replace Kx33 := Kx33.on a34; replace I1 := I1.on a34; replace I2 := I2.on a34; replace I30 := I30.on a34; replace I31 := I31.on a34; replace I32 := I32.on a34; replace I33 := I33.on a34; replace bw := bw.trans (a34.mono bw.size); replace I34 := I34.on a34; have Kx34 := blk_new w34 #[.bool true, .slice A34' l34'.length c34'] 24; clear kb_0 kb_1 kb_2 kb_3 kb_4 kb_5; obtain ⟨x34_0, x34_1⟩ := cL2 Kx34.h; obtain ⟨x33_0, x33_1⟩ := cL2 Kx33.h)
        | (go_at_call 34; have hmark := m32; refine (hPn _ _ _ _ _ _ _ _ _ I31 I32).mono ?_; rintro e w33 ⟨s33, A33', c33', l33', rfl, I33, b33⟩; have m33 := Lib.hid (rfl : (33 : Nat) = 33); replace Kka := Kka.on b33; replace Kkb := Kkb.on b33; replace Kv30 := Kv30.on b33; replace I1 := I1.on b33; replace I2 := I2.on b33; replace I30 := I30.on b33; replace I31 := I31.on b33; replace I32 := I32.on b33; replace bw := bw.trans (b33.mono bw.size); have lt33 := Lib.hid (blk_lt Kv30); have a33 := al1 w33 (.cells #[.bool s33, .slice A33' l33'.length c33'] 24); replace Kka := Kka.on a33; replace Kkb := Kkb.on a33; replace Kv30 := Kv30.on a33; replace I1 := I1.on a33; replace I2 := I2.on a33; replace I30 := I30.on a33; replace I31 := I31.on a33; replace I32 := I32.on a33; replace bw := bw.trans (a33.mono bw.size); replace I33 := I33.on a33; have Kx33 := blk_new w33 #[.bool s33, .slice A33' l33'.length c33'] 24; clear kb_0 kb_1 kb_2 kb_3 kb_4 kb_5; obtain ⟨kb_0, kb_1, kb_2, kb_3, kb_4, kb_5⟩ := cL6 Kkb.h)
        | (go_at_call 35; have hmark := m31; refine (hTn _).mono ?_; rintro e w32 ⟨s32, A32', c32', l32', rfl, I32, b32⟩; have m32 := Lib.hid (rfl : (32 : Nat) = 32); replace Kka := Kka.on b32; replace Kkb := Kkb.on b32; replace Kv30 := Kv30.on b32; replace I1 := I1.on b32; replace I2 := I2.on b32; replace I30 := I30.on b32; replace I31 := I31.on b32; replace bw := bw.trans (b32.mono bw.size); clear kb_0 kb_1 kb_2 kb_3 kb_4 kb_5; obtain ⟨kb_0, kb_1, kb_2, kb_3, kb_4, kb_5⟩ := cL6 Kkb.h)
        | (go_at_call 33; have hmark := m30; refine (hUa _ I1).mono ?_; rintro e w31 ⟨s31, A31', c31', l31', rfl, I31, b31⟩; have m31 := Lib.hid (rfl : (31 : Nat) = 31); replace Kka := Kka.on b31; replace Kkb := Kkb.on b31; replace Kv30 := Kv30.on b31; replace I1 := I1.on b31; replace I2 := I2.on b31; replace I30 := I30.on b31; replace bw := bw.trans (b31.mono bw.size); clear kb_0 kb_1 kb_2 kb_3 kb_4 kb_5 ka_0 ka_1 ka_2 ka_3 ka_4 ka_5; obtain ⟨kb_0, kb_1, kb_2, kb_3, kb_4, kb_5⟩ := cL6 Kkb.h)
        | (go_at_call 36; refine (hD _ I1 I2).mono ?_; rintro e w30 ⟨s30, A30', c30', l30', rfl, I30, b30⟩; have m30 := Lib.hid (rfl : (30 : Nat) = 30); replace Kka := Kka.on b30; replace Kkb := Kkb.on b30; replace I1 := I1.on b30; replace I2 := I2.on b30; replace bw := bw.trans (b30.mono bw.size); have lt30 := Lib.hid (blk_lt Kkb); have a30 := al1 w30 (.cells #[.int .i64 3, .int .i64 (t2 : Int), .bool s30, .slice A30' l30'.length c30', .string ⟨#[]⟩, .slice none 0 0] 27); replace Kka := Kka.on a30; replace Kkb := Kkb.on a30; replace I1 := I1.on a30; replace I2 := I2.on a30; replace bw := bw.trans (a30.mono bw.size); replace I30 := I30.on a30; have Kv30 := blk_new w30 #[.int .i64 3, .int .i64 (t2 : Int), .bool s30, .slice A30' l30'.length c30', .string ⟨#[]⟩, .slice none 0 0] 27; clear ka_0 ka_1 ka_2 ka_3 ka_4 ka_5 kb_0 kb_1 kb_2 kb_3 kb_4 kb_5; obtain ⟨kb_0, kb_1, kb_2, kb_3, kb_4, kb_5⟩ := cL6 Kkb.h; obtain ⟨ka_0, ka_1, ka_2, ka_3, ka_4, ka_5⟩ := cL6 Kka.h)
       obtain ⟨X35, hX35, KX35, NX35, OX35⟩ := storeI (s' := s35) (A' := A35') (n' := l35'.length) (c' := c35') Kx33
       rw [hX35]
       replace Kka := OX35.one Kka (by have := lt30.out; have := lt33.out; have := lt34.out; omega)
       replace Kkb := OX35.one Kkb (by have := lt30.out; have := lt33.out; have := lt34.out; omega)
       replace Kv30 := OX35.one Kv30 (by have := lt30.out; have := lt33.out; have := lt34.out; omega)
       replace Kx34 := OX35.one Kx34 (by have := lt30.out; have := lt33.out; have := lt34.out; omega)
       replace Kx33 := KX35
       replace I1 := I1.nudge NX35
       replace I2 := I2.nudge NX35
       replace I30 := I30.nudge NX35
       replace I31 := I31.nudge NX35
       replace I32 := I32.nudge NX35
       replace I33 := I33.nudge NX35
       replace I34 := I34.nudge NX35
       replace I35 := I35.nudge NX35
       replace bw := bw.trans (NX35.low.mono (by have := lt30.out; have := lt33.out; have := lt34.out; omega))
       clear hX35 KX35 NX35 OX35 b35 x33_0 x33_1 x33f0 x33f1
       obtain ⟨x34_0, x34_1⟩ := cL2 Kx34.h
       go_upto_region 17 with first
        | (go_at_call 37; have hmark := m35; refine (hMb _ _ _ _ _ I34).mono ?_; rintro e w36 ⟨s36, A36', c36', l36', rfl, I36, b36⟩; have m36 := Lib.hid (rfl : (36 : Nat) = 36); replace Kka := Kka.on b36; replace Kkb := Kkb.on b36; replace Kv30 := Kv30.on b36; replace Kx33 := Kx33.on b36; replace Kx34 := Kx34.on b36; replace I1 := I1.on b36; replace I2 := I2.on b36; replace I30 := I30.on b36; replace I31 := I31.on b36; replace I32 := I32.on b36; replace I33 := I33.on b36; replace I34 := I34.on b36; replace I35 := I35.on b36; replace bw := bw.trans (b36.mono bw.size); clear x34_0 x34_1; obtain ⟨x34_0, x34_1⟩ := cL2 Kx34.h; obtain ⟨x34f0, x34f1⟩ := fZ2 Kx34.h)
       obtain ⟨X36, hX36, KX36, NX36, OX36⟩ := storeI (s' := s36) (A' := A36') (n' := l36'.length) (c' := c36') Kx34
       rw [hX36]
       replace Kka := OX36.one Kka (by have := lt30.out; have := lt33.out; have := lt34.out; omega)
       replace Kkb := OX36.one Kkb (by have := lt30.out; have := lt33.out; have := lt34.out; omega)
       replace Kv30 := OX36.one Kv30 (by have := lt30.out; have := lt33.out; have := lt34.out; omega)
       replace Kx33 := OX36.one Kx33 (by have := lt30.out; have := lt33.out; have := lt34.out; omega)
       replace Kx34 := KX36
       replace I1 := I1.nudge NX36
       replace I2 := I2.nudge NX36
       replace I30 := I30.nudge NX36
       replace I31 := I31.nudge NX36
       replace I32 := I32.nudge NX36
       replace I33 := I33.nudge NX36
       replace I34 := I34.nudge NX36
       replace I35 := I35.nudge NX36
       replace I36 := I36.nudge NX36
       replace bw := bw.trans (NX36.low.mono (by have := lt30.out; have := lt33.out; have := lt34.out; omega))
       clear hX36 KX36 NX36 OX36 b36 x34_0 x34_1 x34f0 x34f1
       generalize X36 = WW at *
       have hNz := hNm.out
       clear hNm 
       have HS : ∀ W', Below WW.heap.size WW W' → (fun w'' => VK w'' w30.heap.size 3 (t2 : Int) s30 A30' l30'.length c30' ⟨#[]⟩ none 0 0 ∧ NK w'' w33.heap.size s35 A35' l35'.length c35' ∧ NK w'' w34.heap.size s36 A36' l36'.length c36') W' := fun W' q => ⟨vk_of Kv30 q, nk_of Kx33 q, nk_of Kx34 q⟩
       have H0 := HS _ (Below.refl _ _)
       replace HS := Lib.hid HS
       try dsimp only at H0
       go_region_held3 (fun w'' => VK w'' w30.heap.size 3 (t2 : Int) s30 A30' l30'.length c30' ⟨#[]⟩ none 0 0 ∧ NK w'' w33.heap.size s35 A35' l35'.length c35' ∧ NK w'' w34.heap.size s36 A36' l36'.length c36') ((first | (with_reducible exact H0) | (with_reducible exact ⟨vk_drew H0.1, nk_drew H0.2.1, nk_drew H0.2.2⟩)))
        ((first
         | (go_at_call 32; have hmark := q41; refine (hNz _ _ _ _ _ _ _ _ _ _ _ _ _ I41 (I35.on q41) (I36.on q41)).mono ?_; rintro e w42 ⟨rfl, b42⟩; have q42 := q41.trans (b42.mono q41.size); clear H0; have H0 := HS.out _ q42; (try dsimp only at H0))
         | (go_at_call 33; have hmark := q40; refine (hUy _ _ _ _ _ (I30.on q40)).mono ?_; rintro e w41 ⟨s41, A41, c41, l41, rfl, I41, b41⟩; have q41 := q40.trans (b41.mono q40.size); clear H0; have H0 := HS.out _ q41; (try dsimp only at H0))
         | (go_at_call 31; refine (hIy _ _ _ _ _ (I30.on (below_drew (Below.refl WW.heap.size WW)))).mono ?_; rintro e w40 ⟨rfl, b40⟩; have q40 := (below_drew (Below.refl WW.heap.size WW)).trans (b40.mono (below_drew (Below.refl WW.heap.size WW)).size); clear H0; have H0 := HS.out _ q40; (try dsimp only at H0))))
       go_wp2_with fail
       go_ret
       exact ⟨rfl, bw.trans (q42.mono bw.size)⟩
   · rw [decide_eq_false h0] at hlz
     clear hY hNy hNm hb0 he2 hUa hUb hTn hPn hMn hMb h0
     go_wp2_with first
      | (go_at_call 36; refine (hD _ I1 I2).mono ?_; rintro e w30 ⟨s30, A30', c30', l30', rfl, I30, b30⟩; have m30 := Lib.hid (rfl : (30 : Nat) = 30); replace Kka := Kka.on b30; replace Kkb := Kkb.on b30; replace I1 := I1.on b30; replace I2 := I2.on b30; replace bw := bw.trans (b30.mono bw.size); have a30 := al1 w30 (.cells #[.int .i64 k2, .int .i64 (t2 : Int), .bool s30, .slice A30' l30'.length c30', .string ⟨#[]⟩, .slice none 0 0] 27); replace Kka := Kka.on a30; replace Kkb := Kkb.on a30; replace I1 := I1.on a30; replace I2 := I2.on a30; replace bw := bw.trans (a30.mono bw.size); replace I30 := I30.on a30; have Kv30 := blk_new w30 #[.int .i64 k2, .int .i64 (t2 : Int), .bool s30, .slice A30' l30'.length c30', .string ⟨#[]⟩, .slice none 0 0] 27; clear ka_0 ka_1 ka_2 ka_3 ka_4 ka_5 kb_0 kb_1 kb_2 kb_3 kb_4 kb_5; obtain ⟨kb_0, kb_1, kb_2, kb_3, kb_4, kb_5⟩ := cL6 Kkb.h)
     go_ret
     exact ⟨rfl, bw⟩)
theorem DecNearest_calls (a b : VA) (w : World) (ha : a.At w) (hb : b.At w) (hd0 : DigW w) (m : Int) (hm : w.cell? ⟨1, 0, none⟩ = some (.int .i64 m)) :
 Calls Tryz.prog 6 #[a.val, b.val] w fun e w' => e = .returned (.bool true) ∧ Below w.heap.size w w' := by
 cases hf : [a, b].all fmB
 · exact DecNearest_no a b w ha hb hf hd0 m hm
 · have h3 := hf
   simp only [List.all_cons, List.all_nil, Bool.and_true, Bool.and_eq_true, fmB] at h3
   obtain ⟨⟨-, oa⟩, -, ob⟩ := h3
   obtain ⟨p, n1, A1, c1, l1, B1, d1, e1, i1, D1, -, -⟩ := VA.destruct ha.rd.words oa
   obtain ⟨q, n2, A2, c2, l2, B2, d2, e2, i2, D2, -, -⟩ := VA.destruct hb.rd.words ob
   generalize a.z = za at *
   generalize b.z = zb at *
   subst e1 e2
   exact nearest_z' n1 n2 A1 A2 c1 c2 l1 l2 za zb p q B1 B2 d1 d2 w ⟨ha.rd, ha.cap, i1⟩ ⟨hb.rd, hb.cap, i2⟩ D1 D2 hf hd0 m hm
end Dc
end Go.Proofs.YtjghnghceeijeaaGreatDoor
