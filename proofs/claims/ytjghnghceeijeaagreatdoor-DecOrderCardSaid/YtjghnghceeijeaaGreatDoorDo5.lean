/-
  Contracts of the walks below.
-/
import Derived.Test.YtjghnghceeijeaaGreatDoorDb32
import Derived.Test.YtjghnghceeijeaaGreatDoorDo4
set_option maxRecDepth 100000
set_option maxHeartbeats 4000000
set_option linter.unusedVariables false
set_option linter.unusedSimpArgs false
namespace Go.Proofs.YtjghnghceeijeaaGreatDoor
namespace Dc
open Go.RowKit Go.Shelf Go.BigFrame Go.Proofs.YtjghnghceeijeaaGreatDoor.Nm
attribute [local go_sem] Oper.semAt_some
theorem xround {n1 : Bool} {A1 : Option Addr} {c1 : Nat} {l1 : List Nat} {z1 : Int} {p : Nat} {B1 : Option Addr} {d1 : Nat} {w : World} (I1 : IV w n1 A1 c1 l1 z1) (D1 : IsD z1 p) (j : Int) :
 ∃ u t e k, (∀ W' n A c l B d (Ix : IV W' n A c l z1), Calls Tryz.prog 49 #[vv 3 (p : Int) n A l.length c ⟨#[]⟩ B 0 d, .int .i64 j] W' (RetN k (t : Nat) e u W')) ∧ (e = 0 → k = 3 ∧ 0 ≤ j ∧ j ≤ 20 ∧ IsD u t ∧ unitsZ u t = nearZ (unitsZ z1 p) (10 ^ (20 - j.toNat)) * 10 ^ (20 - j.toNat)) := by
 have ox : ∀ {W' : World} {n : Bool} {A : Option Addr} {c : Nat} {l : List Nat} {B : Option Addr} {d : Nat} (Ix : IV W' n A c l z1), roundX (VA.mk 3 (p : Int) n A c l ⟨#[]⟩ B 0 d) j = roundX (VA.mk 3 (p : Int) n1 A1 c1 l1 ⟨#[]⟩ B1 0 d1) j := fun Ix => by
  unfold roundX
  rw [one_ok (VA.ok_made Ix.isZ D1), one_ok (VA.ok_made I1.isZ D1), va_z Ix, va_z I1]
  rfl
 refine ⟨(roundX (VA.mk 3 (p : Int) n1 A1 c1 l1 ⟨#[]⟩ B1 0 d1) j).1, (roundX (VA.mk 3 (p : Int) n1 A1 c1 l1 ⟨#[]⟩ B1 0 d1) j).2.1, (roundX (VA.mk 3 (p : Int) n1 A1 c1 l1 ⟨#[]⟩ B1 0 d1) j).2.2, kd (roundX (VA.mk 3 (p : Int) n1 A1 c1 l1 ⟨#[]⟩ B1 0 d1) j), fun W' n A c l B d Ix => ?_, fun h => ?_⟩
 · refine (DRound_calls (VA.mk 3 (p : Int) n A c l ⟨#[]⟩ B 0 d) j W' ⟨Ix.rd, Ix.cap⟩).mono fun _ _ h => RetN.of h ?_ ?_ (Int.natCast_nonneg _)
   · rw [ox Ix, Int.toNat_natCast]
   · rw [Int.toNat_natCast]
 · have ha : (VA.mk 3 (p : Int) n1 A1 c1 l1 ⟨#[]⟩ B1 0 d1).ok = true := VA.ok_made I1.isZ D1
   have hj : 0 ≤ j ∧ j ≤ 20 := by
    refine Classical.byContradiction fun hn => ?_
    have : roundX (VA.mk 3 (p : Int) n1 A1 c1 l1 ⟨#[]⟩ B1 0 d1) j = err 1 := by
     unfold roundX
     rw [one_ok ha, if_pos (by omega)]
    rw [this] at h
    exact absurd h (by decide)
   obtain ⟨i, rfl⟩ : ∃ i : Nat, j = (i : Int) := ⟨j.toNat, by omega⟩
   have hr := round_u (a := (VA.mk 3 (p : Int) n1 A1 c1 l1 ⟨#[]⟩ B1 0 d1)) I1.rd.words ha (k := i) (by omega) h
   refine ⟨kd_ok h, hj.1, hj.2, hr.1, hr.2.trans ?_⟩
   rw [Int.toNat_natCast]
   unfold VA.u
   rw [va_z I1]
   rfl
theorem xfloor {n1 : Bool} {A1 : Option Addr} {c1 : Nat} {l1 : List Nat} {z1 : Int} {p : Nat} {B1 : Option Addr} {d1 : Nat} {w : World} (I1 : IV w n1 A1 c1 l1 z1) (D1 : IsD z1 p) {f : Int} (hf : (unitsZ z1 p / 10 ^ 20) = f) :
 Calls Tryz.prog 51 #[(vv 3 (p : Int) n1 A1 l1.length c1 ⟨#[]⟩ B1 0 d1)] w (RetIE (f, 0) w) := by
 have ha : (VA.mk 3 (p : Int) n1 A1 c1 l1 ⟨#[]⟩ B1 0 d1).ok = true := VA.ok_made I1.isZ D1
 have hx : floorX (VA.mk 3 (p : Int) n1 A1 c1 l1 ⟨#[]⟩ B1 0 d1) = (f, 0) := by
  rw [floor_u (a := (VA.mk 3 (p : Int) n1 A1 c1 l1 ⟨#[]⟩ B1 0 d1)) I1.rd.words ha, ← hf]
  unfold VA.u
  rw [va_z I1]
  rfl
 have h := DFloor_calls (VA.mk 3 (p : Int) n1 A1 c1 l1 ⟨#[]⟩ B1 0 d1) w ⟨I1.rd, I1.cap⟩
 rw [hx] at h
 exact h
theorem xceil {n1 : Bool} {A1 : Option Addr} {c1 : Nat} {l1 : List Nat} {z1 : Int} {p : Nat} {B1 : Option Addr} {d1 : Nat} {w : World} (I1 : IV w n1 A1 c1 l1 z1) (D1 : IsD z1 p) {f : Int} (hf : (-((-unitsZ z1 p) / 10 ^ 20)) = f) :
 Calls Tryz.prog 52 #[(vv 3 (p : Int) n1 A1 l1.length c1 ⟨#[]⟩ B1 0 d1)] w (RetIE (f, 0) w) := by
 have ha : (VA.mk 3 (p : Int) n1 A1 c1 l1 ⟨#[]⟩ B1 0 d1).ok = true := VA.ok_made I1.isZ D1
 have hx : ceilX (VA.mk 3 (p : Int) n1 A1 c1 l1 ⟨#[]⟩ B1 0 d1) = (f, 0) := by
  rw [ceil_u (a := (VA.mk 3 (p : Int) n1 A1 c1 l1 ⟨#[]⟩ B1 0 d1)) I1.rd.words ha, ← hf]
  unfold VA.u
  rw [va_z I1]
  rfl
 have h := DCeil_calls (VA.mk 3 (p : Int) n1 A1 c1 l1 ⟨#[]⟩ B1 0 d1) w ⟨I1.rd, I1.cap⟩
 rw [hx] at h
 exact h
theorem xfix {n1 : Bool} {A1 : Option Addr} {c1 : Nat} {l1 : List Nat} {z1 : Int} {p : Nat} {B1 : Option Addr} {d1 : Nat} {w : World} (I1 : IV w n1 A1 c1 l1 z1) (D1 : IsD z1 p) {f : Int} (hf : (if unitsZ z1 p < 0 then -((-unitsZ z1 p) / 10 ^ 20) else unitsZ z1 p / 10 ^ 20) = f) :
 Calls Tryz.prog 50 #[(vv 3 (p : Int) n1 A1 l1.length c1 ⟨#[]⟩ B1 0 d1)] w (RetIE (f, 0) w) := by
 have ha : (VA.mk 3 (p : Int) n1 A1 c1 l1 ⟨#[]⟩ B1 0 d1).ok = true := VA.ok_made I1.isZ D1
 have hx : fixX (VA.mk 3 (p : Int) n1 A1 c1 l1 ⟨#[]⟩ B1 0 d1) = (f, 0) := by
  rw [fix_u (a := (VA.mk 3 (p : Int) n1 A1 c1 l1 ⟨#[]⟩ B1 0 d1)) I1.rd.words ha, ← hf]
  unfold VA.u
  rw [va_z I1]
  rfl
 have h := DFix_calls (VA.mk 3 (p : Int) n1 A1 c1 l1 ⟨#[]⟩ B1 0 d1) w ⟨I1.rd, I1.cap⟩
 rw [hx] at h
 exact h
set_option maxHeartbeats 32000000 in
theorem kept_c (n1 n2 : Bool) (A1 A2 : Option Addr) (c1 c2 : Nat) (l1 l2 : List Nat) (z1 z2 : Int) (p q : Nat) (B1 B2 : Option Addr) (d1 d2 : Nat) (k : Int) (w : World) (I1 : IV w n1 A1 c1 l1 z1) (I2 : IV w n2 A2 c2 l2 z2) (D1 : IsD z1 p) (D2 : IsD z2 q) (hle : unitsZ z1 p ≤ unitsZ z2 q) :
 Calls Tryz.prog 73 #[(vv 3 (p : Int) n1 A1 l1.length c1 ⟨#[]⟩ B1 0 d1), (vv 3 (q : Int) n2 A2 l2.length c2 ⟨#[]⟩ B2 0 d2), .int .i64 k] w fun e w' => e = .returned (.bool true) ∧ Below w.heap.size w w' := by
 obtain ⟨u1, t1, e1, k1, hR1, hr1⟩ := xround (B1 := B1) (d1 := d1) I1 D1 k
 obtain ⟨u2, t2, e2, k2, hR2, hr2⟩ := xround (B1 := B2) (d1 := d2) I2 D2 k
 have hC1 : e1 = 0 → e2 = 0 → ∃ cc, decide (0 < cc) = false ∧ k1 = 3 ∧ k2 = 3 ∧ ∀ W' s A c l s' A' c' l' (Ix : IV W' s A c l u1) (Iy : IV W' s' A' c' l' u2), Calls Tryz.prog 48 #[vv 3 (t1 : Int) s A l.length c ⟨#[]⟩ none 0 0, vv 3 (t2 : Int) s' A' l'.length c' ⟨#[]⟩ none 0 0] W' (fun e w' => e = .returned (.tuple #[.int .i64 cc, .int .i64 0]) ∧ Below W'.heap.size W' w') := by
  intro h1 h2
  obtain ⟨hk1, -, -, E1, U1⟩ := hr1 h1
  obtain ⟨hk2, -, -, E2, U2⟩ := hr2 h2
  refine ⟨cmpZ (unitsZ u1 t1) (unitsZ u2 t2), decide_eq_false ?_, hk1, hk2, fun W' s A c l s' A' c' l' Ix Iy => xcmp (B1 := none) (B2 := none) (d1 := 0) (d2 := 0) Ix Iy E1 E2 rfl⟩
  have : cmpZ (unitsZ u1 t1) (unitsZ u2 t2) ≤ 0 := cmp_le.2 (by rw [U1, U2]; exact Int.mul_le_mul_of_nonneg_right (near_pow_mono hle) (Int.le_of_lt (ten_pos _)))
  omega
 clear hr1 hr2
 have hTT : (0 : Int) < 10 ^ 20 := ten_pos 20
 obtain ⟨f1, hf1⟩ : ∃ f, unitsZ z1 p / 10 ^ 20 = f := ⟨_, rfl⟩
 obtain ⟨f2, hf2⟩ : ∃ f, unitsZ z2 q / 10 ^ 20 = f := ⟨_, rfl⟩
 obtain ⟨g1, hg1⟩ : ∃ f, -((-unitsZ z1 p) / 10 ^ 20) = f := ⟨_, rfl⟩
 obtain ⟨g2, hg2⟩ : ∃ f, -((-unitsZ z2 q) / 10 ^ 20) = f := ⟨_, rfl⟩
 obtain ⟨h1, hh1⟩ : ∃ f, (if unitsZ z1 p < 0 then -((-unitsZ z1 p) / 10 ^ 20) else unitsZ z1 p / 10 ^ 20) = f := ⟨_, rfl⟩
 obtain ⟨h2, hh2⟩ : ∃ f, (if unitsZ z2 q < 0 then -((-unitsZ z2 q) / 10 ^ 20) else unitsZ z2 q / 10 ^ 20) = f := ⟨_, rfl⟩
 have hF1 := fun W' (Ix : IV W' n1 A1 c1 l1 z1) => xfloor (B1 := B1) (d1 := d1) Ix D1 hf1
 have hF2 := fun W' (Ix : IV W' n2 A2 c2 l2 z2) => xfloor (B1 := B2) (d1 := d2) Ix D2 hf2
 have hG1 := fun W' (Ix : IV W' n1 A1 c1 l1 z1) => xceil (B1 := B1) (d1 := d1) Ix D1 hg1
 have hG2 := fun W' (Ix : IV W' n2 A2 c2 l2 z2) => xceil (B1 := B2) (d1 := d2) Ix D2 hg2
 have hH1 := fun W' (Ix : IV W' n1 A1 c1 l1 z1) => xfix (B1 := B1) (d1 := d1) Ix D1 hh1
 have hH2 := fun W' (Ix : IV W' n2 A2 c2 l2 z2) => xfix (B1 := B2) (d1 := d2) Ix D2 hh2
 obtain ⟨cf, hcf⟩ : ∃ c, cmpZ f1 f2 = c := ⟨_, rfl⟩
 obtain ⟨cg, hcg⟩ : ∃ c, cmpZ g1 g2 = c := ⟨_, rfl⟩
 obtain ⟨ch, hch⟩ : ∃ c, cmpZ h1 h2 = c := ⟨_, rfl⟩
 have hXF := fun W' s A c l s' A' c' l' (Ix : IV W' s A c l f1) (Iy : IV W' s' A' c' l' f2) => rcmp_i s s' A A' c c' l l' f1 f2 W' Ix Iy
 have hXG := fun W' s A c l s' A' c' l' (Ix : IV W' s A c l g1) (Iy : IV W' s' A' c' l' g2) => rcmp_i s s' A A' c c' l l' g1 g2 W' Ix Iy
 have hXH := fun W' s A c l s' A' c' l' (Ix : IV W' s A c l h1) (Iy : IV W' s' A' c' l' h2) => rcmp_i s s' A A' c c' l l' h1 h2 W' Ix Iy
 rw [hcf] at hXF
 rw [hcg] at hXG
 rw [hch] at hXH
 have hbf : decide (0 < cf) = false := decide_eq_false (by have : cmpZ f1 f2 ≤ 0 := cmp_le.2 (by rw [← hf1, ← hf2]; exact floor_mono hTT hle); omega)
 have hbg : decide (0 < cg) = false := decide_eq_false (by have : cmpZ g1 g2 ≤ 0 := cmp_le.2 (by rw [← hg1, ← hg2]; exact ceil_mono hTT hle); omega)
 have hbh : decide (ch ≤ 0) = true := decide_eq_true (by have : cmpZ h1 h2 ≤ 0 := cmp_le.2 (by rw [← hh1, ← hh2]; exact fix_mono hTT hle); omega)
 clear hf1 hf2 hg1 hg2 hh1 hh2 hcf hcg hch hTT hle D1 D2
 obtain ⟨W, hW, hbW, K0, K1, hszW⟩ := box2 w #[.int .i64 3, .int .i64 (p : Int), .bool n1, .slice A1 l1.length c1, .string ⟨#[]⟩, .slice B1 0 d1] 27 #[.int .i64 3, .int .i64 (q : Int), .bool n2, .slice A2 l2.length c2, .string ⟨#[]⟩, .slice B2 0 d2] 27
 replace I1 := I1.on hbW
 replace I2 := I2.on hbW
 have Kka := K0
 have Kkb := K1
 have bw := hbW
 clear K0 K1 hbW
 replace hszW := Lib.hid hszW
 replace hC1 := Lib.hid hC1
 obtain ⟨ka_0, ka_1, ka_2, ka_3, ka_4, ka_5⟩ := cL6 Kka.h
 obtain ⟨kb_0, kb_1, kb_2, kb_3, kb_4, kb_5⟩ := cL6 Kkb.h
 have hcase : (e1 = 0 ∧ e2 = 0) ∨ ((e1 == 0) = true ∧ (e2 == 0) = false) ∨ (e1 == 0) = false := by
  by_cases h1' : e1 = 0
  · by_cases h2' : e2 = 0
    · exact .inl ⟨h1', h2'⟩
    · exact .inr (.inl ⟨beq_iff_eq.2 h1', beq_eq_false_iff_ne.2 h2'⟩)
  · exact .inr (.inr (beq_eq_false_iff_ne.2 h1'))
 rcases hcase with ⟨rfl, rfl⟩ | ⟨hb1, hb2⟩ | hb1
 case' inl =>
  obtain ⟨cc, hcc, rfl, rfl, hcmp⟩ := hC1.out rfl rfl
  clear hC1
  go_enter Tryz.func73, Tryz.ntmps73
  go_upto_region 7 with first
   | (go_at_call 48; have hmark := m8; refine (hcmp _ _ _ _ _ _ _ _ _ I7 I8).mono ?_; rintro e w9 ⟨rfl, b9⟩; have m9 := Lib.hid (rfl : (9 : Nat) = 9); replace Kka := Kka.on b9; replace Kkb := Kkb.on b9; replace Kv7 := Kv7.on b9; replace Kv8 := Kv8.on b9; replace I1 := I1.on b9; replace I2 := I2.on b9; replace I7 := I7.on b9; replace I8 := I8.on b9; replace bw := bw.trans (b9.mono bw.size); clear v7_0 v7_1 v7_2 v7_3 v7_4 v7_5 v8_0 v8_1 v8_2 v8_3 v8_4 v8_5; obtain ⟨ka_0, ka_1, ka_2, ka_3, ka_4, ka_5⟩ := cL6 Kka.h)
   | (go_at_call 49; have hmark := m7; refine (hR2 _ _ _ _ _ _ _ I2).mono ?_; rintro e w8 ⟨s8, A8', c8', l8', rfl, I8, b8⟩; have m8 := Lib.hid (rfl : (8 : Nat) = 8); replace Kka := Kka.on b8; replace Kkb := Kkb.on b8; replace Kv7 := Kv7.on b8; replace I1 := I1.on b8; replace I2 := I2.on b8; replace I7 := I7.on b8; replace bw := bw.trans (b8.mono bw.size); have a8 := al1 w8 (.cells #[.int .i64 3, .int .i64 (t2 : Int), .bool s8, .slice A8' l8'.length c8', .string ⟨#[]⟩, .slice none 0 0] 27); replace Kka := Kka.on a8; replace Kkb := Kkb.on a8; replace Kv7 := Kv7.on a8; replace I1 := I1.on a8; replace I2 := I2.on a8; replace I7 := I7.on a8; replace bw := bw.trans (a8.mono bw.size); replace I8 := I8.on a8; have Kv8 := blk_new w8 #[.int .i64 3, .int .i64 (t2 : Int), .bool s8, .slice A8' l8'.length c8', .string ⟨#[]⟩, .slice none 0 0] 27; clear kb_0 kb_1 kb_2 kb_3 kb_4 kb_5; obtain ⟨v7_0, v7_1, v7_2, v7_3, v7_4, v7_5⟩ := cL6 Kv7.h; obtain ⟨v8_0, v8_1, v8_2, v8_3, v8_4, v8_5⟩ := cL6 Kv8.h)
   | (go_at_call 49; refine (hR1 _ _ _ _ _ _ _ I1).mono ?_; rintro e w7 ⟨s7, A7', c7', l7', rfl, I7, b7⟩; have m7 := Lib.hid (rfl : (7 : Nat) = 7); replace Kka := Kka.on b7; replace Kkb := Kkb.on b7; replace I1 := I1.on b7; replace I2 := I2.on b7; replace bw := bw.trans (b7.mono bw.size); have lt7 := Lib.hid (blk_lt Kkb); have a7 := al1 w7 (.cells #[.int .i64 3, .int .i64 (t1 : Int), .bool s7, .slice A7' l7'.length c7', .string ⟨#[]⟩, .slice none 0 0] 27); replace Kka := Kka.on a7; replace Kkb := Kkb.on a7; replace I1 := I1.on a7; replace I2 := I2.on a7; replace bw := bw.trans (a7.mono bw.size); replace I7 := I7.on a7; have Kv7 := blk_new w7 #[.int .i64 3, .int .i64 (t1 : Int), .bool s7, .slice A7' l7'.length c7', .string ⟨#[]⟩, .slice none 0 0] 27; clear ka_0 ka_1 ka_2 ka_3 ka_4 ka_5 kb_0 kb_1 kb_2 kb_3 kb_4 kb_5; obtain ⟨kb_0, kb_1, kb_2, kb_3, kb_4, kb_5⟩ := cL6 Kkb.h)
 case' inr.inl =>
  clear hC1
  go_enter Tryz.func73, Tryz.ntmps73
  go_upto_region 7 with first
   | (go_at_call 49; have hmark := m7; refine (hR2 _ _ _ _ _ _ _ I2).mono ?_; rintro e w8 ⟨s8, A8', c8', l8', rfl, I8, b8⟩; have m8 := Lib.hid (rfl : (8 : Nat) = 8); replace Kka := Kka.on b8; replace Kkb := Kkb.on b8; replace Kv7 := Kv7.on b8; replace I1 := I1.on b8; replace I2 := I2.on b8; replace I7 := I7.on b8; replace bw := bw.trans (b8.mono bw.size); have a8 := al1 w8 (.cells #[.int .i64 k2, .int .i64 (t2 : Int), .bool s8, .slice A8' l8'.length c8', .string ⟨#[]⟩, .slice none 0 0] 27); replace Kka := Kka.on a8; replace Kkb := Kkb.on a8; replace Kv7 := Kv7.on a8; replace I1 := I1.on a8; replace I2 := I2.on a8; replace I7 := I7.on a8; replace bw := bw.trans (a8.mono bw.size); replace I8 := I8.on a8; have Kv8 := blk_new w8 #[.int .i64 k2, .int .i64 (t2 : Int), .bool s8, .slice A8' l8'.length c8', .string ⟨#[]⟩, .slice none 0 0] 27; clear kb_0 kb_1 kb_2 kb_3 kb_4 kb_5; obtain ⟨ka_0, ka_1, ka_2, ka_3, ka_4, ka_5⟩ := cL6 Kka.h)
   | (go_at_call 49; refine (hR1 _ _ _ _ _ _ _ I1).mono ?_; rintro e w7 ⟨s7, A7', c7', l7', rfl, I7, b7⟩; have m7 := Lib.hid (rfl : (7 : Nat) = 7); replace Kka := Kka.on b7; replace Kkb := Kkb.on b7; replace I1 := I1.on b7; replace I2 := I2.on b7; replace bw := bw.trans (b7.mono bw.size); have lt7 := Lib.hid (blk_lt Kkb); have a7 := al1 w7 (.cells #[.int .i64 k1, .int .i64 (t1 : Int), .bool s7, .slice A7' l7'.length c7', .string ⟨#[]⟩, .slice none 0 0] 27); replace Kka := Kka.on a7; replace Kkb := Kkb.on a7; replace I1 := I1.on a7; replace I2 := I2.on a7; replace bw := bw.trans (a7.mono bw.size); replace I7 := I7.on a7; have Kv7 := blk_new w7 #[.int .i64 k1, .int .i64 (t1 : Int), .bool s7, .slice A7' l7'.length c7', .string ⟨#[]⟩, .slice none 0 0] 27; clear ka_0 ka_1 ka_2 ka_3 ka_4 ka_5 kb_0 kb_1 kb_2 kb_3 kb_4 kb_5; obtain ⟨kb_0, kb_1, kb_2, kb_3, kb_4, kb_5⟩ := cL6 Kkb.h)
 case' inr.inr =>
  clear hC1
  go_enter Tryz.func73, Tryz.ntmps73
  go_upto_region 7 with first
   | (go_at_call 49; have hmark := m7; refine (hR2 _ _ _ _ _ _ _ I2).mono ?_; rintro e w8 ⟨s8, A8', c8', l8', rfl, I8, b8⟩; have m8 := Lib.hid (rfl : (8 : Nat) = 8); replace Kka := Kka.on b8; replace Kkb := Kkb.on b8; replace Kv7 := Kv7.on b8; replace I1 := I1.on b8; replace I2 := I2.on b8; replace I7 := I7.on b8; replace bw := bw.trans (b8.mono bw.size); have a8 := al1 w8 (.cells #[.int .i64 k2, .int .i64 (t2 : Int), .bool s8, .slice A8' l8'.length c8', .string ⟨#[]⟩, .slice none 0 0] 27); replace Kka := Kka.on a8; replace Kkb := Kkb.on a8; replace Kv7 := Kv7.on a8; replace I1 := I1.on a8; replace I2 := I2.on a8; replace I7 := I7.on a8; replace bw := bw.trans (a8.mono bw.size); replace I8 := I8.on a8; have Kv8 := blk_new w8 #[.int .i64 k2, .int .i64 (t2 : Int), .bool s8, .slice A8' l8'.length c8', .string ⟨#[]⟩, .slice none 0 0] 27; clear kb_0 kb_1 kb_2 kb_3 kb_4 kb_5; obtain ⟨ka_0, ka_1, ka_2, ka_3, ka_4, ka_5⟩ := cL6 Kka.h)
   | (go_at_call 49; refine (hR1 _ _ _ _ _ _ _ I1).mono ?_; rintro e w7 ⟨s7, A7', c7', l7', rfl, I7, b7⟩; have m7 := Lib.hid (rfl : (7 : Nat) = 7); replace Kka := Kka.on b7; replace Kkb := Kkb.on b7; replace I1 := I1.on b7; replace I2 := I2.on b7; replace bw := bw.trans (b7.mono bw.size); have lt7 := Lib.hid (blk_lt Kkb); have a7 := al1 w7 (.cells #[.int .i64 k1, .int .i64 (t1 : Int), .bool s7, .slice A7' l7'.length c7', .string ⟨#[]⟩, .slice none 0 0] 27); replace Kka := Kka.on a7; replace Kkb := Kkb.on a7; replace I1 := I1.on a7; replace I2 := I2.on a7; replace bw := bw.trans (a7.mono bw.size); replace I7 := I7.on a7; have Kv7 := blk_new w7 #[.int .i64 k1, .int .i64 (t1 : Int), .bool s7, .slice A7' l7'.length c7', .string ⟨#[]⟩, .slice none 0 0] 27; clear ka_0 ka_1 ka_2 ka_3 ka_4 ka_5 kb_0 kb_1 kb_2 kb_3 kb_4 kb_5; obtain ⟨kb_0, kb_1, kb_2, kb_3, kb_4, kb_5⟩ := cL6 Kkb.h)
 all_goals
  (clear hR1 hR2 I7 I8 Kv7 Kv8
   go_upto_region 12 with first
    | (go_at_call 52; have hmark := m22; refine (hG1 _ I1).mono ?_; rintro e w23 ⟨s23, A23', c23', l23', rfl, I23, b23⟩; have m23 := Lib.hid (rfl : (23 : Nat) = 23); replace Kka := Kka.on b23; replace Kkb := Kkb.on b23; replace Kx1 := Kx1.on b23; replace Kx2 := Kx2.on b23; replace I1 := I1.on b23; replace I2 := I2.on b23; replace I20 := I20.on b23; replace I21 := I21.on b23; replace bw := bw.trans (b23.mono bw.size); clear ka_0 ka_1 ka_2 ka_3 ka_4 ka_5; obtain ⟨x1_0, x1_1⟩ := cL2 Kx1.h; obtain ⟨x1f0, x1f1⟩ := fZ2 Kx1.h)
    | (go_at_call 47; have hmark := m21; refine (hXF _ _ _ _ _ _ _ _ _ I20 I21).mono ?_; rintro e w22 ⟨rfl, b22⟩; have m22 := Lib.hid (rfl : (22 : Nat) = 22); replace Kka := Kka.on b22; replace Kkb := Kkb.on b22; replace Kx1 := Kx1.on b22; replace Kx2 := Kx2.on b22; replace I1 := I1.on b22; replace I2 := I2.on b22; replace I20 := I20.on b22; replace I21 := I21.on b22; replace bw := bw.trans (b22.mono bw.size); clear x1_0 x1_1 x2_0 x2_1; obtain ⟨ka_0, ka_1, ka_2, ka_3, ka_4, ka_5⟩ := cL6 Kka.h)
    | (go_at_call 51; have hmark := m20; refine (hF2 _ I2).mono ?_; rintro e w21 ⟨s21, A21', c21', l21', rfl, I21, b21⟩; have m21 := Lib.hid (rfl : (21 : Nat) = 21); replace Kka := Kka.on b21; replace Kkb := Kkb.on b21; replace Kx1 := Kx1.on b21; replace I1 := I1.on b21; replace I2 := I2.on b21; replace I20 := I20.on b21; replace bw := bw.trans (b21.mono bw.size); have ly2 := Lib.hid (blk_lt Kx1); have a21 := al1 w21 (.cells #[.bool s21, .slice A21' l21'.length c21'] 24); replace Kka := Kka.on a21; replace Kkb := Kkb.on a21; replace Kx1 := Kx1.on a21; replace I1 := I1.on a21; replace I2 := I2.on a21; replace I20 := I20.on a21; replace bw := bw.trans (a21.mono bw.size); replace I21 := I21.on a21; have Kx2 := blk_new w21 #[.bool s21, .slice A21' l21'.length c21'] 24; clear kb_0 kb_1 kb_2 kb_3 kb_4 kb_5; obtain ⟨x1_0, x1_1⟩ := cL2 Kx1.h; obtain ⟨x2_0, x2_1⟩ := cL2 Kx2.h)
    | (go_at_call 51; have hmark := m8; refine (hF1 _ I1).mono ?_; rintro e w20 ⟨s20, A20', c20', l20', rfl, I20, b20⟩; have m20 := Lib.hid (rfl : (20 : Nat) = 20); replace Kka := Kka.on b20; replace Kkb := Kkb.on b20; replace I1 := I1.on b20; replace I2 := I2.on b20; replace bw := bw.trans (b20.mono bw.size); have ly1 := Lib.hid (blk_lt Kkb); have a20 := al1 w20 (.cells #[.bool s20, .slice A20' l20'.length c20'] 24); replace Kka := Kka.on a20; replace Kkb := Kkb.on a20; replace I1 := I1.on a20; replace I2 := I2.on a20; replace bw := bw.trans (a20.mono bw.size); replace I20 := I20.on a20; have Kx1 := blk_new w20 #[.bool s20, .slice A20' l20'.length c20'] 24; clear ka_0 ka_1 ka_2 ka_3 ka_4 ka_5; obtain ⟨kb_0, kb_1, kb_2, kb_3, kb_4, kb_5⟩ := cL6 Kkb.h)
   clear I20 I21 hF1 hF2 hXF
   obtain ⟨X23, hX23, KX23, NX23, OX23⟩ := storeI (s' := s23) (A' := A23') (n' := l23'.length) (c' := c23') Kx1
   rw [hX23]
   replace Kka := OX23.one Kka (by have := ly1.out; have := ly2.out; omega)
   replace Kkb := OX23.one Kkb (by have := ly1.out; have := ly2.out; omega)
   replace Kx2 := OX23.one Kx2 (by have := ly1.out; have := ly2.out; omega)
   replace Kx1 := KX23
   replace I1 := I1.nudge NX23
   replace I2 := I2.nudge NX23
   replace I23 := I23.nudge NX23
   replace bw := bw.trans (NX23.low.mono (by have := ly1.out; have := ly2.out; omega))
   clear hX23 KX23 NX23 OX23 b23 x1_0 x1_1 x1f0 x1f1
   obtain ⟨kb_0, kb_1, kb_2, kb_3, kb_4, kb_5⟩ := cL6 Kkb.h
   go_upto_region 13 with first
    | (go_at_call 52; have hmark := m23; refine (hG2 _ I2).mono ?_; rintro e w24 ⟨s24, A24', c24', l24', rfl, I24, b24⟩; have m24 := Lib.hid (rfl : (24 : Nat) = 24); replace Kka := Kka.on b24; replace Kkb := Kkb.on b24; replace Kx1 := Kx1.on b24; replace Kx2 := Kx2.on b24; replace I1 := I1.on b24; replace I2 := I2.on b24; replace I23 := I23.on b24; replace bw := bw.trans (b24.mono bw.size); clear kb_0 kb_1 kb_2 kb_3 kb_4 kb_5; obtain ⟨x2_0, x2_1⟩ := cL2 Kx2.h; obtain ⟨x2f0, x2f1⟩ := fZ2 Kx2.h)
   obtain ⟨X24, hX24, KX24, NX24, OX24⟩ := storeI (s' := s24) (A' := A24') (n' := l24'.length) (c' := c24') Kx2
   rw [hX24]
   replace Kka := OX24.one Kka (by have := ly1.out; have := ly2.out; omega)
   replace Kkb := OX24.one Kkb (by have := ly1.out; have := ly2.out; omega)
   replace Kx1 := OX24.one Kx1 (by have := ly1.out; have := ly2.out; omega)
   replace Kx2 := KX24
   replace I1 := I1.nudge NX24
   replace I2 := I2.nudge NX24
   replace I23 := I23.nudge NX24
   replace I24 := I24.nudge NX24
   replace bw := bw.trans (NX24.low.mono (by have := ly1.out; have := ly2.out; omega))
   clear hX24 KX24 NX24 OX24 b24 x2_0 x2_1 x2f0 x2f1
   obtain ⟨x1_0, x1_1⟩ := cL2 Kx1.h
   obtain ⟨x2_0, x2_1⟩ := cL2 Kx2.h
   go_upto_region 16 with first
    | (go_at_call 50; have hmark := m25; refine (hH1 _ I1).mono ?_; rintro e w26 ⟨s26, A26', c26', l26', rfl, I26, b26⟩; have m26 := Lib.hid (rfl : (26 : Nat) = 26); replace Kka := Kka.on b26; replace Kkb := Kkb.on b26; replace Kx1 := Kx1.on b26; replace Kx2 := Kx2.on b26; replace I1 := I1.on b26; replace I2 := I2.on b26; replace I23 := I23.on b26; replace I24 := I24.on b26; replace bw := bw.trans (b26.mono bw.size); clear ka_0 ka_1 ka_2 ka_3 ka_4 ka_5; obtain ⟨x1_0, x1_1⟩ := cL2 Kx1.h; obtain ⟨x1f0, x1f1⟩ := fZ2 Kx1.h)
    | (go_at_call 47; have hmark := m24; refine (hXG _ _ _ _ _ _ _ _ _ I23 I24).mono ?_; rintro e w25 ⟨rfl, b25⟩; have m25 := Lib.hid (rfl : (25 : Nat) = 25); replace Kka := Kka.on b25; replace Kkb := Kkb.on b25; replace Kx1 := Kx1.on b25; replace Kx2 := Kx2.on b25; replace I1 := I1.on b25; replace I2 := I2.on b25; replace I23 := I23.on b25; replace I24 := I24.on b25; replace bw := bw.trans (b25.mono bw.size); clear x1_0 x1_1 x2_0 x2_1; obtain ⟨ka_0, ka_1, ka_2, ka_3, ka_4, ka_5⟩ := cL6 Kka.h)
   clear I23 I24 hG1 hG2 hXG
   obtain ⟨X26, hX26, KX26, NX26, OX26⟩ := storeI (s' := s26) (A' := A26') (n' := l26'.length) (c' := c26') Kx1
   rw [hX26]
   replace Kka := OX26.one Kka (by have := ly1.out; have := ly2.out; omega)
   replace Kkb := OX26.one Kkb (by have := ly1.out; have := ly2.out; omega)
   replace Kx2 := OX26.one Kx2 (by have := ly1.out; have := ly2.out; omega)
   replace Kx1 := KX26
   replace I1 := I1.nudge NX26
   replace I2 := I2.nudge NX26
   replace I26 := I26.nudge NX26
   replace bw := bw.trans (NX26.low.mono (by have := ly1.out; have := ly2.out; omega))
   clear hX26 KX26 NX26 OX26 b26 x1_0 x1_1 x1f0 x1f1
   obtain ⟨kb_0, kb_1, kb_2, kb_3, kb_4, kb_5⟩ := cL6 Kkb.h
   go_upto_region 17 with first
    | (go_at_call 50; have hmark := m26; refine (hH2 _ I2).mono ?_; rintro e w27 ⟨s27, A27', c27', l27', rfl, I27, b27⟩; have m27 := Lib.hid (rfl : (27 : Nat) = 27); replace Kka := Kka.on b27; replace Kkb := Kkb.on b27; replace Kx1 := Kx1.on b27; replace Kx2 := Kx2.on b27; replace I1 := I1.on b27; replace I2 := I2.on b27; replace I26 := I26.on b27; replace bw := bw.trans (b27.mono bw.size); clear kb_0 kb_1 kb_2 kb_3 kb_4 kb_5; obtain ⟨x2_0, x2_1⟩ := cL2 Kx2.h; obtain ⟨x2f0, x2f1⟩ := fZ2 Kx2.h)
   obtain ⟨X27, hX27, KX27, NX27, OX27⟩ := storeI (s' := s27) (A' := A27') (n' := l27'.length) (c' := c27') Kx2
   rw [hX27]
   replace Kka := OX27.one Kka (by have := ly1.out; have := ly2.out; omega)
   replace Kkb := OX27.one Kkb (by have := ly1.out; have := ly2.out; omega)
   replace Kx1 := OX27.one Kx1 (by have := ly1.out; have := ly2.out; omega)
   replace Kx2 := KX27
   replace I1 := I1.nudge NX27
   replace I2 := I2.nudge NX27
   replace I26 := I26.nudge NX27
   replace I27 := I27.nudge NX27
   replace bw := bw.trans (NX27.low.mono (by have := ly1.out; have := ly2.out; omega))
   clear hX27 KX27 NX27 OX27 b27 x2_0 x2_1 x2f0 x2f1
   obtain ⟨x1_0, x1_1⟩ := cL2 Kx1.h
   obtain ⟨x2_0, x2_1⟩ := cL2 Kx2.h
   go_wp2_with first
    | (go_at_call 47; have hmark := m27; refine (hXH _ _ _ _ _ _ _ _ _ I26 I27).mono ?_; rintro e w28 ⟨rfl, b28⟩; have m28 := Lib.hid (rfl : (28 : Nat) = 28); replace Kka := Kka.on b28; replace Kkb := Kkb.on b28; replace Kx1 := Kx1.on b28; replace Kx2 := Kx2.on b28; replace I1 := I1.on b28; replace I2 := I2.on b28; replace I26 := I26.on b28; replace I27 := I27.on b28; replace bw := bw.trans (b28.mono bw.size); clear x1_0 x1_1 x2_0 x2_1; skip)
   go_ret
   exact ⟨rfl, bw⟩)
theorem DecOrder_no (a b c : VA) (k : Int) (w : World) (ha : a.At w) (hb : b.At w) (hc : c.At w) (hf : [a, b, c].all fmB = false) (hd0 : DigW w) (m : Int) (hm : w.cell? ⟨1, 0, none⟩ = some (.int .i64 m)) :
 Calls Tryz.prog 14 #[a.val, b.val, c.val, .int .i64 k] w fun e w' => e = .returned (.bool true) ∧ Below w.heap.size w w' := by
 obtain ⟨W, hW, hbW, K0, K1, K2, hszW⟩ := box3 w #[.int .i64 a.k, .int .i64 a.p, .bool a.s, .slice a.A a.l.length a.c, .string a.S, .slice a.B a.m a.d] 27 #[.int .i64 b.k, .int .i64 b.p, .bool b.s, .slice b.A b.l.length b.c, .string b.S, .slice b.B b.m b.d] 27 #[.int .i64 c.k, .int .i64 c.p, .bool c.s, .slice c.A c.l.length c.c, .string c.S, .slice c.B c.m c.d] 27
 have hs := sane_c W (hd0.on hbW) m ((hbW.cell (p := ⟨1, 0, none⟩) (World.block_lt_of_cell? w _ hm)).trans hm)
 have hl := fun w5 (h : Below W.heap.size W w5) => lawformed_c w5.heap.size [a, b, c] (w5.alloc (.cells #[.int .i64 a.k, .int .i64 a.p, .bool a.s, .slice a.A a.l.length a.c, .string a.S, .slice a.B a.m a.d, .int .i64 b.k, .int .i64 b.p, .bool b.s, .slice b.A b.l.length b.c, .string b.S, .slice b.B b.m b.d, .int .i64 c.k, .int .i64 c.p, .bool c.s, .slice c.A c.l.length c.c, .string c.S, .slice c.B c.m c.d] 27)) (by simp) (vals_three a b c _ _ ⟨World.alloc_heap_new w5 _⟩ (((ha.on hbW).on h).on (al1 w5 _)) (((hb.on hbW).on h).on (al1 w5 _)) (((hc.on hbW).on h).on (al1 w5 _))) (by simp)
 rw [hf] at hl
 clear hf hm hd0
 replace hszW := Lib.hid hszW
 obtain ⟨x0, x1, x2, x3, x4, x5⟩ := cL6 K0.h
 obtain ⟨y0, y1, y2, y3, y4, y5⟩ := cL6 K1.h
 obtain ⟨z0, z1, z2, z3, z4, z5⟩ := cL6 K2.h
 go_enter Tryz.func14, Tryz.ntmps14
 go_wp2_with first
  | (go_at_call 28; have hmark := b5; refine (hl _ b5).mono ?_; rintro e w6 ⟨rfl, b6⟩)
  | (go_at_call 16; refine hs.mono ?_; rintro e w5 ⟨rfl, b5⟩; clear x0 x1 x2 x3 x4 x5 y0 y1 y2 y3 y4 y5 z0 z1 z2 z3 z4 z5; obtain ⟨x0, x1, x2, x3, x4, x5⟩ := cL6 (K0.on b5).h; obtain ⟨y0, y1, y2, y3, y4, y5⟩ := cL6 (K1.on b5).h; obtain ⟨z0, z1, z2, z3, z4, z5⟩ := cL6 (K2.on b5).h)
 go_ret
 have a1 := al1 w5 (.cells #[.int .i64 a.k, .int .i64 a.p, .bool a.s, .slice a.A a.l.length a.c, .string a.S, .slice a.B a.m a.d, .int .i64 b.k, .int .i64 b.p, .bool b.s, .slice b.A b.l.length b.c, .string b.S, .slice b.B b.m b.d, .int .i64 c.k, .int .i64 c.p, .bool c.s, .slice c.A c.l.length c.c, .string c.S, .slice c.B c.m c.d] 27)
 exact ⟨rfl, hbW.trans ((b5.trans ((a1.trans (b6.mono a1.size)).mono b5.size)).mono hbW.size)⟩
set_option maxHeartbeats 32000000 in
theorem order_z (n1 n2 n3 : Bool) (A1 A2 A3 : Option Addr) (c1 c2 c3 : Nat) (l1 l2 l3 : List Nat) (z1 z2 z3 : Int) (p q r : Nat) (B1 B2 B3 : Option Addr) (d1 d2 d3 : Nat) (k : Int) (w : World) (I1 : IV w n1 A1 c1 l1 z1) (I2 : IV w n2 A2 c2 l2 z2) (I3 : IV w n3 A3 c3 l3 z3) (D1 : IsD z1 p) (D2 : IsD z2 q) (D3 : IsD z3 r) (hfm : [(VA.mk 3 (p : Int) n1 A1 c1 l1 ⟨#[]⟩ B1 0 d1), (VA.mk 3 (q : Int) n2 A2 c2 l2 ⟨#[]⟩ B2 0 d2), (VA.mk 3 (r : Int) n3 A3 c3 l3 ⟨#[]⟩ B3 0 d3)].all fmB = true) (hd0 : DigW w) (m : Int) (hm : w.cell? ⟨1, 0, none⟩ = some (.int .i64 m)) :
 Calls Tryz.prog 14 #[(vv 3 (p : Int) n1 A1 l1.length c1 ⟨#[]⟩ B1 0 d1), (vv 3 (q : Int) n2 A2 l2.length c2 ⟨#[]⟩ B2 0 d2), (vv 3 (r : Int) n3 A3 l3.length c3 ⟨#[]⟩ B3 0 d3), .int .i64 k] w fun e w' => e = .returned (.bool true) ∧ Below w.heap.size w w' := by
 obtain ⟨xx, hxx⟩ : ∃ c, cmpZ (unitsZ z1 p) (unitsZ z2 q) = c := ⟨_, rfl⟩
 obtain ⟨yy, hyy⟩ : ∃ c, cmpZ (unitsZ z2 q) (unitsZ z1 p) = c := ⟨_, rfl⟩
 obtain ⟨zz, hzz⟩ : ∃ c, cmpZ (unitsZ z2 q) (unitsZ z3 r) = c := ⟨_, rfl⟩
 obtain ⟨ww, hww⟩ : ∃ c, cmpZ (unitsZ z1 p) (unitsZ z3 r) = c := ⟨_, rfl⟩
 have hc1 := fun W' (Ix : IV W' n1 A1 c1 l1 z1) (Iy : IV W' n2 A2 c2 l2 z2) => xcmp (B1 := B1) (B2 := B2) (d1 := d1) (d2 := d2) Ix Iy D1 D2 hxx
 have hc2 := fun W' (Ix : IV W' n2 A2 c2 l2 z2) (Iy : IV W' n1 A1 c1 l1 z1) => xcmp (B1 := B2) (B2 := B1) (d1 := d2) (d2 := d1) Ix Iy D2 D1 hyy
 have hc3 := fun W' (Ix : IV W' n2 A2 c2 l2 z2) (Iy : IV W' n3 A3 c3 l3 z3) => xcmp (B1 := B2) (B2 := B3) (d1 := d2) (d2 := d3) Ix Iy D2 D3 hzz
 have hc4 := fun W' (Ix : IV W' n1 A1 c1 l1 z1) (Iy : IV W' n3 A3 c3 l3 z3) => xcmp (B1 := B1) (B2 := B3) (d1 := d1) (d2 := d3) Ix Iy D1 D3 hww
 have hrg := cmp_range (unitsZ z1 p) (unitsZ z2 q)
 rw [hxx] at hrg
 have hng : IntKind.i64.wrap (-yy) = xx := by
  have h := cmp_anti (unitsZ z1 p) (unitsZ z2 q)
  rw [hxx, hyy] at h
  rw [IntKind.wrap_i64]
  omega
 have hlo : decide (xx < -1) = false := decide_eq_false (by omega)
 have hhi : decide (1 < xx) = false := decide_eq_false (by omega)
 have hsm := fun W' (Ix : IV W' n1 A1 c1 l1 z1) (Iy : IV W' n2 A2 c2 l2 z2) => same_c n1 n2 A1 A2 c1 c2 l1 l2 z1 z2 3 (p : Int) 3 (q : Int) B1 B2 d1 d2 W' Ix Iy
 obtain ⟨bs, hbs⟩ : ∃ b, (decide ((3 : Int) = 3) && decide ((p : Int) = (q : Int)) && decide (z1 = z2)) = b := ⟨_, rfl⟩
 rw [hbs] at hsm
 have hxb : (xx == 0) = bs := by
  rw [← hbs, ← hxx]
  by_cases h : unitsZ z1 p = unitsZ z2 q
  · obtain ⟨e1, e2⟩ := units_inj D1.lo D1.hi D1.ten D2.lo D2.hi D2.ten h
    rw [beq_iff_eq.2 (cmp_zero.2 h), e1, e2, decide_eq_true rfl, decide_eq_true rfl, decide_eq_true rfl]
    rfl
  · rw [beq_eq_false_iff_ne.2 (fun h' => h (cmp_zero.1 h'))]
    symm
    rw [Bool.eq_false_iff]
    intro h'
    simp only [Bool.and_eq_true, decide_eq_true_eq] at h'
    exact h (by rw [h'.2, show p = q by omega])
 have hcase : (decide (xx ≤ 0) = false ∧ decide (0 < xx) = true) ∨ (decide (xx ≤ 0) = true ∧ decide (0 < xx) = false ∧ unitsZ z1 p ≤ unitsZ z2 q) ∧ ((decide (zz ≤ 0) = true ∧ decide (0 < ww) = false) ∨ decide (zz ≤ 0) = false) := by
  by_cases h : xx ≤ 0
  · have hle := cmp_le.1 (hxx ▸ h)
    refine .inr ⟨⟨decide_eq_true h, decide_eq_false (by omega), hle⟩, ?_⟩
    by_cases h2 : zz ≤ 0
    · have hle2 := cmp_le.1 (hzz ▸ h2)
      have h3 : cmpZ (unitsZ z1 p) (unitsZ z3 r) ≤ 0 := cmp_le.2 (Int.le_trans hle hle2)
      rw [hww] at h3
      exact .inl ⟨decide_eq_true h2, decide_eq_false (by omega)⟩
    · exact .inr (decide_eq_false h2)
  · exact .inl ⟨decide_eq_false h, decide_eq_true (by omega)⟩
 have hKe := fun (hle : unitsZ z1 p ≤ unitsZ z2 q) W' (Ix : IV W' n1 A1 c1 l1 z1) (Iy : IV W' n2 A2 c2 l2 z2) (Iz : IV W' n3 A3 c3 l3 z3) => keeps_c n1 n2 n3 A1 A2 A3 c1 c2 c3 l1 l2 l3 z1 z2 z3 p q r B1 B2 B3 d1 d2 d3 W' Ix Iy Iz D1 D2 D3 hle
 have hKt := fun (hle : unitsZ z1 p ≤ unitsZ z2 q) W' (Ix : IV W' n1 A1 c1 l1 z1) (Iy : IV W' n2 A2 c2 l2 z2) => kept_c n1 n2 A1 A2 c1 c2 l1 l2 z1 z2 p q B1 B2 d1 d2 k W' Ix Iy D1 D2 hle
 clear hxx hyy hzz hww hrg hbs
 obtain ⟨W, hW, hbW, K0, K1, K2, hszW⟩ := box3 w #[.int .i64 3, .int .i64 (p : Int), .bool n1, .slice A1 l1.length c1, .string ⟨#[]⟩, .slice B1 0 d1] 27 #[.int .i64 3, .int .i64 (q : Int), .bool n2, .slice A2 l2.length c2, .string ⟨#[]⟩, .slice B2 0 d2] 27 #[.int .i64 3, .int .i64 (r : Int), .bool n3, .slice A3 l3.length c3, .string ⟨#[]⟩, .slice B3 0 d3] 27
 have hs := sane_c W (hd0.on hbW) m ((hbW.cell (p := ⟨1, 0, none⟩) (World.block_lt_of_cell? w _ hm)).trans hm)
 have hl : ∀ w5, IV w5 n1 A1 c1 l1 z1 → IV w5 n2 A2 c2 l2 z2 → IV w5 n3 A3 c3 l3 z3 → Calls Tryz.prog 28 #[.slice (some ⟨w5.heap.size, 0, none⟩) 3 3] (w5.alloc (.cells #[.int .i64 3, .int .i64 (p : Int), .bool n1, .slice A1 l1.length c1, .string ⟨#[]⟩, .slice B1 0 d1, .int .i64 3, .int .i64 (q : Int), .bool n2, .slice A2 l2.length c2, .string ⟨#[]⟩, .slice B2 0 d2, .int .i64 3, .int .i64 (r : Int), .bool n3, .slice A3 l3.length c3, .string ⟨#[]⟩, .slice B3 0 d3] 27)) (fun e w' => e = .returned (.bool true) ∧ Below (w5.alloc (.cells #[.int .i64 3, .int .i64 (p : Int), .bool n1, .slice A1 l1.length c1, .string ⟨#[]⟩, .slice B1 0 d1, .int .i64 3, .int .i64 (q : Int), .bool n2, .slice A2 l2.length c2, .string ⟨#[]⟩, .slice B2 0 d2, .int .i64 3, .int .i64 (r : Int), .bool n3, .slice A3 l3.length c3, .string ⟨#[]⟩, .slice B3 0 d3] 27)).heap.size (w5.alloc (.cells #[.int .i64 3, .int .i64 (p : Int), .bool n1, .slice A1 l1.length c1, .string ⟨#[]⟩, .slice B1 0 d1, .int .i64 3, .int .i64 (q : Int), .bool n2, .slice A2 l2.length c2, .string ⟨#[]⟩, .slice B2 0 d2, .int .i64 3, .int .i64 (r : Int), .bool n3, .slice A3 l3.length c3, .string ⟨#[]⟩, .slice B3 0 d3] 27)) w') := fun w5 I1 I2 I3 => by
  have h := lawformed_c w5.heap.size [(VA.mk 3 (p : Int) n1 A1 c1 l1 ⟨#[]⟩ B1 0 d1), (VA.mk 3 (q : Int) n2 A2 c2 l2 ⟨#[]⟩ B2 0 d2), (VA.mk 3 (r : Int) n3 A3 c3 l3 ⟨#[]⟩ B3 0 d3)] (w5.alloc (.cells #[.int .i64 3, .int .i64 (p : Int), .bool n1, .slice A1 l1.length c1, .string ⟨#[]⟩, .slice B1 0 d1, .int .i64 3, .int .i64 (q : Int), .bool n2, .slice A2 l2.length c2, .string ⟨#[]⟩, .slice B2 0 d2, .int .i64 3, .int .i64 (r : Int), .bool n3, .slice A3 l3.length c3, .string ⟨#[]⟩, .slice B3 0 d3] 27)) (by simp) (vals_three (VA.mk 3 (p : Int) n1 A1 c1 l1 ⟨#[]⟩ B1 0 d1) (VA.mk 3 (q : Int) n2 A2 c2 l2 ⟨#[]⟩ B2 0 d2) (VA.mk 3 (r : Int) n3 A3 c3 l3 ⟨#[]⟩ B3 0 d3) _ _ ⟨World.alloc_heap_new w5 _⟩ ⟨(I1.on (al1 w5 _)).rd, I1.cap⟩ ⟨(I2.on (al1 w5 _)).rd, I2.cap⟩ ⟨(I3.on (al1 w5 _)).rd, I3.cap⟩) (by simp)
  rw [hfm] at h
  exact h
 replace I1 := I1.on hbW
 replace I2 := I2.on hbW
 replace I3 := I3.on hbW
 have Kka := K0
 have Kkb := K1
 have Kkc := K2
 have bw := hbW
 clear hm hd0 K0 K1 K2 hbW hfm D1 D2 D3
 replace hszW := Lib.hid hszW
 obtain ⟨ka_0, ka_1, ka_2, ka_3, ka_4, ka_5⟩ := cL6 Kka.h
 obtain ⟨kb_0, kb_1, kb_2, kb_3, kb_4, kb_5⟩ := cL6 Kkb.h
 obtain ⟨kc_0, kc_1, kc_2, kc_3, kc_4, kc_5⟩ := cL6 Kkc.h
 rcases hcase with ⟨g1, g2⟩ | ⟨⟨g1, g2, hle⟩, ⟨g3, g4⟩ | g3⟩
 case' inl => clear hKe hKt
 case' inr.inl =>
  replace hKe := hKe hle
  replace hKt := hKt hle
  clear hle
 case' inr.inr =>
  replace hKe := hKe hle
  replace hKt := hKt hle
  clear hle
 all_goals
  (go_enter Tryz.func14, Tryz.ntmps14
   go_wp2_with first
    | (go_at_call 73; have hmark := m12; refine (hKt _ I1 I2).mono ?_; rintro e w13 ⟨rfl, b13⟩; have m13 := Lib.hid (rfl : (13 : Nat) = 13); replace Kka := Kka.on b13; replace Kkb := Kkb.on b13; replace Kkc := Kkc.on b13; replace I1 := I1.on b13; replace I2 := I2.on b13; replace I3 := I3.on b13; replace bw := bw.trans (b13.mono bw.size); clear ka_0 ka_1 ka_2 ka_3 ka_4 ka_5 kb_0 kb_1 kb_2 kb_3 kb_4 kb_5; skip)
    | (go_at_call 72; have hmark := m11; refine (hKe _ I1 I2 I3).mono ?_; rintro e w12 ⟨rfl, b12⟩; have m12 := Lib.hid (rfl : (12 : Nat) = 12); replace Kka := Kka.on b12; replace Kkb := Kkb.on b12; replace Kkc := Kkc.on b12; replace I1 := I1.on b12; replace I2 := I2.on b12; replace I3 := I3.on b12; replace bw := bw.trans (b12.mono bw.size); clear ka_0 ka_1 ka_2 ka_3 ka_4 ka_5 kb_0 kb_1 kb_2 kb_3 kb_4 kb_5 kc_0 kc_1 kc_2 kc_3 kc_4 kc_5; obtain ⟨ka_0, ka_1, ka_2, ka_3, ka_4, ka_5⟩ := cL6 Kka.h; obtain ⟨kb_0, kb_1, kb_2, kb_3, kb_4, kb_5⟩ := cL6 Kkb.h)
    | (go_at_call 27; have hmark := m10; refine (hsm _ I1 I2).mono ?_; rintro e w11 ⟨rfl, b11⟩; have m11 := Lib.hid (rfl : (11 : Nat) = 11); replace Kka := Kka.on b11; replace Kkb := Kkb.on b11; replace Kkc := Kkc.on b11; replace I1 := I1.on b11; replace I2 := I2.on b11; replace I3 := I3.on b11; replace bw := bw.trans (b11.mono bw.size); clear ka_0 ka_1 ka_2 ka_3 ka_4 ka_5 kb_0 kb_1 kb_2 kb_3 kb_4 kb_5; obtain ⟨ka_0, ka_1, ka_2, ka_3, ka_4, ka_5⟩ := cL6 Kka.h; obtain ⟨kb_0, kb_1, kb_2, kb_3, kb_4, kb_5⟩ := cL6 Kkb.h; obtain ⟨kc_0, kc_1, kc_2, kc_3, kc_4, kc_5⟩ := cL6 Kkc.h)
    | (go_at_call 48; have hmark := m9; refine (hc4 _ I1 I3).mono ?_; rintro e w10 ⟨rfl, b10⟩; have m10 := Lib.hid (rfl : (10 : Nat) = 10); replace Kka := Kka.on b10; replace Kkb := Kkb.on b10; replace Kkc := Kkc.on b10; replace I1 := I1.on b10; replace I2 := I2.on b10; replace I3 := I3.on b10; replace bw := bw.trans (b10.mono bw.size); clear ka_0 ka_1 ka_2 ka_3 ka_4 ka_5 kc_0 kc_1 kc_2 kc_3 kc_4 kc_5; obtain ⟨ka_0, ka_1, ka_2, ka_3, ka_4, ka_5⟩ := cL6 Kka.h; obtain ⟨kb_0, kb_1, kb_2, kb_3, kb_4, kb_5⟩ := cL6 Kkb.h)
    | (go_at_call 48; have hmark := m8; refine (hc3 _ I2 I3).mono ?_; rintro e w9 ⟨rfl, b9⟩; have m9 := Lib.hid (rfl : (9 : Nat) = 9); replace Kka := Kka.on b9; replace Kkb := Kkb.on b9; replace Kkc := Kkc.on b9; replace I1 := I1.on b9; replace I2 := I2.on b9; replace I3 := I3.on b9; replace bw := bw.trans (b9.mono bw.size); clear kb_0 kb_1 kb_2 kb_3 kb_4 kb_5 kc_0 kc_1 kc_2 kc_3 kc_4 kc_5; obtain ⟨ka_0, ka_1, ka_2, ka_3, ka_4, ka_5⟩ := cL6 Kka.h; obtain ⟨kc_0, kc_1, kc_2, kc_3, kc_4, kc_5⟩ := cL6 Kkc.h)
    | (go_at_call 48; have hmark := m7; refine (hc2 _ I2 I1).mono ?_; rintro e w8 ⟨rfl, b8⟩; have m8 := Lib.hid (rfl : (8 : Nat) = 8); replace Kka := Kka.on b8; replace Kkb := Kkb.on b8; replace Kkc := Kkc.on b8; replace I1 := I1.on b8; replace I2 := I2.on b8; replace I3 := I3.on b8; replace bw := bw.trans (b8.mono bw.size); clear kb_0 kb_1 kb_2 kb_3 kb_4 kb_5 ka_0 ka_1 ka_2 ka_3 ka_4 ka_5; obtain ⟨kb_0, kb_1, kb_2, kb_3, kb_4, kb_5⟩ := cL6 Kkb.h; obtain ⟨kc_0, kc_1, kc_2, kc_3, kc_4, kc_5⟩ := cL6 Kkc.h)
    | (go_at_call 48; have hmark := m6; refine (hc1 _ I1 I2).mono ?_; rintro e w7 ⟨rfl, b7⟩; have m7 := Lib.hid (rfl : (7 : Nat) = 7); replace Kka := Kka.on b7; replace Kkb := Kkb.on b7; replace Kkc := Kkc.on b7; replace I1 := I1.on b7; replace I2 := I2.on b7; replace I3 := I3.on b7; replace bw := bw.trans (b7.mono bw.size); clear ka_0 ka_1 ka_2 ka_3 ka_4 ka_5 kb_0 kb_1 kb_2 kb_3 kb_4 kb_5; obtain ⟨kb_0, kb_1, kb_2, kb_3, kb_4, kb_5⟩ := cL6 Kkb.h; obtain ⟨ka_0, ka_1, ka_2, ka_3, ka_4, ka_5⟩ := cL6 Kka.h)
    | (go_at_call 28; have hmark := m5; refine (hl _ I1 I2 I3).mono ?_; rintro e w6 ⟨rfl, b6⟩; have m6 := Lib.hid (rfl : (6 : Nat) = 6); have a6 := (al1 w5 (.cells #[.int .i64 3, .int .i64 (p : Int), .bool n1, .slice A1 l1.length c1, .string ⟨#[]⟩, .slice B1 0 d1, .int .i64 3, .int .i64 (q : Int), .bool n2, .slice A2 l2.length c2, .string ⟨#[]⟩, .slice B2 0 d2, .int .i64 3, .int .i64 (r : Int), .bool n3, .slice A3 l3.length c3, .string ⟨#[]⟩, .slice B3 0 d3] 27)).trans (b6.mono (al1 w5 (.cells #[.int .i64 3, .int .i64 (p : Int), .bool n1, .slice A1 l1.length c1, .string ⟨#[]⟩, .slice B1 0 d1, .int .i64 3, .int .i64 (q : Int), .bool n2, .slice A2 l2.length c2, .string ⟨#[]⟩, .slice B2 0 d2, .int .i64 3, .int .i64 (r : Int), .bool n3, .slice A3 l3.length c3, .string ⟨#[]⟩, .slice B3 0 d3] 27)).size); replace Kka := Kka.on a6; replace Kkb := Kkb.on a6; replace Kkc := Kkc.on a6; replace I1 := I1.on a6; replace I2 := I2.on a6; replace I3 := I3.on a6; replace bw := bw.trans (a6.mono bw.size); clear ka_0 ka_1 ka_2 ka_3 ka_4 ka_5 kb_0 kb_1 kb_2 kb_3 kb_4 kb_5 kc_0 kc_1 kc_2 kc_3 kc_4 kc_5; obtain ⟨ka_0, ka_1, ka_2, ka_3, ka_4, ka_5⟩ := cL6 Kka.h; obtain ⟨kb_0, kb_1, kb_2, kb_3, kb_4, kb_5⟩ := cL6 Kkb.h)
    | (go_at_call 16; refine hs.mono ?_; rintro e w5 ⟨rfl, b5⟩; have m5 := Lib.hid (rfl : (5 : Nat) = 5); replace Kka := Kka.on b5; replace Kkb := Kkb.on b5; replace Kkc := Kkc.on b5; replace I1 := I1.on b5; replace I2 := I2.on b5; replace I3 := I3.on b5; replace bw := bw.trans (b5.mono bw.size); clear ka_0 ka_1 ka_2 ka_3 ka_4 ka_5 kb_0 kb_1 kb_2 kb_3 kb_4 kb_5 kc_0 kc_1 kc_2 kc_3 kc_4 kc_5; obtain ⟨ka_0, ka_1, ka_2, ka_3, ka_4, ka_5⟩ := cL6 Kka.h; obtain ⟨kb_0, kb_1, kb_2, kb_3, kb_4, kb_5⟩ := cL6 Kkb.h; obtain ⟨kc_0, kc_1, kc_2, kc_3, kc_4, kc_5⟩ := cL6 Kkc.h)
   go_ret
   exact ⟨rfl, bw⟩)
theorem DecOrder_calls (a b c : VA) (k : Int) (w : World) (ha : a.At w) (hb : b.At w) (hc : c.At w) (hd0 : DigW w) (m : Int) (hm : w.cell? ⟨1, 0, none⟩ = some (.int .i64 m)) :
 Calls Tryz.prog 14 #[a.val, b.val, c.val, .int .i64 k] w fun e w' => e = .returned (.bool true) ∧ Below w.heap.size w w' := by
 cases hf : [a, b, c].all fmB
 · exact DecOrder_no a b c k w ha hb hc hf hd0 m hm
 · have h3 := hf
   simp only [List.all_cons, List.all_nil, Bool.and_true, Bool.and_eq_true, fmB] at h3
   obtain ⟨⟨-, oa⟩, ⟨-, ob⟩, -, oc⟩ := h3
   obtain ⟨p, n1, A1, c1, l1, B1, d1, e1, i1, D1, -, -⟩ := VA.destruct ha.rd.words oa
   obtain ⟨q, n2, A2, c2, l2, B2, d2, e2, i2, D2, -, -⟩ := VA.destruct hb.rd.words ob
   obtain ⟨r, n3, A3, c3, l3, B3, d3, e3, i3, D3, -, -⟩ := VA.destruct hc.rd.words oc
   generalize a.z = za at *
   generalize b.z = zb at *
   generalize c.z = zc at *
   subst e1 e2 e3
   exact order_z n1 n2 n3 A1 A2 A3 c1 c2 c3 l1 l2 l3 za zb zc p q r B1 B2 B3 d1 d2 d3 k w ⟨ha.rd, ha.cap, i1⟩ ⟨hb.rd, hb.cap, i2⟩ ⟨hc.rd, hc.cap, i3⟩ D1 D2 D3 hf hd0 m hm
end Dc
end Go.Proofs.YtjghnghceeijeaaGreatDoor
