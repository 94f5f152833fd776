/-
  Contracts of the walks below.
-/
import Derived.Test.YtjghnghceeijeaaGreatDoorDb32
import Derived.Test.YtjghnghceeijeaaGreatDoorDt3
set_option maxRecDepth 100000
set_option maxHeartbeats 4000000
set_option linter.unusedVariables false
set_option linter.unusedSimpArgs false
namespace Go.Proofs.YtjghnghceeijeaaGreatDoor
namespace Dc
open Go.RowKit Go.Shelf Go.BigFrame Go.Proofs.YtjghnghceeijeaaGreatDoor.Nm
attribute [local go_sem] Oper.semAt_some
theorem cmp_no {a b : VA} (h : (a.ok && b.ok) = false) : cmpX a b = (0, 2) := by unfold cmpX; rw [if_neg (by rw [h]; decide)]
theorem cmp_ok {a b : VA} (h : (a.ok && b.ok) = true) : cmpX a b = (cmpZ a.u b.u, 0) := by unfold cmpX; rw [if_pos h]
set_option maxHeartbeats 8000000 in
theorem DecTells_calls (a b : VA) (n1 : Bool) (A1 : Option Addr) (c1 : Nat) (l1 : List Nat) (k : Int) (w : World) (ha0 : a.At w) (hb0 : b.At w) (h1 : Rd w A1 l1) (hc1 : l1.length ≤ c1) (hd0 : DigW w) (m : Int) (hm : w.cell? ⟨1, 0, none⟩ = some (.int .i64 m)) :
 Calls Tryz.prog 11 #[a.val, b.val, iv n1 A1 l1.length c1, .int .i64 k] w fun e w' => e = .returned (.bool true) ∧ Below w.heap.size w w' := by
 obtain ⟨W, hW, hbW, K0, K1, K2, hszW⟩ := box3 w #[.int .i64 a.k, .int .i64 a.p, .bool a.s, .slice a.A a.l.length a.c, .string a.S, .slice a.B a.m a.d] 27 #[.int .i64 b.k, .int .i64 b.p, .bool b.s, .slice b.A b.l.length b.c, .string b.S, .slice b.B b.m b.d] 27 #[.bool n1, .slice A1 l1.length c1] 24
 have hs := sane_c W (hd0.on hbW) m ((hbW.cell (p := ⟨1, 0, none⟩) (World.block_lt_of_cell? w _ hm)).trans hm)
 have hl := fun w5 (ha : a.At w5) (hb : b.At w5) => (light_c w5.heap.size [a, b] (w5.alloc (.cells #[.int .i64 a.k, .int .i64 a.p, .bool a.s, .slice a.A a.l.length a.c, .string a.S, .slice a.B a.m a.d, .int .i64 b.k, .int .i64 b.p, .bool b.s, .slice b.A b.l.length b.c, .string b.S, .slice b.B b.m b.d] 27)) (vals_two a b _ _ ⟨World.alloc_heap_new w5 _⟩ (ha.on (al1 w5 _)) (hb.on (al1 w5 _))) (by simp)).mono (fun e w6 (hh : e = _ ∧ w6 = _) => (⟨hh.1, by rw [hh.2]; exact Below.refl _ _⟩ : e = .returned (.bool ([a, b].all lightB)) ∧ Below (w5.alloc (.cells #[.int .i64 a.k, .int .i64 a.p, .bool a.s, .slice a.A a.l.length a.c, .string a.S, .slice a.B a.m a.d, .int .i64 b.k, .int .i64 b.p, .bool b.s, .slice b.A b.l.length b.c, .string b.S, .slice b.B b.m b.d] 27)).heap.size (w5.alloc (.cells #[.int .i64 a.k, .int .i64 a.p, .bool a.s, .slice a.A a.l.length a.c, .string a.S, .slice a.B a.m a.d, .int .i64 b.k, .int .i64 b.p, .bool b.s, .slice b.A b.l.length b.c, .string b.S, .slice b.B b.m b.d] 27)) w6))
 have hf : ∀ w5 (hR : Rd w5 A1 l1), Calls Tryz.prog 58 #[.int .i64 310, .slice (some ⟨w5.heap.size, 0, none⟩) 1 1] (w5.alloc (.cells #[.bool n1, .slice A1 l1.length c1] 24)) (fun e w' => e = .returned (.bool (decide (l1.length ≤ 310))) ∧ w5.alloc (.cells #[.bool n1, .slice A1 l1.length c1] 24) = w') := fun w5 hR => by
  have h := few_c 310 w5.heap.size [⟨n1, A1, c1, l1⟩] (w5.alloc (.cells #[.bool n1, .slice A1 l1.length c1] 24)) (args_one w5 n1 A1 c1 l1 hR hc1) (by simp)
  simp only [List.all_cons, List.all_nil, Bool.and_true] at h
  exact h
 have hck := fun W' (ha : a.At W') => check_c a W' ha
 have hia := fun W' (ha : a.At W') => is_c a W' ha
 have hib := fun W' (hb : b.At W') => is_c b W' hb
 have hmk := fun W' (hR : Rd W' A1 l1) => DMake_calls n1 A1 c1 l1 k W' hR hc1
 have hcp := fun W' (ha : a.At W') (hb : b.At W') => DCompare_calls a b W' ha hb
 have hng := fun W' (ha : a.At W') => DNeg_calls a W' ha
 have hrm := fun W' (hR : Rd W' A1 l1) => RMake_i n1 A1 c1 l1 k W' hR hc1
 have hrn := fun W' (ha : a.At W') => RNeg_calls a W' ha
 have hrc := fun (h1 : a.ok = true) (h2 : b.ok = true) W' (ha : a.At W') (hb : b.At W') => RCompare_calls a b W' ha hb h1 h2
 obtain ⟨x, hx⟩ : ∃ x, makeX n1 l1 k = x := ⟨_, rfl⟩
 rw [hx] at hmk hrm
 obtain ⟨y, hy⟩ : ∃ y, negX a = y := ⟨_, rfl⟩
 rw [hy] at hng hrn
 obtain ⟨lb, hlb⟩ : ∃ r, [a, b].all lightB = r := ⟨_, rfl⟩
 rw [hlb] at hl
 obtain ⟨fb, hfb⟩ : ∃ r, decide (l1.length ≤ 310) = r := ⟨_, rfl⟩
 simp only [hfb] at hf
 have ha := ha0.on hbW
 have hb := hb0.on hbW
 have hR := h1.on hbW
 have KA := K0
 have KB := K1
 have KN := K2
 have bw := hbW
 clear hx hy hlb hfb hm hd0 ha0 hb0 h1 K0 K1 K2 hbW
 replace hszW := Lib.hid hszW
 obtain ⟨x0, x1, x2, x3, x4, x5⟩ := cL6 KA.h
 obtain ⟨y0, y1, y2, y3, y4, y5⟩ := cL6 KB.h
 obtain ⟨z0, z1⟩ := cL2 KN.h
 cases lb
 · clear hf hck hia hib hmk hcp hng hrm hrn hrc
   go_enter Tryz.func11, Tryz.ntmps11
   go_wp2_with first
    | (go_at_call 17; have hmark := m5; refine (hl _ ha hb).mono ?_; rintro e w6 ⟨rfl, b6⟩; have m6 := Lib.hid (rfl : (6 : Nat) = 6); have a6 := (al1 w5 (.cells #[.int .i64 a.k, .int .i64 a.p, .bool a.s, .slice a.A a.l.length a.c, .string a.S, .slice a.B a.m a.d, .int .i64 b.k, .int .i64 b.p, .bool b.s, .slice b.A b.l.length b.c, .string b.S, .slice b.B b.m b.d] 27)).trans (b6.mono (al1 w5 (.cells #[.int .i64 a.k, .int .i64 a.p, .bool a.s, .slice a.A a.l.length a.c, .string a.S, .slice a.B a.m a.d, .int .i64 b.k, .int .i64 b.p, .bool b.s, .slice b.A b.l.length b.c, .string b.S, .slice b.B b.m b.d] 27)).size); replace ha := ha.on a6; replace hb := hb.on a6; replace hR := hR.on a6; replace KA := KA.on a6; replace KB := KB.on a6; replace KN := KN.on a6; replace bw := bw.trans (a6.mono bw.size); clear x0 x1 x2 x3 x4 x5 y0 y1 y2 y3 y4 y5 z0 z1; obtain ⟨x0, x1, x2, x3, x4, x5⟩ := cL6 KA.h; obtain ⟨y0, y1, y2, y3, y4, y5⟩ := cL6 KB.h; obtain ⟨z0, z1⟩ := cL2 KN.h)
    | (go_at_call 16; refine hs.mono ?_; rintro e w5 ⟨rfl, b5⟩; have m5 := Lib.hid (rfl : (5 : Nat) = 5); replace ha := ha.on b5; replace hb := hb.on b5; replace hR := hR.on b5; replace KA := KA.on b5; replace KB := KB.on b5; replace KN := KN.on b5; replace bw := bw.trans (b5.mono bw.size); clear x0 x1 x2 x3 x4 x5 y0 y1 y2 y3 y4 y5 z0 z1; obtain ⟨x0, x1, x2, x3, x4, x5⟩ := cL6 KA.h; obtain ⟨y0, y1, y2, y3, y4, y5⟩ := cL6 KB.h; obtain ⟨z0, z1⟩ := cL2 KN.h)
   go_ret
   exact ⟨rfl, bw⟩
 · cases fb
   · clear hck hia hib hmk hcp hng hrm hrn hrc
     go_enter Tryz.func11, Tryz.ntmps11
     go_wp2_with first
      | (go_at_call 58; have hmark := m6; refine (hf _ hR).mono ?_; rintro e w7 ⟨rfl, rfl⟩; have m7 := Lib.hid (rfl : (7 : Nat) = 7); have a7 := al1 w6 (.cells #[.bool n1, .slice A1 l1.length c1] 24); replace ha := ha.on a7; replace hb := hb.on a7; replace hR := hR.on a7; replace KA := KA.on a7; replace KB := KB.on a7; replace KN := KN.on a7; replace bw := bw.trans (a7.mono bw.size); clear x0 x1 x2 x3 x4 x5 y0 y1 y2 y3 y4 y5 z0 z1; obtain ⟨x0, x1, x2, x3, x4, x5⟩ := cL6 KA.h; obtain ⟨y0, y1, y2, y3, y4, y5⟩ := cL6 KB.h; obtain ⟨z0, z1⟩ := cL2 KN.h)
      | (go_at_call 17; have hmark := m5; refine (hl _ ha hb).mono ?_; rintro e w6 ⟨rfl, b6⟩; have m6 := Lib.hid (rfl : (6 : Nat) = 6); have a6 := (al1 w5 (.cells #[.int .i64 a.k, .int .i64 a.p, .bool a.s, .slice a.A a.l.length a.c, .string a.S, .slice a.B a.m a.d, .int .i64 b.k, .int .i64 b.p, .bool b.s, .slice b.A b.l.length b.c, .string b.S, .slice b.B b.m b.d] 27)).trans (b6.mono (al1 w5 (.cells #[.int .i64 a.k, .int .i64 a.p, .bool a.s, .slice a.A a.l.length a.c, .string a.S, .slice a.B a.m a.d, .int .i64 b.k, .int .i64 b.p, .bool b.s, .slice b.A b.l.length b.c, .string b.S, .slice b.B b.m b.d] 27)).size); replace ha := ha.on a6; replace hb := hb.on a6; replace hR := hR.on a6; replace KA := KA.on a6; replace KB := KB.on a6; replace KN := KN.on a6; replace bw := bw.trans (a6.mono bw.size); clear x0 x1 x2 x3 x4 x5 y0 y1 y2 y3 y4 y5 z0 z1; obtain ⟨x0, x1, x2, x3, x4, x5⟩ := cL6 KA.h; obtain ⟨y0, y1, y2, y3, y4, y5⟩ := cL6 KB.h; obtain ⟨z0, z1⟩ := cL2 KN.h)
      | (go_at_call 16; refine hs.mono ?_; rintro e w5 ⟨rfl, b5⟩; have m5 := Lib.hid (rfl : (5 : Nat) = 5); replace ha := ha.on b5; replace hb := hb.on b5; replace hR := hR.on b5; replace KA := KA.on b5; replace KB := KB.on b5; replace KN := KN.on b5; replace bw := bw.trans (b5.mono bw.size); clear x0 x1 x2 x3 x4 x5 y0 y1 y2 y3 y4 y5 z0 z1; obtain ⟨x0, x1, x2, x3, x4, x5⟩ := cL6 KA.h; obtain ⟨y0, y1, y2, y3, y4, y5⟩ := cL6 KB.h; obtain ⟨z0, z1⟩ := cL2 KN.h)
     go_ret
     exact ⟨rfl, bw⟩
   · cases hoA : a.ok
     · rw [hoA] at hck hia
       have hno : (a.ok && b.ok) = false := by rw [hoA]; rfl
       rw [cmp_no hno] at hcp
       simp only [Bool.false_eq_true, if_false] at hck
       clear hrc hib hoA hno
       go_enter Tryz.func11, Tryz.ntmps11
       go_upto_region 10 with first
        | (go_at_call 61; have hmark := m12; refine (hng _ ha).mono ?_; rintro e w13 ⟨v13, rfl, ⟨s13, A13, c13, l13, rfl, I13⟩, b13⟩; have m13 := Lib.hid (rfl : (13 : Nat) = 13); replace ha := ha.on b13; replace hb := hb.on b13; replace hR := hR.on b13; replace KA := KA.on b13; replace KB := KB.on b13; replace KN := KN.on b13; replace bw := bw.trans (b13.mono bw.size); replace KV := KV.on b13; replace IV1 := IV1.on b13; clear x0 x1 x2 x3 x4 x5 y0 y1 y2 y3 y4 y5 z0 z1; obtain ⟨x0, x1, x2, x3, x4, x5⟩ := cL6 KA.h; obtain ⟨y0, y1, y2, y3, y4, y5⟩ := cL6 KB.h; obtain ⟨z0, z1⟩ := cL2 KN.h)
        | (go_at_call 48; have hmark := m11; refine (hcp _ ha hb).mono ?_; rintro e w12 ⟨rfl, b12⟩; have m12 := Lib.hid (rfl : (12 : Nat) = 12); replace ha := ha.on b12; replace hb := hb.on b12; replace hR := hR.on b12; replace KA := KA.on b12; replace KB := KB.on b12; replace KN := KN.on b12; replace bw := bw.trans (b12.mono bw.size); replace KV := KV.on b12; replace IV1 := IV1.on b12; clear x0 x1 x2 x3 x4 x5 y0 y1 y2 y3 y4 y5 z0 z1; obtain ⟨x0, x1, x2, x3, x4, x5⟩ := cL6 KA.h; obtain ⟨y0, y1, y2, y3, y4, y5⟩ := cL6 KB.h; obtain ⟨z0, z1⟩ := cL2 KN.h)
        | (go_at_call 60; have hmark := m10; refine (hmk _ hR).mono ?_; rintro e w11 ⟨v11, rfl, ⟨s11, A11, c11, l11, rfl, I11⟩, b11⟩; have m11 := Lib.hid (rfl : (11 : Nat) = 11); replace ha := ha.on b11; replace hb := hb.on b11; replace hR := hR.on b11; replace KA := KA.on b11; replace KB := KB.on b11; replace KN := KN.on b11; replace bw := bw.trans (b11.mono bw.size); have a11 := al1 w11 (.cells #[.int .i64 (kd x), .int .i64 (x.2.1 : Int), .bool s11, .slice A11 l11.length c11, .string ⟨#[]⟩, .slice none 0 0] 27); replace ha := ha.on a11; replace hb := hb.on a11; replace hR := hR.on a11; replace KA := KA.on a11; replace KB := KB.on a11; replace KN := KN.on a11; replace bw := bw.trans (a11.mono bw.size); have KV := blk_new w11 #[.int .i64 (kd x), .int .i64 (x.2.1 : Int), .bool s11, .slice A11 l11.length c11, .string ⟨#[]⟩, .slice none 0 0] 27; have IV1 := I11.on a11; clear x0 x1 x2 x3 x4 x5 y0 y1 y2 y3 y4 y5 z0 z1; obtain ⟨x0, x1, x2, x3, x4, x5⟩ := cL6 KA.h; obtain ⟨y0, y1, y2, y3, y4, y5⟩ := cL6 KB.h; obtain ⟨z0, z1⟩ := cL2 KN.h)
        | (go_at_call 31; have hmark := m9; refine (hia _ ha).mono ?_; rintro e w10 ⟨rfl, b10⟩; have m10 := Lib.hid (rfl : (10 : Nat) = 10); replace ha := ha.on b10; replace hb := hb.on b10; replace hR := hR.on b10; replace KA := KA.on b10; replace KB := KB.on b10; replace KN := KN.on b10; replace bw := bw.trans (b10.mono bw.size); clear x0 x1 x2 x3 x4 x5 y0 y1 y2 y3 y4 y5 z0 z1; obtain ⟨x0, x1, x2, x3, x4, x5⟩ := cL6 KA.h; obtain ⟨y0, y1, y2, y3, y4, y5⟩ := cL6 KB.h; obtain ⟨z0, z1⟩ := cL2 KN.h)
        | (go_at_call 31; have hmark := m8; refine (hia _ ha).mono ?_; rintro e w9 ⟨rfl, b9⟩; have m9 := Lib.hid (rfl : (9 : Nat) = 9); replace ha := ha.on b9; replace hb := hb.on b9; replace hR := hR.on b9; replace KA := KA.on b9; replace KB := KB.on b9; replace KN := KN.on b9; replace bw := bw.trans (b9.mono bw.size); clear x0 x1 x2 x3 x4 x5 y0 y1 y2 y3 y4 y5 z0 z1; obtain ⟨x0, x1, x2, x3, x4, x5⟩ := cL6 KA.h; obtain ⟨y0, y1, y2, y3, y4, y5⟩ := cL6 KB.h; obtain ⟨z0, z1⟩ := cL2 KN.h)
        | (go_at_call 59; have hmark := m7; refine (hck _ ha).mono ?_; rintro e w8 ⟨rfl, b8⟩; have m8 := Lib.hid (rfl : (8 : Nat) = 8); replace ha := ha.on b8; replace hb := hb.on b8; replace hR := hR.on b8; replace KA := KA.on b8; replace KB := KB.on b8; replace KN := KN.on b8; replace bw := bw.trans (b8.mono bw.size); clear x0 x1 x2 x3 x4 x5 y0 y1 y2 y3 y4 y5 z0 z1; obtain ⟨x0, x1, x2, x3, x4, x5⟩ := cL6 KA.h; obtain ⟨y0, y1, y2, y3, y4, y5⟩ := cL6 KB.h; obtain ⟨z0, z1⟩ := cL2 KN.h)
        | (go_at_call 58; have hmark := m6; refine (hf _ hR).mono ?_; rintro e w7 ⟨rfl, rfl⟩; have m7 := Lib.hid (rfl : (7 : Nat) = 7); have a7 := al1 w6 (.cells #[.bool n1, .slice A1 l1.length c1] 24); replace ha := ha.on a7; replace hb := hb.on a7; replace hR := hR.on a7; replace KA := KA.on a7; replace KB := KB.on a7; replace KN := KN.on a7; replace bw := bw.trans (a7.mono bw.size); clear x0 x1 x2 x3 x4 x5 y0 y1 y2 y3 y4 y5 z0 z1; obtain ⟨x0, x1, x2, x3, x4, x5⟩ := cL6 KA.h; obtain ⟨y0, y1, y2, y3, y4, y5⟩ := cL6 KB.h; obtain ⟨z0, z1⟩ := cL2 KN.h)
        | (go_at_call 17; have hmark := m5; refine (hl _ ha hb).mono ?_; rintro e w6 ⟨rfl, b6⟩; have m6 := Lib.hid (rfl : (6 : Nat) = 6); have a6 := (al1 w5 (.cells #[.int .i64 a.k, .int .i64 a.p, .bool a.s, .slice a.A a.l.length a.c, .string a.S, .slice a.B a.m a.d, .int .i64 b.k, .int .i64 b.p, .bool b.s, .slice b.A b.l.length b.c, .string b.S, .slice b.B b.m b.d] 27)).trans (b6.mono (al1 w5 (.cells #[.int .i64 a.k, .int .i64 a.p, .bool a.s, .slice a.A a.l.length a.c, .string a.S, .slice a.B a.m a.d, .int .i64 b.k, .int .i64 b.p, .bool b.s, .slice b.A b.l.length b.c, .string b.S, .slice b.B b.m b.d] 27)).size); replace ha := ha.on a6; replace hb := hb.on a6; replace hR := hR.on a6; replace KA := KA.on a6; replace KB := KB.on a6; replace KN := KN.on a6; replace bw := bw.trans (a6.mono bw.size); clear x0 x1 x2 x3 x4 x5 y0 y1 y2 y3 y4 y5 z0 z1; obtain ⟨x0, x1, x2, x3, x4, x5⟩ := cL6 KA.h; obtain ⟨y0, y1, y2, y3, y4, y5⟩ := cL6 KB.h; obtain ⟨z0, z1⟩ := cL2 KN.h)
        | (go_at_call 16; refine hs.mono ?_; rintro e w5 ⟨rfl, b5⟩; have m5 := Lib.hid (rfl : (5 : Nat) = 5); replace ha := ha.on b5; replace hb := hb.on b5; replace hR := hR.on b5; replace KA := KA.on b5; replace KB := KB.on b5; replace KN := KN.on b5; replace bw := bw.trans (b5.mono bw.size); clear x0 x1 x2 x3 x4 x5 y0 y1 y2 y3 y4 y5 z0 z1; obtain ⟨x0, x1, x2, x3, x4, x5⟩ := cL6 KA.h; obtain ⟨y0, y1, y2, y3, y4, y5⟩ := cL6 KB.h; obtain ⟨z0, z1⟩ := cL2 KN.h)
       obtain ⟨W9, hW9, hb9, KY, hsz9⟩ := box1 w13 #[.int .i64 (kd y), .int .i64 (y.2.1 : Int), .bool s13, .slice A13 l13.length c13, .string ⟨#[]⟩, .slice none 0 0] 27
       rw [hW9]
       replace ha := ha.on hb9; replace hb := hb.on hb9; replace hR := hR.on hb9; replace KA := KA.on hb9; replace KB := KB.on hb9; replace KN := KN.on hb9; replace bw := bw.trans (hb9.mono bw.size)
       replace KV := KV.on hb9
       replace IV1 := IV1.on hb9
       have IY := I13.on hb9
       have hrm' := fun W' (h : Below W9.heap.size W9 W') => hrm W' (hR.on h)
       have hrn' := fun W' (h : Below W9.heap.size W9 W') => hrn W' (ha.on h)
       clear x0 x1 x2 x3 x4 x5 y0 y1 y2 y3 y4 y5 z0 z1 hs hl hf hck hmk hcp hng hrm hrn hW9 I11 I13
       generalize w13.heap.size = g13 at *
       generalize w11.heap.size = g11 at *
       have HS : ∀ W', Below W9.heap.size W9 W' → (fun w'' => VK w'' g11 (kd x) (x.2.1 : Int) s11 A11 l11.length c11 ⟨#[]⟩ none 0 0 ∧ VK w'' g13 (kd y) (y.2.1 : Int) s13 A13 l13.length c13 ⟨#[]⟩ none 0 0 ∧ VK w'' w.heap.size a.k a.p a.s a.A a.l.length a.c a.S a.B a.m a.d ∧ NK w'' (w.heap.size + 1 + 1) n1 A1 l1.length c1) W' := fun W' q => ⟨vk_of KV q, vk_of KY q, vk_of KA q, nk_of KN q⟩
       have H0 := HS _ (Below.refl _ _)
       replace HS := Lib.hid HS
       try dsimp only at H0
       go_region_held3 (fun w'' => VK w'' g11 (kd x) (x.2.1 : Int) s11 A11 l11.length c11 ⟨#[]⟩ none 0 0 ∧ VK w'' g13 (kd y) (y.2.1 : Int) s13 A13 l13.length c13 ⟨#[]⟩ none 0 0 ∧ VK w'' w.heap.size a.k a.p a.s a.A a.l.length a.c a.S a.B a.m a.d ∧ NK w'' (w.heap.size + 1 + 1) n1 A1 l1.length c1) ((first | (with_reducible exact H0) | (with_reducible exact ⟨vk_drew H0.1, vk_drew H0.2.1, vk_drew H0.2.2.1, nk_drew H0.2.2.2⟩)))
        ((first
         | (go_at_call 20; have hmark := q22; refine (got_calls y s13 s22 A13 A22 c13 c22 l13 l22 B22 d22 _ (IY.on q22) I22).mono ?_; rintro e w23 ⟨rfl, b23⟩; have q23 := q22.trans (b23.mono q22.size); clear H0; have H0 := HS.out _ q23; (try dsimp only at H0))
         | (go_at_call 63; have hmark := q21; refine (hrn' _ q21).mono ?_; rintro e w22 ⟨s22, A22, c22, l22, B22, d22, rfl, I22, b22⟩; have q22 := q21.trans (b22.mono q21.size); clear H0; have H0 := HS.out _ q22; (try dsimp only at H0))
         | (go_at_call 20; have hmark := q20; refine (got_calls x s11 s20 A11 A20 c11 c20 l11 l20 B20 d20 _ (IV1.on q20) I20).mono ?_; rintro e w21 ⟨rfl, b21⟩; have q21 := q20.trans (b21.mono q20.size); clear H0; have H0 := HS.out _ q21; (try dsimp only at H0))
         | (go_at_call 62; refine (hrm' _ (below_drew (Below.refl W9.heap.size W9))).mono ?_; rintro e w20 ⟨s20, A20, c20, l20, B20, d20, rfl, I20, b20⟩; have q20 := (below_drew (Below.refl W9.heap.size W9)).trans (b20.mono (below_drew (Below.refl W9.heap.size W9)).size); clear H0; have H0 := HS.out _ q20; (try dsimp only at H0))))
       replace ha := ha.on q23
       replace hb := hb.on q23
       replace KA := KA.on q23
       replace KB := KB.on q23
       replace bw := bw.trans (q23.mono bw.size)
       clear H0 HS KV KY KN IV1 IY hrm' hrn' hR
       obtain ⟨x0, x1, x2, x3, x4, x5⟩ := cL6 KA.h
       obtain ⟨y0, y1, y2, y3, y4, y5⟩ := cL6 KB.h
       go_wp2_with first
        | (go_at_call 31; refine (hia _ ha).mono ?_; rintro e w30 ⟨rfl, b30⟩; clear hia; have m30 := Lib.hid (rfl : (30 : Nat) = 30); replace ha := ha.on b30; replace hb := hb.on b30; replace KA := KA.on b30; replace KB := KB.on b30; replace bw := bw.trans (b30.mono bw.size); clear x0 x1 x2 x3 x4 x5 y0 y1 y2 y3 y4 y5; obtain ⟨x0, x1, x2, x3, x4, x5⟩ := cL6 KA.h; obtain ⟨y0, y1, y2, y3, y4, y5⟩ := cL6 KB.h)
       go_ret
       exact ⟨rfl, bw⟩
     · rw [hoA] at hck hia
       simp only [if_true] at hck
       cases hoB : b.ok
       · rw [hoB] at hib
         have hno : (a.ok && b.ok) = false := by rw [hoA, hoB]; rfl
         rw [cmp_no hno] at hcp
         clear hrc hoA hoB hno
         go_enter Tryz.func11, Tryz.ntmps11
         go_upto_region 10 with first
          | (go_at_call 61; have hmark := m12; refine (hng _ ha).mono ?_; rintro e w13 ⟨v13, rfl, ⟨s13, A13, c13, l13, rfl, I13⟩, b13⟩; have m13 := Lib.hid (rfl : (13 : Nat) = 13); replace ha := ha.on b13; replace hb := hb.on b13; replace hR := hR.on b13; replace KA := KA.on b13; replace KB := KB.on b13; replace KN := KN.on b13; replace bw := bw.trans (b13.mono bw.size); replace KV := KV.on b13; replace IV1 := IV1.on b13; clear x0 x1 x2 x3 x4 x5 y0 y1 y2 y3 y4 y5 z0 z1; obtain ⟨x0, x1, x2, x3, x4, x5⟩ := cL6 KA.h; obtain ⟨y0, y1, y2, y3, y4, y5⟩ := cL6 KB.h; obtain ⟨z0, z1⟩ := cL2 KN.h)
          | (go_at_call 48; have hmark := m11; refine (hcp _ ha hb).mono ?_; rintro e w12 ⟨rfl, b12⟩; have m12 := Lib.hid (rfl : (12 : Nat) = 12); replace ha := ha.on b12; replace hb := hb.on b12; replace hR := hR.on b12; replace KA := KA.on b12; replace KB := KB.on b12; replace KN := KN.on b12; replace bw := bw.trans (b12.mono bw.size); replace KV := KV.on b12; replace IV1 := IV1.on b12; clear x0 x1 x2 x3 x4 x5 y0 y1 y2 y3 y4 y5 z0 z1; obtain ⟨x0, x1, x2, x3, x4, x5⟩ := cL6 KA.h; obtain ⟨y0, y1, y2, y3, y4, y5⟩ := cL6 KB.h; obtain ⟨z0, z1⟩ := cL2 KN.h)
          | (go_at_call 60; have hmark := m10; refine (hmk _ hR).mono ?_; rintro e w11 ⟨v11, rfl, ⟨s11, A11, c11, l11, rfl, I11⟩, b11⟩; have m11 := Lib.hid (rfl : (11 : Nat) = 11); replace ha := ha.on b11; replace hb := hb.on b11; replace hR := hR.on b11; replace KA := KA.on b11; replace KB := KB.on b11; replace KN := KN.on b11; replace bw := bw.trans (b11.mono bw.size); have a11 := al1 w11 (.cells #[.int .i64 (kd x), .int .i64 (x.2.1 : Int), .bool s11, .slice A11 l11.length c11, .string ⟨#[]⟩, .slice none 0 0] 27); replace ha := ha.on a11; replace hb := hb.on a11; replace hR := hR.on a11; replace KA := KA.on a11; replace KB := KB.on a11; replace KN := KN.on a11; replace bw := bw.trans (a11.mono bw.size); have KV := blk_new w11 #[.int .i64 (kd x), .int .i64 (x.2.1 : Int), .bool s11, .slice A11 l11.length c11, .string ⟨#[]⟩, .slice none 0 0] 27; have IV1 := I11.on a11; clear x0 x1 x2 x3 x4 x5 y0 y1 y2 y3 y4 y5 z0 z1; obtain ⟨x0, x1, x2, x3, x4, x5⟩ := cL6 KA.h; obtain ⟨y0, y1, y2, y3, y4, y5⟩ := cL6 KB.h; obtain ⟨z0, z1⟩ := cL2 KN.h)
          | (go_at_call 31; have hmark := m9; refine (hia _ ha).mono ?_; rintro e w10 ⟨rfl, b10⟩; have m10 := Lib.hid (rfl : (10 : Nat) = 10); replace ha := ha.on b10; replace hb := hb.on b10; replace hR := hR.on b10; replace KA := KA.on b10; replace KB := KB.on b10; replace KN := KN.on b10; replace bw := bw.trans (b10.mono bw.size); clear x0 x1 x2 x3 x4 x5 y0 y1 y2 y3 y4 y5 z0 z1; obtain ⟨x0, x1, x2, x3, x4, x5⟩ := cL6 KA.h; obtain ⟨y0, y1, y2, y3, y4, y5⟩ := cL6 KB.h; obtain ⟨z0, z1⟩ := cL2 KN.h)
          | (go_at_call 31; have hmark := m8; refine (hia _ ha).mono ?_; rintro e w9 ⟨rfl, b9⟩; have m9 := Lib.hid (rfl : (9 : Nat) = 9); replace ha := ha.on b9; replace hb := hb.on b9; replace hR := hR.on b9; replace KA := KA.on b9; replace KB := KB.on b9; replace KN := KN.on b9; replace bw := bw.trans (b9.mono bw.size); clear x0 x1 x2 x3 x4 x5 y0 y1 y2 y3 y4 y5 z0 z1; obtain ⟨x0, x1, x2, x3, x4, x5⟩ := cL6 KA.h; obtain ⟨y0, y1, y2, y3, y4, y5⟩ := cL6 KB.h; obtain ⟨z0, z1⟩ := cL2 KN.h)
          | (go_at_call 59; have hmark := m7; refine (hck _ ha).mono ?_; rintro e w8 ⟨rfl, b8⟩; have m8 := Lib.hid (rfl : (8 : Nat) = 8); replace ha := ha.on b8; replace hb := hb.on b8; replace hR := hR.on b8; replace KA := KA.on b8; replace KB := KB.on b8; replace KN := KN.on b8; replace bw := bw.trans (b8.mono bw.size); clear x0 x1 x2 x3 x4 x5 y0 y1 y2 y3 y4 y5 z0 z1; obtain ⟨x0, x1, x2, x3, x4, x5⟩ := cL6 KA.h; obtain ⟨y0, y1, y2, y3, y4, y5⟩ := cL6 KB.h; obtain ⟨z0, z1⟩ := cL2 KN.h)
          | (go_at_call 58; have hmark := m6; refine (hf _ hR).mono ?_; rintro e w7 ⟨rfl, rfl⟩; have m7 := Lib.hid (rfl : (7 : Nat) = 7); have a7 := al1 w6 (.cells #[.bool n1, .slice A1 l1.length c1] 24); replace ha := ha.on a7; replace hb := hb.on a7; replace hR := hR.on a7; replace KA := KA.on a7; replace KB := KB.on a7; replace KN := KN.on a7; replace bw := bw.trans (a7.mono bw.size); clear x0 x1 x2 x3 x4 x5 y0 y1 y2 y3 y4 y5 z0 z1; obtain ⟨x0, x1, x2, x3, x4, x5⟩ := cL6 KA.h; obtain ⟨y0, y1, y2, y3, y4, y5⟩ := cL6 KB.h; obtain ⟨z0, z1⟩ := cL2 KN.h)
          | (go_at_call 17; have hmark := m5; refine (hl _ ha hb).mono ?_; rintro e w6 ⟨rfl, b6⟩; have m6 := Lib.hid (rfl : (6 : Nat) = 6); have a6 := (al1 w5 (.cells #[.int .i64 a.k, .int .i64 a.p, .bool a.s, .slice a.A a.l.length a.c, .string a.S, .slice a.B a.m a.d, .int .i64 b.k, .int .i64 b.p, .bool b.s, .slice b.A b.l.length b.c, .string b.S, .slice b.B b.m b.d] 27)).trans (b6.mono (al1 w5 (.cells #[.int .i64 a.k, .int .i64 a.p, .bool a.s, .slice a.A a.l.length a.c, .string a.S, .slice a.B a.m a.d, .int .i64 b.k, .int .i64 b.p, .bool b.s, .slice b.A b.l.length b.c, .string b.S, .slice b.B b.m b.d] 27)).size); replace ha := ha.on a6; replace hb := hb.on a6; replace hR := hR.on a6; replace KA := KA.on a6; replace KB := KB.on a6; replace KN := KN.on a6; replace bw := bw.trans (a6.mono bw.size); clear x0 x1 x2 x3 x4 x5 y0 y1 y2 y3 y4 y5 z0 z1; obtain ⟨x0, x1, x2, x3, x4, x5⟩ := cL6 KA.h; obtain ⟨y0, y1, y2, y3, y4, y5⟩ := cL6 KB.h; obtain ⟨z0, z1⟩ := cL2 KN.h)
          | (go_at_call 16; refine hs.mono ?_; rintro e w5 ⟨rfl, b5⟩; have m5 := Lib.hid (rfl : (5 : Nat) = 5); replace ha := ha.on b5; replace hb := hb.on b5; replace hR := hR.on b5; replace KA := KA.on b5; replace KB := KB.on b5; replace KN := KN.on b5; replace bw := bw.trans (b5.mono bw.size); clear x0 x1 x2 x3 x4 x5 y0 y1 y2 y3 y4 y5 z0 z1; obtain ⟨x0, x1, x2, x3, x4, x5⟩ := cL6 KA.h; obtain ⟨y0, y1, y2, y3, y4, y5⟩ := cL6 KB.h; obtain ⟨z0, z1⟩ := cL2 KN.h)
         obtain ⟨W9, hW9, hb9, KY, hsz9⟩ := box1 w13 #[.int .i64 (kd y), .int .i64 (y.2.1 : Int), .bool s13, .slice A13 l13.length c13, .string ⟨#[]⟩, .slice none 0 0] 27
         rw [hW9]
         replace ha := ha.on hb9; replace hb := hb.on hb9; replace hR := hR.on hb9; replace KA := KA.on hb9; replace KB := KB.on hb9; replace KN := KN.on hb9; replace bw := bw.trans (hb9.mono bw.size)
         replace KV := KV.on hb9
         replace IV1 := IV1.on hb9
         have IY := I13.on hb9
         have hrm' := fun W' (h : Below W9.heap.size W9 W') => hrm W' (hR.on h)
         have hrn' := fun W' (h : Below W9.heap.size W9 W') => hrn W' (ha.on h)
         clear x0 x1 x2 x3 x4 x5 y0 y1 y2 y3 y4 y5 z0 z1 hs hl hf hck hmk hcp hng hrm hrn hW9 I11 I13
         generalize w13.heap.size = g13 at *
         generalize w11.heap.size = g11 at *
         have HS : ∀ W', Below W9.heap.size W9 W' → (fun w'' => VK w'' g11 (kd x) (x.2.1 : Int) s11 A11 l11.length c11 ⟨#[]⟩ none 0 0 ∧ VK w'' g13 (kd y) (y.2.1 : Int) s13 A13 l13.length c13 ⟨#[]⟩ none 0 0 ∧ VK w'' w.heap.size a.k a.p a.s a.A a.l.length a.c a.S a.B a.m a.d ∧ NK w'' (w.heap.size + 1 + 1) n1 A1 l1.length c1) W' := fun W' q => ⟨vk_of KV q, vk_of KY q, vk_of KA q, nk_of KN q⟩
         have H0 := HS _ (Below.refl _ _)
         replace HS := Lib.hid HS
         try dsimp only at H0
         go_region_held3 (fun w'' => VK w'' g11 (kd x) (x.2.1 : Int) s11 A11 l11.length c11 ⟨#[]⟩ none 0 0 ∧ VK w'' g13 (kd y) (y.2.1 : Int) s13 A13 l13.length c13 ⟨#[]⟩ none 0 0 ∧ VK w'' w.heap.size a.k a.p a.s a.A a.l.length a.c a.S a.B a.m a.d ∧ NK w'' (w.heap.size + 1 + 1) n1 A1 l1.length c1) ((first | (with_reducible exact H0) | (with_reducible exact ⟨vk_drew H0.1, vk_drew H0.2.1, vk_drew H0.2.2.1, nk_drew H0.2.2.2⟩)))
          ((first
           | (go_at_call 20; have hmark := q22; refine (got_calls y s13 s22 A13 A22 c13 c22 l13 l22 B22 d22 _ (IY.on q22) I22).mono ?_; rintro e w23 ⟨rfl, b23⟩; have q23 := q22.trans (b23.mono q22.size); clear H0; have H0 := HS.out _ q23; (try dsimp only at H0))
           | (go_at_call 63; have hmark := q21; refine (hrn' _ q21).mono ?_; rintro e w22 ⟨s22, A22, c22, l22, B22, d22, rfl, I22, b22⟩; have q22 := q21.trans (b22.mono q21.size); clear H0; have H0 := HS.out _ q22; (try dsimp only at H0))
           | (go_at_call 20; have hmark := q20; refine (got_calls x s11 s20 A11 A20 c11 c20 l11 l20 B20 d20 _ (IV1.on q20) I20).mono ?_; rintro e w21 ⟨rfl, b21⟩; have q21 := q20.trans (b21.mono q20.size); clear H0; have H0 := HS.out _ q21; (try dsimp only at H0))
           | (go_at_call 62; refine (hrm' _ (below_drew (Below.refl W9.heap.size W9))).mono ?_; rintro e w20 ⟨s20, A20, c20, l20, B20, d20, rfl, I20, b20⟩; have q20 := (below_drew (Below.refl W9.heap.size W9)).trans (b20.mono (below_drew (Below.refl W9.heap.size W9)).size); clear H0; have H0 := HS.out _ q20; (try dsimp only at H0))))
         replace ha := ha.on q23
         replace hb := hb.on q23
         replace KA := KA.on q23
         replace KB := KB.on q23
         replace bw := bw.trans (q23.mono bw.size)
         clear H0 HS KV KY KN IV1 IY hrm' hrn' hR
         obtain ⟨x0, x1, x2, x3, x4, x5⟩ := cL6 KA.h
         obtain ⟨y0, y1, y2, y3, y4, y5⟩ := cL6 KB.h
         go_wp2_with first
          | (go_at_call 31; have hmark := m30; refine (hib _ hb).mono ?_; rintro e w31 ⟨rfl, b31⟩; have m31 := Lib.hid (rfl : (31 : Nat) = 31); replace ha := ha.on b31; replace hb := hb.on b31; replace KA := KA.on b31; replace KB := KB.on b31; replace bw := bw.trans (b31.mono bw.size); clear x0 x1 x2 x3 x4 x5 y0 y1 y2 y3 y4 y5; obtain ⟨x0, x1, x2, x3, x4, x5⟩ := cL6 KA.h; obtain ⟨y0, y1, y2, y3, y4, y5⟩ := cL6 KB.h)
          | (go_at_call 31; refine (hia _ ha).mono ?_; rintro e w30 ⟨rfl, b30⟩; clear hia; have m30 := Lib.hid (rfl : (30 : Nat) = 30); replace ha := ha.on b30; replace hb := hb.on b30; replace KA := KA.on b30; replace KB := KB.on b30; replace bw := bw.trans (b30.mono bw.size); clear x0 x1 x2 x3 x4 x5 y0 y1 y2 y3 y4 y5; obtain ⟨x0, x1, x2, x3, x4, x5⟩ := cL6 KA.h; obtain ⟨y0, y1, y2, y3, y4, y5⟩ := cL6 KB.h)
         go_ret
         exact ⟨rfl, bw⟩
       · rw [hoB] at hib
         have hyes : (a.ok && b.ok) = true := by rw [hoA, hoB]; rfl
         rw [cmp_ok hyes] at hcp
         replace hrc := hrc hoA hoB
         dsimp only at hcp
         generalize cmpZ a.u b.u = cc at *
         clear hoA hoB hyes
         go_enter Tryz.func11, Tryz.ntmps11
         go_upto_region 10 with first
          | (go_at_call 61; have hmark := m12; refine (hng _ ha).mono ?_; rintro e w13 ⟨v13, rfl, ⟨s13, A13, c13, l13, rfl, I13⟩, b13⟩; have m13 := Lib.hid (rfl : (13 : Nat) = 13); replace ha := ha.on b13; replace hb := hb.on b13; replace hR := hR.on b13; replace KA := KA.on b13; replace KB := KB.on b13; replace KN := KN.on b13; replace bw := bw.trans (b13.mono bw.size); replace KV := KV.on b13; replace IV1 := IV1.on b13; clear x0 x1 x2 x3 x4 x5 y0 y1 y2 y3 y4 y5 z0 z1; obtain ⟨x0, x1, x2, x3, x4, x5⟩ := cL6 KA.h; obtain ⟨y0, y1, y2, y3, y4, y5⟩ := cL6 KB.h; obtain ⟨z0, z1⟩ := cL2 KN.h)
          | (go_at_call 48; have hmark := m11; refine (hcp _ ha hb).mono ?_; rintro e w12 ⟨rfl, b12⟩; have m12 := Lib.hid (rfl : (12 : Nat) = 12); replace ha := ha.on b12; replace hb := hb.on b12; replace hR := hR.on b12; replace KA := KA.on b12; replace KB := KB.on b12; replace KN := KN.on b12; replace bw := bw.trans (b12.mono bw.size); replace KV := KV.on b12; replace IV1 := IV1.on b12; clear x0 x1 x2 x3 x4 x5 y0 y1 y2 y3 y4 y5 z0 z1; obtain ⟨x0, x1, x2, x3, x4, x5⟩ := cL6 KA.h; obtain ⟨y0, y1, y2, y3, y4, y5⟩ := cL6 KB.h; obtain ⟨z0, z1⟩ := cL2 KN.h)
          | (go_at_call 60; have hmark := m10; refine (hmk _ hR).mono ?_; rintro e w11 ⟨v11, rfl, ⟨s11, A11, c11, l11, rfl, I11⟩, b11⟩; have m11 := Lib.hid (rfl : (11 : Nat) = 11); replace ha := ha.on b11; replace hb := hb.on b11; replace hR := hR.on b11; replace KA := KA.on b11; replace KB := KB.on b11; replace KN := KN.on b11; replace bw := bw.trans (b11.mono bw.size); have a11 := al1 w11 (.cells #[.int .i64 (kd x), .int .i64 (x.2.1 : Int), .bool s11, .slice A11 l11.length c11, .string ⟨#[]⟩, .slice none 0 0] 27); replace ha := ha.on a11; replace hb := hb.on a11; replace hR := hR.on a11; replace KA := KA.on a11; replace KB := KB.on a11; replace KN := KN.on a11; replace bw := bw.trans (a11.mono bw.size); have KV := blk_new w11 #[.int .i64 (kd x), .int .i64 (x.2.1 : Int), .bool s11, .slice A11 l11.length c11, .string ⟨#[]⟩, .slice none 0 0] 27; have IV1 := I11.on a11; clear x0 x1 x2 x3 x4 x5 y0 y1 y2 y3 y4 y5 z0 z1; obtain ⟨x0, x1, x2, x3, x4, x5⟩ := cL6 KA.h; obtain ⟨y0, y1, y2, y3, y4, y5⟩ := cL6 KB.h; obtain ⟨z0, z1⟩ := cL2 KN.h)
          | (go_at_call 31; have hmark := m9; refine (hia _ ha).mono ?_; rintro e w10 ⟨rfl, b10⟩; have m10 := Lib.hid (rfl : (10 : Nat) = 10); replace ha := ha.on b10; replace hb := hb.on b10; replace hR := hR.on b10; replace KA := KA.on b10; replace KB := KB.on b10; replace KN := KN.on b10; replace bw := bw.trans (b10.mono bw.size); clear x0 x1 x2 x3 x4 x5 y0 y1 y2 y3 y4 y5 z0 z1; obtain ⟨x0, x1, x2, x3, x4, x5⟩ := cL6 KA.h; obtain ⟨y0, y1, y2, y3, y4, y5⟩ := cL6 KB.h; obtain ⟨z0, z1⟩ := cL2 KN.h)
          | (go_at_call 31; have hmark := m8; refine (hia _ ha).mono ?_; rintro e w9 ⟨rfl, b9⟩; have m9 := Lib.hid (rfl : (9 : Nat) = 9); replace ha := ha.on b9; replace hb := hb.on b9; replace hR := hR.on b9; replace KA := KA.on b9; replace KB := KB.on b9; replace KN := KN.on b9; replace bw := bw.trans (b9.mono bw.size); clear x0 x1 x2 x3 x4 x5 y0 y1 y2 y3 y4 y5 z0 z1; obtain ⟨x0, x1, x2, x3, x4, x5⟩ := cL6 KA.h; obtain ⟨y0, y1, y2, y3, y4, y5⟩ := cL6 KB.h; obtain ⟨z0, z1⟩ := cL2 KN.h)
          | (go_at_call 59; have hmark := m7; refine (hck _ ha).mono ?_; rintro e w8 ⟨rfl, b8⟩; have m8 := Lib.hid (rfl : (8 : Nat) = 8); replace ha := ha.on b8; replace hb := hb.on b8; replace hR := hR.on b8; replace KA := KA.on b8; replace KB := KB.on b8; replace KN := KN.on b8; replace bw := bw.trans (b8.mono bw.size); clear x0 x1 x2 x3 x4 x5 y0 y1 y2 y3 y4 y5 z0 z1; obtain ⟨x0, x1, x2, x3, x4, x5⟩ := cL6 KA.h; obtain ⟨y0, y1, y2, y3, y4, y5⟩ := cL6 KB.h; obtain ⟨z0, z1⟩ := cL2 KN.h)
          | (go_at_call 58; have hmark := m6; refine (hf _ hR).mono ?_; rintro e w7 ⟨rfl, rfl⟩; have m7 := Lib.hid (rfl : (7 : Nat) = 7); have a7 := al1 w6 (.cells #[.bool n1, .slice A1 l1.length c1] 24); replace ha := ha.on a7; replace hb := hb.on a7; replace hR := hR.on a7; replace KA := KA.on a7; replace KB := KB.on a7; replace KN := KN.on a7; replace bw := bw.trans (a7.mono bw.size); clear x0 x1 x2 x3 x4 x5 y0 y1 y2 y3 y4 y5 z0 z1; obtain ⟨x0, x1, x2, x3, x4, x5⟩ := cL6 KA.h; obtain ⟨y0, y1, y2, y3, y4, y5⟩ := cL6 KB.h; obtain ⟨z0, z1⟩ := cL2 KN.h)
          | (go_at_call 17; have hmark := m5; refine (hl _ ha hb).mono ?_; rintro e w6 ⟨rfl, b6⟩; have m6 := Lib.hid (rfl : (6 : Nat) = 6); have a6 := (al1 w5 (.cells #[.int .i64 a.k, .int .i64 a.p, .bool a.s, .slice a.A a.l.length a.c, .string a.S, .slice a.B a.m a.d, .int .i64 b.k, .int .i64 b.p, .bool b.s, .slice b.A b.l.length b.c, .string b.S, .slice b.B b.m b.d] 27)).trans (b6.mono (al1 w5 (.cells #[.int .i64 a.k, .int .i64 a.p, .bool a.s, .slice a.A a.l.length a.c, .string a.S, .slice a.B a.m a.d, .int .i64 b.k, .int .i64 b.p, .bool b.s, .slice b.A b.l.length b.c, .string b.S, .slice b.B b.m b.d] 27)).size); replace ha := ha.on a6; replace hb := hb.on a6; replace hR := hR.on a6; replace KA := KA.on a6; replace KB := KB.on a6; replace KN := KN.on a6; replace bw := bw.trans (a6.mono bw.size); clear x0 x1 x2 x3 x4 x5 y0 y1 y2 y3 y4 y5 z0 z1; obtain ⟨x0, x1, x2, x3, x4, x5⟩ := cL6 KA.h; obtain ⟨y0, y1, y2, y3, y4, y5⟩ := cL6 KB.h; obtain ⟨z0, z1⟩ := cL2 KN.h)
          | (go_at_call 16; refine hs.mono ?_; rintro e w5 ⟨rfl, b5⟩; have m5 := Lib.hid (rfl : (5 : Nat) = 5); replace ha := ha.on b5; replace hb := hb.on b5; replace hR := hR.on b5; replace KA := KA.on b5; replace KB := KB.on b5; replace KN := KN.on b5; replace bw := bw.trans (b5.mono bw.size); clear x0 x1 x2 x3 x4 x5 y0 y1 y2 y3 y4 y5 z0 z1; obtain ⟨x0, x1, x2, x3, x4, x5⟩ := cL6 KA.h; obtain ⟨y0, y1, y2, y3, y4, y5⟩ := cL6 KB.h; obtain ⟨z0, z1⟩ := cL2 KN.h)
         obtain ⟨W9, hW9, hb9, KY, hsz9⟩ := box1 w13 #[.int .i64 (kd y), .int .i64 (y.2.1 : Int), .bool s13, .slice A13 l13.length c13, .string ⟨#[]⟩, .slice none 0 0] 27
         rw [hW9]
         replace ha := ha.on hb9; replace hb := hb.on hb9; replace hR := hR.on hb9; replace KA := KA.on hb9; replace KB := KB.on hb9; replace KN := KN.on hb9; replace bw := bw.trans (hb9.mono bw.size)
         replace KV := KV.on hb9
         replace IV1 := IV1.on hb9
         have IY := I13.on hb9
         have hrm' := fun W' (h : Below W9.heap.size W9 W') => hrm W' (hR.on h)
         have hrn' := fun W' (h : Below W9.heap.size W9 W') => hrn W' (ha.on h)
         clear x0 x1 x2 x3 x4 x5 y0 y1 y2 y3 y4 y5 z0 z1 hs hl hf hck hmk hcp hng hrm hrn hW9 I11 I13
         generalize w13.heap.size = g13 at *
         generalize w11.heap.size = g11 at *
         have HS : ∀ W', Below W9.heap.size W9 W' → (fun w'' => VK w'' g11 (kd x) (x.2.1 : Int) s11 A11 l11.length c11 ⟨#[]⟩ none 0 0 ∧ VK w'' g13 (kd y) (y.2.1 : Int) s13 A13 l13.length c13 ⟨#[]⟩ none 0 0 ∧ VK w'' w.heap.size a.k a.p a.s a.A a.l.length a.c a.S a.B a.m a.d ∧ NK w'' (w.heap.size + 1 + 1) n1 A1 l1.length c1) W' := fun W' q => ⟨vk_of KV q, vk_of KY q, vk_of KA q, nk_of KN q⟩
         have H0 := HS _ (Below.refl _ _)
         replace HS := Lib.hid HS
         try dsimp only at H0
         go_region_held3 (fun w'' => VK w'' g11 (kd x) (x.2.1 : Int) s11 A11 l11.length c11 ⟨#[]⟩ none 0 0 ∧ VK w'' g13 (kd y) (y.2.1 : Int) s13 A13 l13.length c13 ⟨#[]⟩ none 0 0 ∧ VK w'' w.heap.size a.k a.p a.s a.A a.l.length a.c a.S a.B a.m a.d ∧ NK w'' (w.heap.size + 1 + 1) n1 A1 l1.length c1) ((first | (with_reducible exact H0) | (with_reducible exact ⟨vk_drew H0.1, vk_drew H0.2.1, vk_drew H0.2.2.1, nk_drew H0.2.2.2⟩)))
          ((first
           | (go_at_call 20; have hmark := q22; refine (got_calls y s13 s22 A13 A22 c13 c22 l13 l22 B22 d22 _ (IY.on q22) I22).mono ?_; rintro e w23 ⟨rfl, b23⟩; have q23 := q22.trans (b23.mono q22.size); clear H0; have H0 := HS.out _ q23; (try dsimp only at H0))
           | (go_at_call 63; have hmark := q21; refine (hrn' _ q21).mono ?_; rintro e w22 ⟨s22, A22, c22, l22, B22, d22, rfl, I22, b22⟩; have q22 := q21.trans (b22.mono q21.size); clear H0; have H0 := HS.out _ q22; (try dsimp only at H0))
           | (go_at_call 20; have hmark := q20; refine (got_calls x s11 s20 A11 A20 c11 c20 l11 l20 B20 d20 _ (IV1.on q20) I20).mono ?_; rintro e w21 ⟨rfl, b21⟩; have q21 := q20.trans (b21.mono q20.size); clear H0; have H0 := HS.out _ q21; (try dsimp only at H0))
           | (go_at_call 62; refine (hrm' _ (below_drew (Below.refl W9.heap.size W9))).mono ?_; rintro e w20 ⟨s20, A20, c20, l20, B20, d20, rfl, I20, b20⟩; have q20 := (below_drew (Below.refl W9.heap.size W9)).trans (b20.mono (below_drew (Below.refl W9.heap.size W9)).size); clear H0; have H0 := HS.out _ q20; (try dsimp only at H0))))
         replace ha := ha.on q23
         replace hb := hb.on q23
         replace KA := KA.on q23
         replace KB := KB.on q23
         replace bw := bw.trans (q23.mono bw.size)
         clear H0 HS KV KY KN IV1 IY hrm' hrn' hR
         obtain ⟨x0, x1, x2, x3, x4, x5⟩ := cL6 KA.h
         obtain ⟨y0, y1, y2, y3, y4, y5⟩ := cL6 KB.h
         go_wp2_with first
          | (go_at_call 64; have hmark := m31; refine (hrc _ ha hb).mono ?_; rintro e w32 ⟨rfl, b32⟩; have m32 := Lib.hid (rfl : (32 : Nat) = 32); replace ha := ha.on b32; replace hb := hb.on b32; replace KA := KA.on b32; replace KB := KB.on b32; replace bw := bw.trans (b32.mono bw.size); clear x0 x1 x2 x3 x4 x5 y0 y1 y2 y3 y4 y5; obtain ⟨x0, x1, x2, x3, x4, x5⟩ := cL6 KA.h; obtain ⟨y0, y1, y2, y3, y4, y5⟩ := cL6 KB.h)
          | (go_at_call 31; have hmark := m30; refine (hib _ hb).mono ?_; rintro e w31 ⟨rfl, b31⟩; have m31 := Lib.hid (rfl : (31 : Nat) = 31); replace ha := ha.on b31; replace hb := hb.on b31; replace KA := KA.on b31; replace KB := KB.on b31; replace bw := bw.trans (b31.mono bw.size); clear x0 x1 x2 x3 x4 x5 y0 y1 y2 y3 y4 y5; obtain ⟨x0, x1, x2, x3, x4, x5⟩ := cL6 KA.h; obtain ⟨y0, y1, y2, y3, y4, y5⟩ := cL6 KB.h)
          | (go_at_call 31; refine (hia _ ha).mono ?_; rintro e w30 ⟨rfl, b30⟩; clear hia; have m30 := Lib.hid (rfl : (30 : Nat) = 30); replace ha := ha.on b30; replace hb := hb.on b30; replace KA := KA.on b30; replace KB := KB.on b30; replace bw := bw.trans (b30.mono bw.size); clear x0 x1 x2 x3 x4 x5 y0 y1 y2 y3 y4 y5; obtain ⟨x0, x1, x2, x3, x4, x5⟩ := cL6 KA.h; obtain ⟨y0, y1, y2, y3, y4, y5⟩ := cL6 KB.h)
         go_ret
         exact ⟨rfl, bw⟩
end Dc
end Go.Proofs.YtjghnghceeijeaaGreatDoor
