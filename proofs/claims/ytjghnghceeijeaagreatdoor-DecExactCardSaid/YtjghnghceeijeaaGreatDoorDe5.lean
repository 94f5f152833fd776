/-
  Contracts of the walks below.
-/
import Derived.Test.YtjghnghceeijeaaGreatDoorDe4
set_option maxRecDepth 100000
set_option maxHeartbeats 4000000
set_option linter.unusedVariables false
set_option linter.unusedSimpArgs false
namespace Go.Proofs.YtjghnghceeijeaaGreatDoor
namespace Dc
open Go.RowKit Go.Shelf Go.BigFrame Go.Proofs.YtjghnghceeijeaaGreatDoor.Nm
attribute [local go_sem] Oper.semAt_some
theorem DecExact_no (a b c : VA) (w : World) (ha : a.At w) (hb : b.At w) (hc : c.At w) (hf : [a, b, c].all fmB = false) (hd0 : DigW w) (m : Int) (hm : w.cell? ⟨1, 0, none⟩ = some (.int .i64 m)) :
 Calls Tryz.prog 8 #[a.val, b.val, c.val] w fun e w' => e = .returned (.bool true) ∧ Below w.heap.size w w' := by
 obtain ⟨W, hW, hbW, K0, K1, K2, hszW⟩ := box3 w #[.int .i64 a.k, .int .i64 a.p, .bool a.s, .slice a.A a.l.length a.c, .string a.S, .slice a.B a.m a.d] 27 #[.int .i64 b.k, .int .i64 b.p, .bool b.s, .slice b.A b.l.length b.c, .string b.S, .slice b.B b.m b.d] 27 #[.int .i64 c.k, .int .i64 c.p, .bool c.s, .slice c.A c.l.length c.c, .string c.S, .slice c.B c.m c.d] 27
 have hs := sane_c W (hd0.on hbW) m ((hbW.cell (p := ⟨1, 0, none⟩) (World.block_lt_of_cell? w _ hm)).trans hm)
 have hl := fun w5 (h : Below W.heap.size W w5) => lawformed_c w5.heap.size [a, b, c] (w5.alloc (.cells #[.int .i64 a.k, .int .i64 a.p, .bool a.s, .slice a.A a.l.length a.c, .string a.S, .slice a.B a.m a.d, .int .i64 b.k, .int .i64 b.p, .bool b.s, .slice b.A b.l.length b.c, .string b.S, .slice b.B b.m b.d, .int .i64 c.k, .int .i64 c.p, .bool c.s, .slice c.A c.l.length c.c, .string c.S, .slice c.B c.m c.d] 27)) (by simp) (vals_three a b c _ _ ⟨World.alloc_heap_new w5 _⟩ (((ha.on hbW).on h).on (al1 w5 _)) (((hb.on hbW).on h).on (al1 w5 _)) (((hc.on hbW).on h).on (al1 w5 _))) (by simp)
 rw [hf] at hl
 clear hf hm hd0
 replace hszW := Lib.hid hszW
 obtain ⟨x0, x1, x2, x3, x4, x5⟩ := cL6 K0.h
 obtain ⟨y0, y1, y2, y3, y4, y5⟩ := cL6 K1.h
 obtain ⟨z0, z1, z2, z3, z4, z5⟩ := cL6 K2.h
 go_enter Tryz.func8, Tryz.ntmps8
 go_wp2_with first
  | (go_at_call 28; have hmark := b5; refine (hl _ b5).mono ?_; rintro e w6 ⟨rfl, b6⟩)
  | (go_at_call 16; refine hs.mono ?_; rintro e w5 ⟨rfl, b5⟩; clear x0 x1 x2 x3 x4 x5 y0 y1 y2 y3 y4 y5 z0 z1 z2 z3 z4 z5; obtain ⟨x0, x1, x2, x3, x4, x5⟩ := cL6 (K0.on b5).h; obtain ⟨y0, y1, y2, y3, y4, y5⟩ := cL6 (K1.on b5).h; obtain ⟨z0, z1, z2, z3, z4, z5⟩ := cL6 (K2.on b5).h)
 go_ret
 have a1 := al1 w5 (.cells #[.int .i64 a.k, .int .i64 a.p, .bool a.s, .slice a.A a.l.length a.c, .string a.S, .slice a.B a.m a.d, .int .i64 b.k, .int .i64 b.p, .bool b.s, .slice b.A b.l.length b.c, .string b.S, .slice b.B b.m b.d, .int .i64 c.k, .int .i64 c.p, .bool c.s, .slice c.A c.l.length c.c, .string c.S, .slice c.B c.m c.d] 27)
 exact ⟨rfl, hbW.trans ((b5.trans ((a1.trans (b6.mono a1.size)).mono b5.size)).mono hbW.size)⟩
theorem DecExact_calls (a b c : VA) (w : World) (ha : a.At w) (hb : b.At w) (hc : c.At w) (hd0 : DigW w) (m : Int) (hm : w.cell? ⟨1, 0, none⟩ = some (.int .i64 m)) :
 Calls Tryz.prog 8 #[a.val, b.val, c.val] w fun e w' => e = .returned (.bool true) ∧ Below w.heap.size w w' := by
 cases hf : [a, b, c].all fmB
 · exact DecExact_no a b c w ha hb hc hf hd0 m hm
 · have h3 := hf
   simp only [List.all_cons, List.all_nil, Bool.and_true, Bool.and_eq_true, fmB] at h3
   obtain ⟨⟨-, oa⟩, ⟨-, ob⟩, -, oc⟩ := h3
   obtain ⟨p, n1, A1, c1, l1, B1, d1, e1, i1, D1, -, -⟩ := VA.destruct ha.rd.words oa
   obtain ⟨q, n2, A2, c2, l2, B2, d2, e2, i2, D2, -, -⟩ := VA.destruct hb.rd.words ob
   obtain ⟨r, n3, A3, c3, l3, B3, d3, e3, i3, D3, -, -⟩ := VA.destruct hc.rd.words oc
   generalize a.z = za at *
   generalize b.z = zb at *
   generalize c.z = zc at *
   subst e1 e2 e3
   obtain ⟨u1, t1, x1, hE1, he1⟩ := strip_cases (unitsZ za p + unitsZ zb q)
   obtain ⟨u2, t2, x2, hE2, he2⟩ := strip_cases (nearZ (unitsZ za p * unitsZ zb q) (10 ^ 20))
   obtain ⟨u3, t3, x3, hE3, he3⟩ := strip_cases (unitsZ zb q + unitsZ zc r)
   by_cases hne : x1 = 0 ∧ x3 = 0
   · obtain ⟨rfl, rfl⟩ := hne
     exact exact_late n1 n2 n3 A1 A2 A3 c1 c2 c3 l1 l2 l3 za zb zc p q r B1 B2 B3 d1 d2 d3 w ⟨ha.rd, ha.cap, i1⟩ ⟨hb.rd, hb.cap, i2⟩ ⟨hc.rd, hc.cap, i3⟩ D1 D2 D3 hf hd0 m hm u1 u2 u3 t1 t2 t3 x2 _ hE1 hE2 hE3 (kd_ok rfl) rfl (kd_ok rfl) he2
   · exact exact_early n1 n2 n3 A1 A2 A3 c1 c2 c3 l1 l2 l3 za zb zc p q r B1 B2 B3 d1 d2 d3 w ⟨ha.rd, ha.cap, i1⟩ ⟨hb.rd, hb.cap, i2⟩ ⟨hc.rd, hc.cap, i3⟩ D1 D2 D3 hf hd0 m hm u1 u2 u3 t1 t2 t3 x1 x2 x3 _ _ _ hE1 hE2 hE3 rfl rfl rfl he1 he2 he3 hne
end Dc
end Go.Proofs.YtjghnghceeijeaaGreatDoor
