/-
  Contracts of the walks below.
-/
import Derived.Test.YtjghnghceeijeaaGreatDoorDp36
import Derived.Test.YtjghnghceeijeaaGreatDoorDs2
set_option maxRecDepth 100000
set_option maxHeartbeats 4000000
set_option linter.unusedVariables false
set_option linter.unusedSimpArgs false
namespace Go.Proofs.YtjghnghceeijeaaGreatDoor
namespace Dc
open Go.RowKit Go.Shelf Go.BigFrame Go.Proofs.YtjghnghceeijeaaGreatDoor.Nm
attribute [local go_sem] Oper.semAt_some
theorem DecSums_calls (a b : VA) (w : World) (ha : a.At w) (hb : b.At w) (hd0 : DigW w) (m : Int) (hm : w.cell? ⟨1, 0, none⟩ = some (.int .i64 m)) :
 Calls Tryz.prog 7 #[a.val, b.val] w fun e w' => e = .returned (.bool true) ∧ Below w.heap.size w w' := by
 obtain ⟨W, hW, hbW, K0, K1, hszW⟩ := box2 w #[.int .i64 a.k, .int .i64 a.p, .bool a.s, .slice a.A a.l.length a.c, .string a.S, .slice a.B a.m a.d] 27 #[.int .i64 b.k, .int .i64 b.p, .bool b.s, .slice b.A b.l.length b.c, .string b.S, .slice b.B b.m b.d] 27
 have hs := sane_c W (hd0.on hbW) m ((hbW.cell (p := ⟨1, 0, none⟩) (World.block_lt_of_cell? w _ hm)).trans hm)
 have hl := fun w5 (h : Below W.heap.size W w5) => light_c w5.heap.size [a, b] (w5.alloc (.cells #[.int .i64 a.k, .int .i64 a.p, .bool a.s, .slice a.A a.l.length a.c, .string a.S, .slice a.B a.m a.d, .int .i64 b.k, .int .i64 b.p, .bool b.s, .slice b.A b.l.length b.c, .string b.S, .slice b.B b.m b.d] 27)) (vals_two a b _ _ ⟨World.alloc_heap_new w5 _⟩ (((ha.on hbW).on h).on (al1 w5 _)) (((hb.on hbW).on h).on (al1 w5 _))) (by simp)
 have hd7 := fun W' (h : Below W.heap.size W W') => DAdd_calls a b W' ((ha.on hbW).on h) ((hb.on hbW).on h)
 have hr7 := fun W' (h : Below W.heap.size W W') => RAdd_calls a b W' ((ha.on hbW).on h) ((hb.on hbW).on h)
 obtain ⟨x, hx⟩ : ∃ x, addX a b = x := ⟨_, rfl⟩
 rw [hx] at hd7 hr7
 have hd8 := fun W' (h : Below W.heap.size W W') => DSub_calls a b W' ((ha.on hbW).on h) ((hb.on hbW).on h)
 have hr8 := fun W' (h : Below W.heap.size W W') => RSub_calls a b W' ((ha.on hbW).on h) ((hb.on hbW).on h)
 obtain ⟨y, hy⟩ : ∃ y, subX a b = y := ⟨_, rfl⟩
 rw [hy] at hd8 hr8
 have hd9 := fun W' (h : Below W.heap.size W W') => DMul_calls a b W' ((ha.on hbW).on h) ((hb.on hbW).on h)
 have hr9 := fun W' (h : Below W.heap.size W W') => RMul_calls a b W' ((ha.on hbW).on h) ((hb.on hbW).on h)
 obtain ⟨u, hu⟩ : ∃ u, mulX a b = u := ⟨_, rfl⟩
 rw [hu] at hd9 hr9
 have hd10 := fun W' (h : Below W.heap.size W W') => DDiv_calls a b W' ((ha.on hbW).on h) ((hb.on hbW).on h)
 have hr10 := fun W' (h : Below W.heap.size W W') => RDiv_calls a b W' ((ha.on hbW).on h) ((hb.on hbW).on h)
 obtain ⟨v, hv⟩ : ∃ v, divX a b = v := ⟨_, rfl⟩
 rw [hv] at hd10 hr10
 obtain ⟨lb, hlb⟩ : ∃ r, [a, b].all lightB = r := ⟨_, rfl⟩
 rw [hlb] at hl
 clear hx hy hu hv hlb hm hd0
 replace hszW := Lib.hid hszW
 obtain ⟨x0, x1, x2, x3, x4, x5⟩ := cL6 K0.h
 obtain ⟨y0, y1, y2, y3, y4, y5⟩ := cL6 K1.h
 cases lb
 · go_enter Tryz.func7, Tryz.ntmps7
   go_wp2_with first
    | (go_at_call 17; have hmark := b5; refine (hl _ b5).mono ?_; rintro e w6 ⟨rfl, rfl⟩)
    | (go_at_call 16; refine hs.mono ?_; rintro e w5 ⟨rfl, b5⟩; clear x0 x1 x2 x3 x4 x5 y0 y1 y2 y3 y4 y5; obtain ⟨x0, x1, x2, x3, x4, x5⟩ := cL6 (K0.on b5).h; obtain ⟨y0, y1, y2, y3, y4, y5⟩ := cL6 (K1.on b5).h)
   go_ret
   exact ⟨rfl, hbW.trans ((b5.trans ((al1 w5 (.cells #[.int .i64 a.k, .int .i64 a.p, .bool a.s, .slice a.A a.l.length a.c, .string a.S, .slice a.B a.m a.d, .int .i64 b.k, .int .i64 b.p, .bool b.s, .slice b.A b.l.length b.c, .string b.S, .slice b.B b.m b.d] 27)).mono b5.size)).mono hbW.size)⟩
 · go_enter Tryz.func7, Tryz.ntmps7
   go_upto_region 8 with first
    | (go_at_call 36; have hmark := p9; refine (hd10 _ p9).mono ?_; rintro e w10 ⟨v10, rfl, ⟨s10, A10, c10, l10, rfl, I10⟩, b10⟩; have q10 := p9.trans (b10.mono p9.size); have a10 := al1 w10 (.cells #[.int .i64 (kd v), .int .i64 (v.2.1 : Int), .bool s10, .slice A10 l10.length c10, .string ⟨#[]⟩, .slice none 0 0] 27); have p10 := q10.trans (a10.mono q10.size); clear x0 x1 x2 x3 x4 x5 y0 y1 y2 y3 y4 y5; obtain ⟨x0, x1, x2, x3, x4, x5⟩ := cL6 (K0.on p10).h; obtain ⟨y0, y1, y2, y3, y4, y5⟩ := cL6 (K1.on p10).h)
    | (go_at_call 30; have hmark := p8; refine (hd9 _ p8).mono ?_; rintro e w9 ⟨v9, rfl, ⟨s9, A9, c9, l9, rfl, I9⟩, b9⟩; have q9 := p8.trans (b9.mono p8.size); have a9 := al1 w9 (.cells #[.int .i64 (kd u), .int .i64 (u.2.1 : Int), .bool s9, .slice A9 l9.length c9, .string ⟨#[]⟩, .slice none 0 0] 27); have p9 := q9.trans (a9.mono q9.size); clear x0 x1 x2 x3 x4 x5 y0 y1 y2 y3 y4 y5; obtain ⟨x0, x1, x2, x3, x4, x5⟩ := cL6 (K0.on p9).h; obtain ⟨y0, y1, y2, y3, y4, y5⟩ := cL6 (K1.on p9).h)
    | (go_at_call 39; have hmark := p7; refine (hd8 _ p7).mono ?_; rintro e w8 ⟨v8, rfl, ⟨s8, A8, c8, l8, rfl, I8⟩, b8⟩; have q8 := p7.trans (b8.mono p7.size); have a8 := al1 w8 (.cells #[.int .i64 (kd y), .int .i64 (y.2.1 : Int), .bool s8, .slice A8 l8.length c8, .string ⟨#[]⟩, .slice none 0 0] 27); have p8 := q8.trans (a8.mono q8.size); clear x0 x1 x2 x3 x4 x5 y0 y1 y2 y3 y4 y5; obtain ⟨x0, x1, x2, x3, x4, x5⟩ := cL6 (K0.on p8).h; obtain ⟨y0, y1, y2, y3, y4, y5⟩ := cL6 (K1.on p8).h)
    | (go_at_call 38; have hmark := p6; refine (hd7 _ p6).mono ?_; rintro e w7 ⟨v7, rfl, ⟨s7, A7, c7, l7, rfl, I7⟩, b7⟩; have q7 := p6.trans (b7.mono p6.size); have a7 := al1 w7 (.cells #[.int .i64 (kd x), .int .i64 (x.2.1 : Int), .bool s7, .slice A7 l7.length c7, .string ⟨#[]⟩, .slice none 0 0] 27); have p7 := q7.trans (a7.mono q7.size); clear x0 x1 x2 x3 x4 x5 y0 y1 y2 y3 y4 y5; obtain ⟨x0, x1, x2, x3, x4, x5⟩ := cL6 (K0.on p7).h; obtain ⟨y0, y1, y2, y3, y4, y5⟩ := cL6 (K1.on p7).h)
    | (go_at_call 17; have hmark := b5; refine (hl _ b5).mono ?_; rintro e w6 ⟨rfl, rfl⟩; have p6 := b5.trans ((al1 w5 (.cells #[.int .i64 a.k, .int .i64 a.p, .bool a.s, .slice a.A a.l.length a.c, .string a.S, .slice a.B a.m a.d, .int .i64 b.k, .int .i64 b.p, .bool b.s, .slice b.A b.l.length b.c, .string b.S, .slice b.B b.m b.d] 27)).mono b5.size); clear x0 x1 x2 x3 x4 x5 y0 y1 y2 y3 y4 y5; obtain ⟨x0, x1, x2, x3, x4, x5⟩ := cL6 (K0.on p6).h; obtain ⟨y0, y1, y2, y3, y4, y5⟩ := cL6 (K1.on p6).h)
    | (go_at_call 16; refine hs.mono ?_; rintro e w5 ⟨rfl, b5⟩; clear x0 x1 x2 x3 x4 x5 y0 y1 y2 y3 y4 y5; obtain ⟨x0, x1, x2, x3, x4, x5⟩ := cL6 (K0.on b5).h; obtain ⟨y0, y1, y2, y3, y4, y5⟩ := cL6 (K1.on b5).h)
   obtain ⟨W9, hW9, hb9, KW10, hsz9⟩ := box1 w10 #[.int .i64 (kd v), .int .i64 (v.2.1 : Int), .bool s10, .slice A10 l10.length c10, .string ⟨#[]⟩, .slice none 0 0] 27
   rw [hW9]
   have f10 := b10.trans (hb9.mono b10.size)
   have e9 := a9.trans (f10.mono a9.size)
   have f9 := b9.trans (e9.mono b9.size)
   have e8 := a8.trans (f9.mono a8.size)
   have f8 := b8.trans (e8.mono b8.size)
   have e7 := a7.trans (f8.mono a7.size)
   have KW9 := (blk_new w9 #[.int .i64 (kd u), .int .i64 (u.2.1 : Int), .bool s9, .slice A9 l9.length c9, .string ⟨#[]⟩, .slice none 0 0] 27).on f10
   have KW8 := (blk_new w8 #[.int .i64 (kd y), .int .i64 (y.2.1 : Int), .bool s8, .slice A8 l8.length c8, .string ⟨#[]⟩, .slice none 0 0] 27).on f9
   have KW7 := (blk_new w7 #[.int .i64 (kd x), .int .i64 (x.2.1 : Int), .bool s7, .slice A7 l7.length c7, .string ⟨#[]⟩, .slice none 0 0] 27).on f8
   have qW9 := q10.trans (hb9.mono q10.size)
   have KA := K0.on qW9
   have KB := K1.on qW9
   replace I7 := I7.on e7
   replace I8 := I8.on e8
   replace I9 := I9.on e9
   replace I10 := I10.on hb9
   have hr7' := fun W' (h : Below W9.heap.size W9 W') => hr7 W' (qW9.trans (h.mono qW9.size))
   have hr8' := fun W' (h : Below W9.heap.size W9 W') => hr8 W' (qW9.trans (h.mono qW9.size))
   have hr9' := fun W' (h : Below W9.heap.size W9 W') => hr9 W' (qW9.trans (h.mono qW9.size))
   have hr10' := fun W' (h : Below W9.heap.size W9 W') => hr10 W' (qW9.trans (h.mono qW9.size))
   have qW := hbW.trans (qW9.mono hbW.size)
   clear x0 x1 x2 x3 x4 x5 y0 y1 y2 y3 y4 y5 hs hl hd7 hd8 hd9 hd10 hr7 hr8 hr9 hr10 hW9 f10 f9 f8 e9 e8 e7 hb9 qW9 b10 q10 p10 a10 b9 q9 p9 a9 b8 q8 p8 a8 b7 q7 p7 a7 p6 b5 K0 K1 ha hb hbW
   generalize w10.heap.size = g10 at *
   generalize w9.heap.size = g9 at *
   generalize w8.heap.size = g8 at *
   generalize w7.heap.size = g7 at *
   have HS : ∀ W', Below W9.heap.size W9 W' → (fun w'' => VK w'' g7 (kd x) (x.2.1 : Int) s7 A7 l7.length c7 ⟨#[]⟩ none 0 0 ∧ VK w'' g8 (kd y) (y.2.1 : Int) s8 A8 l8.length c8 ⟨#[]⟩ none 0 0 ∧ VK w'' g9 (kd u) (u.2.1 : Int) s9 A9 l9.length c9 ⟨#[]⟩ none 0 0 ∧ VK w'' g10 (kd v) (v.2.1 : Int) s10 A10 l10.length c10 ⟨#[]⟩ none 0 0 ∧ VK w'' w.heap.size a.k a.p a.s a.A a.l.length a.c a.S a.B a.m a.d ∧ VK w'' (w.heap.size + 1) b.k b.p b.s b.A b.l.length b.c b.S b.B b.m b.d) W' := fun W' q => ⟨vk_of KW7 q, vk_of KW8 q, vk_of KW9 q, vk_of KW10 q, vk_of KA q, vk_of KB q⟩
   have H0 := HS _ (Below.refl _ _)
   replace HS := Lib.hid HS
   try dsimp only at H0
   go_region_held3 (fun w'' => VK w'' g7 (kd x) (x.2.1 : Int) s7 A7 l7.length c7 ⟨#[]⟩ none 0 0 ∧ VK w'' g8 (kd y) (y.2.1 : Int) s8 A8 l8.length c8 ⟨#[]⟩ none 0 0 ∧ VK w'' g9 (kd u) (u.2.1 : Int) s9 A9 l9.length c9 ⟨#[]⟩ none 0 0 ∧ VK w'' g10 (kd v) (v.2.1 : Int) s10 A10 l10.length c10 ⟨#[]⟩ none 0 0 ∧ VK w'' w.heap.size a.k a.p a.s a.A a.l.length a.c a.S a.B a.m a.d ∧ VK w'' (w.heap.size + 1) b.k b.p b.s b.A b.l.length b.c b.S b.B b.m b.d) ((first | (with_reducible exact H0) | (with_reducible exact ⟨vk_drew H0.1, vk_drew H0.2.1, vk_drew H0.2.2.1, vk_drew H0.2.2.2.1, vk_drew H0.2.2.2.2.1, vk_drew H0.2.2.2.2.2⟩)))
    ((first
     | (go_at_call 20; have hmark := q26; refine (got_calls v s10 s26 A10 A26 c10 c26 l10 l26 B26 d26 _ (I10.on q26) I26).mono ?_; rintro e w27 ⟨rfl, b27⟩; have q27 := q26.trans (b27.mono q26.size); clear H0; have H0 := HS.out _ q27; (try dsimp only at H0))
     | (go_at_call 43; have hmark := q25; refine (hr10' _ q25).mono ?_; rintro e w26 ⟨s26, A26, c26, l26, B26, d26, rfl, I26, b26⟩; have q26 := q25.trans (b26.mono q25.size); clear H0; have H0 := HS.out _ q26; (try dsimp only at H0))
     | (go_at_call 20; have hmark := q24; refine (got_calls u s9 s24 A9 A24 c9 c24 l9 l24 B24 d24 _ (I9.on q24) I24).mono ?_; rintro e w25 ⟨rfl, b25⟩; have q25 := q24.trans (b25.mono q24.size); clear H0; have H0 := HS.out _ q25; (try dsimp only at H0))
     | (go_at_call 42; have hmark := q23; refine (hr9' _ q23).mono ?_; rintro e w24 ⟨s24, A24, c24, l24, B24, d24, rfl, I24, b24⟩; have q24 := q23.trans (b24.mono q23.size); clear H0; have H0 := HS.out _ q24; (try dsimp only at H0))
     | (go_at_call 20; have hmark := q22; refine (got_calls y s8 s22 A8 A22 c8 c22 l8 l22 B22 d22 _ (I8.on q22) I22).mono ?_; rintro e w23 ⟨rfl, b23⟩; have q23 := q22.trans (b23.mono q22.size); clear H0; have H0 := HS.out _ q23; (try dsimp only at H0))
     | (go_at_call 41; have hmark := q21; refine (hr8' _ q21).mono ?_; rintro e w22 ⟨s22, A22, c22, l22, B22, d22, rfl, I22, b22⟩; have q22 := q21.trans (b22.mono q21.size); clear H0; have H0 := HS.out _ q22; (try dsimp only at H0))
     | (go_at_call 20; have hmark := q20; refine (got_calls x s7 s20 A7 A20 c7 c20 l7 l20 B20 d20 _ (I7.on q20) I20).mono ?_; rintro e w21 ⟨rfl, b21⟩; have q21 := q20.trans (b21.mono q20.size); clear H0; have H0 := HS.out _ q21; (try dsimp only at H0))
     | (go_at_call 40; refine (hr7' _ (below_drew (Below.refl W9.heap.size W9))).mono ?_; rintro e w20 ⟨s20, A20, c20, l20, B20, d20, rfl, I20, b20⟩; have q20 := (below_drew (Below.refl W9.heap.size W9)).trans (b20.mono (below_drew (Below.refl W9.heap.size W9)).size); clear H0; have H0 := HS.out _ q20; (try dsimp only at H0))))
   go_wp2_with fail
   go_ret
   exact ⟨rfl, qW.trans (q27.mono qW.size)⟩
end Dc
end Go.Proofs.YtjghnghceeijeaaGreatDoor
