/-
  Contracts of the walks below.
-/
import Derived.Test.YtjghnghceeijeaaGreatDoorDb21
set_option maxRecDepth 100000
set_option maxHeartbeats 4000000
set_option linter.unusedVariables false
set_option linter.unusedSimpArgs false
namespace Go.Proofs.YtjghnghceeijeaaGreatDoor
namespace Dc
open Go.RowKit Go.Shelf Go.BigFrame Go.Proofs.YtjghnghceeijeaaGreatDoor.Nm
attribute [local go_sem] Oper.semAt_some
theorem vcells_no {k p : Int} {s : Bool} {A : Option Addr} {n c : Nat} {S : ByteArray} {B : Option Addr} {m d : Nat} (i x : Nat) : (vcells k p s A n c S B m d)[i]? ≠ some (.int .u32 (x : Int)) := by
 intro h
 rcases i with _ | _ | _ | _ | _ | _ | i <;> simp at h
theorem storeV {W : World} {g : Nat} {t : TypeId} {k p k' p' : Int} {s s' : Bool} {A A' : Option Addr} {n c n' c' : Nat} {S S' : ByteArray} {B B' : Option Addr} {m d m' d' : Nat} (h : Blk W g (vcells k p s A n c S B m d) t) :
 ∃ X, ((((((W.setCell ⟨g, 0, none⟩ (.int .i64 k')).setCell ⟨g, 1, none⟩ (.int .i64 p')).setCell ⟨g, 2, none⟩ (.bool s')).setCell ⟨g, 3, none⟩ (.slice A' n' c')).setCell ⟨g, 4, none⟩ (.string S')).setCell ⟨g, 5, none⟩ (.slice B' m' d')) = X ∧ Blk X g (vcells k' p' s' A' n' c' S' B' m' d') t ∧ Nudge g W X ∧ Off (fun k => k = g) W X := by
 have h0 : Blk (W.setCell ⟨g, 0, none⟩ (.int .i64 k')) g (vcells k' p s A n c S B m d) t := ⟨set_blk h.h 0 _⟩
 have q0 : Nudge g W (W.setCell ⟨g, 0, none⟩ (.int .i64 k')) := (Nudge.of_below (.refl _ W) (Nat.le_of_lt (Array.getElem?_eq_some_iff.1 h.h).1)).set (Nat.le_refl _) h vcells_no 0 _
 have o0 : Off (fun k => k = g) W (W.setCell ⟨g, 0, none⟩ (.int .i64 k')) := (Off.refl (fun k => k = g) W).set (.inl rfl) 0 _
 generalize W.setCell ⟨g, 0, none⟩ (.int .i64 k') = X at *
 have h1 : Blk (X.setCell ⟨g, 1, none⟩ (.int .i64 p')) g (vcells k' p' s A n c S B m d) t := ⟨set_blk h0.h 1 _⟩
 have q1 : Nudge g W (X.setCell ⟨g, 1, none⟩ (.int .i64 p')) := q0.set (Nat.le_refl _) h0 vcells_no 1 _
 have o1 : Off (fun k => k = g) W (X.setCell ⟨g, 1, none⟩ (.int .i64 p')) := o0.set (.inl rfl) 1 _
 generalize X.setCell ⟨g, 1, none⟩ (.int .i64 p') = X1 at *
 have h2 : Blk (X1.setCell ⟨g, 2, none⟩ (.bool s')) g (vcells k' p' s' A n c S B m d) t := ⟨set_blk h1.h 2 _⟩
 have q2 : Nudge g W (X1.setCell ⟨g, 2, none⟩ (.bool s')) := q1.set (Nat.le_refl _) h1 vcells_no 2 _
 have o2 : Off (fun k => k = g) W (X1.setCell ⟨g, 2, none⟩ (.bool s')) := o1.set (.inl rfl) 2 _
 generalize X1.setCell ⟨g, 2, none⟩ (.bool s') = X2 at *
 have h3 : Blk (X2.setCell ⟨g, 3, none⟩ (.slice A' n' c')) g (vcells k' p' s' A' n' c' S B m d) t := ⟨set_blk h2.h 3 _⟩
 have q3 : Nudge g W (X2.setCell ⟨g, 3, none⟩ (.slice A' n' c')) := q2.set (Nat.le_refl _) h2 vcells_no 3 _
 have o3 : Off (fun k => k = g) W (X2.setCell ⟨g, 3, none⟩ (.slice A' n' c')) := o2.set (.inl rfl) 3 _
 generalize X2.setCell ⟨g, 3, none⟩ (.slice A' n' c') = X3 at *
 have h4 : Blk (X3.setCell ⟨g, 4, none⟩ (.string S')) g (vcells k' p' s' A' n' c' S' B m d) t := ⟨set_blk h3.h 4 _⟩
 have q4 : Nudge g W (X3.setCell ⟨g, 4, none⟩ (.string S')) := q3.set (Nat.le_refl _) h3 vcells_no 4 _
 have o4 : Off (fun k => k = g) W (X3.setCell ⟨g, 4, none⟩ (.string S')) := o3.set (.inl rfl) 4 _
 generalize X3.setCell ⟨g, 4, none⟩ (.string S') = X4 at *
 have h5 : Blk (X4.setCell ⟨g, 5, none⟩ (.slice B' m' d')) g (vcells k' p' s' A' n' c' S' B' m' d') t := ⟨set_blk h4.h 5 _⟩
 have q5 : Nudge g W (X4.setCell ⟨g, 5, none⟩ (.slice B' m' d')) := q4.set (Nat.le_refl _) h4 vcells_no 5 _
 have o5 : Off (fun k => k = g) W (X4.setCell ⟨g, 5, none⟩ (.slice B' m' d')) := o4.set (.inl rfl) 5 _
 generalize X4.setCell ⟨g, 5, none⟩ (.slice B' m' d') = X5 at *
 exact ⟨_, rfl, h5, q5, o5⟩
theorem IsV.nudge {x : DR} {n : Nat} {w W : World} {v : Value} (h : IsV x w v) (hb : Nudge n w W) : IsV x W v := let ⟨s, A, c, l, h1, h2⟩ := h; ⟨s, A, c, l, h1, h2.nudge hb⟩
theorem IsV.on {x : DR} {w W : World} {v : Value} (h : IsV x w v) (hb : Below w.heap.size w W) : IsV x W v := let ⟨s, A, c, l, h1, h2⟩ := h; ⟨s, A, c, l, h1, h2.on hb⟩
theorem Off.nudge {P : Nat → Prop} {w W X : World} {n : Nat} (h : Off P w W) (hb : Nudge n W X) (hn : w.heap.size ≤ n) : Off P w X :=
 ⟨hb.low.os.trans h.os, hb.low.tape.trans h.tape, hb.low.output.trans h.output, Nat.le_trans h.size hb.low.size, fun k h1 h2 => (hb.low.block k (by omega)).trans (h.block k h1 h2)⟩
def Bare (x : DR) : Prop := x.2.2 ≠ 0 → x.1 = 0 ∧ x.2.1 = 0
theorem kd_ok {x : DR} (h : x.2.2 = 0) : kd x = 3 := by unfold kd; rw [if_pos h]
theorem kd_no {x : DR} (h : x.2.2 ≠ 0) : kd x = 0 := by unfold kd; rw [if_neg h]
theorem isV_none {x : DR} (hb : Bare x) (h : x.2.2 ≠ 0) (w : World) : IsV x w (vv 0 0 false none 0 0 ⟨#[]⟩ none 0 0) :=
 ⟨false, none, 0, [], by rw [kd_no h, (hb h).2]; rfl, by rw [(hb h).1]; exact IV.zero w⟩
theorem val_size : (Tryz.prog.info? 27).map (·.size) = some 6 := by kernel_rfl
theorem ret_cellT_tmp {fn : Func} {p u : Tmp} {T : TypeId} {cur : Array Value} {n : Nat} {fs : Array Field} (h : fn.results = #[.cell p T, .tmp u]) (hu : Tryz.prog.underlying T = some (.struct fs)) (hi : (Tryz.prog.info? T).map (·.size) = some n)
 {a : Act} {w : World} {g : Nat} {R : Ending → World → Prop} (hd0 : a.defers = []) (hp : a.tmps.getD p undef = .pointer (some ⟨g, 0, none⟩))
 (hg : w.heap[g]? = some (.cells cur T (0, 0))) (hn : n = cur.size) (hR : R (.returned (.tuple #[.agg cur, a.tmps.getD u undef])) w) : bodyPost Tryz.prog fn R .ret a w := by
 refine bodyPost_ret (v := .tuple #[.agg cur, a.tmps.getD u undef]) ?_ hd0 hR
 rw [results_cell_tmp h, hp]
 simp [asAddr, Result.andThen, run_loadVar_row w g T T cur (0, 0) _ hg hu rfl (hn ▸ hi)]
theorem value1_calls (P : Nat → Prop) (G : Nat) (caps : Array Value) (hG : ∀ (args : Array Value) (w : World), (callFunc G args).run Tryz.prog w = .ok (.enter G args) w) (gf gv : Nat) (x : DR) (w : World) (R : World → Prop)
 (Kf : Blk w gf #[.func (.func G) #[] caps] 101) (Kv : Blk w gv (vcells 0 0 false none 0 0 ⟨#[]⟩ none 0 0) 27) (hf : ¬ P gf) (hv : ¬ P gv) (hgv : gf < gv)
 (h : Calls Tryz.prog G caps w fun e w' => PostV P x w e w' ∧ R w') :
 Calls Tryz.prog 149 #[.pointer (some ⟨gf, 0, none⟩), .pointer (some ⟨gv, 0, none⟩)] w fun e w' => Went x.2.2 e ∧ ∃ w1, Off P w w1 ∧ R w1 ∧ Nudge gv w1 w' ∧ Off (fun k => k = gv) w1 w' ∧
  (x.2.2 = 0 → ∃ s A c l, Blk w' gv (vcells 3 (x.2.1 : Int) s A l.length c ⟨#[]⟩ none 0 0) 27 ∧ IV w' s A c l x.1) ∧ (x.2.2 ≠ 0 → Blk w' gv (vcells 0 0 false none 0 0 ⟨#[]⟩ none 0 0) 27) := by
 have x0 := cell_at Kf.h 0 _ rfl
 by_cases h0 : x.2.2 = 0
 · go_enter Tryz.func149, Tryz.ntmps149
   go_wp2_with first
    | (refine h.mono ?_; rintro e w5 ⟨⟨o5, p5, -⟩, r5⟩; obtain ⟨v, rfl, s, A, c, l, rfl, I5⟩ := p5 h0; rw [kd_ok h0]; have K5 := o5.blk hv Kv; obtain ⟨u0, u1, u2, u3, u4, u5⟩ := cL6 K5.h; obtain ⟨f0, f1, f2, f3, f4, f5⟩ := fZ6 K5.h)
   obtain ⟨X, hX, KX, NX, OX⟩ := storeV (k' := 3) (p' := (x.2.1 : Int)) (s' := s) (A' := A) (n' := l.length) (c' := c) (S' := ⟨#[]⟩) (B' := none) (m' := 0) (d' := 0) K5
   rw [hX]
   go_end0
   exact ⟨⟨fun _ => rfl, fun h => absurd h0 h⟩, w5, o5, r5, NX, OX, fun _ => ⟨s, A, c, l, KX, I5.nudge NX⟩, fun h => absurd h0 h⟩
 · go_enter Tryz.func149, Tryz.ntmps149
   go_wp2_with first
    | (refine h.mono ?_; rintro e w5 ⟨⟨o5, -, p5⟩, r5⟩; obtain rfl := p5 h0)
   exact ⟨rfl, ⟨fun h => absurd h h0, fun _ => rfl⟩, w5, o5, r5, .of_below (.refl _ _) (by have := (Array.getElem?_eq_some_iff.1 (o5.blk hv Kv).h).1; omega), .refl _ _, fun h => absurd h h0, fun _ => o5.blk hv Kv⟩
theorem value_calls (P : Nat → Prop) (G : Nat) (caps : Array Value) (hG : ∀ (args : Array Value) (w : World), (callFunc G args).run Tryz.prog w = .ok (.enter G args) w) (x : DR) (hx : Bare x) (w : World) (hP : ∀ k, P k → k < w.heap.size) (R : World → Prop)
 (h : ∀ W, Below w.heap.size w W → Calls Tryz.prog G caps W fun e w' => PostV P x W e w' ∧ R w') :
 Calls Tryz.prog 75 #[.func (.func G) #[] caps] w fun e w' => (∃ v, e = .returned (.tuple #[v, .int .i64 x.2.2]) ∧ IsV x w' v) ∧ Off P w w' ∧ ∃ w1, R w1 ∧ Nudge w.heap.size w1 w' := by
 have hmf := mkf
 obtain ⟨W, hW, hbW, K0, K1, hszW⟩ := box2 w #[.func (.func G) #[] caps] 101 (vcells 0 0 false none 0 0 ⟨#[]⟩ none 0 0) 27
 have hp1 : ¬ P w.heap.size := fun h => by have := hP _ h; omega
 have hp2 : ¬ P (w.heap.size + 1) := fun h => by have := hP _ h; omega
 have hp3 : ¬ P W.heap.size := fun h => by have := hP _ h; omega
 have hal : Below W.heap.size W (W.alloc (.cells #[.int .i64 0] 30)) := (Below.refl _ W).alloc (Nat.le_refl _) _
 have hg := guard_calls 149 #[.pointer (some ⟨w.heap.size, 0, none⟩), .pointer (some ⟨w.heap.size + 1, 0, none⟩)] (enters_of Tryz.func149 (by kernel_rfl) rfl) W x.2.2
  (fun w' => Off P w w' ∧ (∃ w1, R w1 ∧ Nudge w.heap.size w1 w') ∧ (x.2.2 = 0 → ∃ s A c l, Blk w' (w.heap.size + 1) (vcells 3 (x.2.1 : Int) s A l.length c ⟨#[]⟩ none 0 0) 27 ∧ IV w' s A c l x.1) ∧ (x.2.2 ≠ 0 → Blk w' (w.heap.size + 1) (vcells 0 0 false none 0 0 ⟨#[]⟩ none 0 0) 27))
  ((value1_calls P G caps hG w.heap.size (w.heap.size + 1) x _ R (K0.on hal) (K1.on hal) hp1 hp2 (by omega) (h _ (hbW.trans (hal.mono hbW.size)))).mono (by
   rintro e w' ⟨hw, w1, o1, r1, n1, o2, h1, h2⟩
   have hne : Blk w1 W.heap.size #[.int .i64 0] 30 := o1.blk hp3 ⟨World.alloc_heap_new W _⟩
   have hle := o1.size
   rw [World.size_alloc] at hle
   have hle2 := o2.size
   refine ⟨hw, o2.blk (by omega) hne, by omega, ?_, ⟨w1, r1, n1.mono (by omega)⟩, h1, h2⟩
   exact ((Off.of_below (hbW.trans (hal.mono hbW.size))).trans o1).nudge (n1.mono (by omega)) (Nat.le_refl _)))
 obtain ⟨z, p, er⟩ := x
 dsimp only at hg
 unfold Bare at hx
 by_cases h0 : er = 0
 · subst h0
   go_enter Tryz.func75, Tryz.ntmps75
   go_wp2_with first
    | (go_at_call 98; refine hg.mono ?_; rintro e w5 ⟨rfl, w4, ⟨o4, ⟨w3, r3, n3⟩, h4, -⟩, n4⟩; obtain ⟨s, A, c, l, K4, I4⟩ := h4 rfl; have K5 : Blk w5 (w.heap.size + 1) (vcells 3 (p : Int) s A l.length c ⟨#[]⟩ none 0 0) 27 := ⟨(n4.low.block _ (by omega)).trans K4.h⟩; obtain ⟨u0, u1, u2, u3, u4, u5⟩ := cL6 K5.h; obtain ⟨f0, f1, f2, f3, f4, f5⟩ := fZ6 K5.h)
   obtain ⟨X, hX, KX, NX, OX⟩ := storeV (k' := 3) (p' := (p : Int)) (s' := s) (A' := A) (n' := l.length) (c' := c) (S' := ⟨#[]⟩) (B' := none) (m' := 0) (d' := 0) K5
   rw [hX]
   exact ret_cellT_tmp rfl Tryz.underlying27 val_size rfl rfl KX.h rfl ⟨⟨_, rfl, s, A, c, l, rfl, (I4.nudge n4).nudge NX⟩, (o4.nudge n4 (by omega)).nudge NX (by omega), w3, r3, (n3.trans (n4.mono (by omega))).trans (NX.mono (by omega))⟩
 · have hb0 : (er != 0) = true := by rw [bne_iff_ne]; exact h0
   obtain ⟨e1, e2⟩ := hx h0
   dsimp only at e1 e2
   subst e1 e2
   have hd := isV_none (x := (0, 0, er)) (fun _ => ⟨rfl, rfl⟩) h0
   replace hx := Lib.hid h0
   clear h0
   go_enter Tryz.func75, Tryz.ntmps75
   go_wp2_with first
    | (go_at_call 98; refine hg.mono ?_; rintro e w5 ⟨rfl, w4, ⟨o4, ⟨w3, r3, n3⟩, -, h4⟩, n4⟩; have K4 := h4 hx.out; have K5 : Blk w5 (w.heap.size + 1) (vcells 0 0 false none 0 0 ⟨#[]⟩ none 0 0) 27 := ⟨(n4.low.block _ (by omega)).trans K4.h⟩; obtain ⟨u0, u1, u2, u3, u4, u5⟩ := cL6 K5.h; obtain ⟨f0, f1, f2, f3, f4, f5⟩ := fZ6 K5.h)
   obtain ⟨X, hX, KX, NX, OX⟩ := storeV (k' := 0) (p' := 0) (s' := false) (A' := none) (n' := 0) (c' := 0) (S' := ⟨#[]⟩) (B' := none) (m' := 0) (d' := 0) K5
   rw [hX]
   obtain ⟨Y, hY, KY, NY, OY⟩ := storeV (k' := 0) (p' := 0) (s' := false) (A' := none) (n' := 0) (c' := 0) (S' := ⟨#[]⟩) (B' := none) (m' := 0) (d' := 0) KX
   rw [hY]
   exact ret_cellT_tmp rfl Tryz.underlying27 val_size rfl rfl KY.h rfl ⟨⟨_, rfl, isV_none (x := (0, 0, er)) (fun _ => ⟨rfl, rfl⟩) hx.out Y⟩, ((o4.nudge n4 (by omega)).nudge NX (by omega)).nudge NY (by omega), w3, r3, ((n3.trans (n4.mono (by omega))).trans (NX.mono (by omega))).trans (NY.mono (by omega))⟩
theorem icells_no {s : Bool} {A : Option Addr} {n c : Nat} (i x : Nat) : (#[.bool s, .slice A n c] : Array Value)[i]? ≠ some (.int .u32 (x : Int)) := by
 intro h
 rcases i with _ | _ | i <;> simp at h
theorem storeI {W : World} {g : Nat} {t : TypeId} {s s' : Bool} {A A' : Option Addr} {n c n' c' : Nat} (h : Blk W g #[.bool s, .slice A n c] t) :
 ∃ X, ((W.setCell ⟨g, 0, none⟩ (.bool s')).setCell ⟨g, 1, none⟩ (.slice A' n' c')) = X ∧ Blk X g #[.bool s', .slice A' n' c'] t ∧ Nudge g W X ∧ Off (fun k => k = g) W X := by
 have h0 : Blk (W.setCell ⟨g, 0, none⟩ (.bool s')) g #[.bool s', .slice A n c] t := ⟨set_blk h.h 0 _⟩
 have q0 : Nudge g W (W.setCell ⟨g, 0, none⟩ (.bool s')) := (Nudge.of_below (.refl _ W) (Nat.le_of_lt (Array.getElem?_eq_some_iff.1 h.h).1)).set (Nat.le_refl _) h icells_no 0 _
 have o0 : Off (fun k => k = g) W (W.setCell ⟨g, 0, none⟩ (.bool s')) := (Off.refl (fun k => k = g) W).set (.inl rfl) 0 _
 generalize W.setCell ⟨g, 0, none⟩ (.bool s') = X at *
 exact ⟨_, rfl, ⟨set_blk h0.h 1 _⟩, q0.set (Nat.le_refl _) h0 icells_no 1 _, o0.set (.inl rfl) 1 _⟩
theorem blk_lt {W : World} {g : Nat} {cur : Array Value} {t : TypeId} (h : Blk W g cur t) : g < W.heap.size := (Array.getElem?_eq_some_iff.1 h.h).1
theorem Off.one {W X : World} {g g' : Nat} {cur : Array Value} {t : TypeId} (o : Off (fun k => k = g') W X) (h : Blk W g cur t) (hn : g ≠ g') : Blk X g cur t := o.blk hn h
theorem ret_cc {fn : Func} {p q : Tmp} (h : fn.results = #[.cell p 24, .cell q 24]) {a : Act} {w : World} {g1 g2 : Nat} {x1 y1 x2 y2 : Value} {R : Ending → World → Prop} (hd0 : a.defers = []) (hp : a.tmps.getD p undef = .pointer (some ⟨g1, 0, none⟩)) (hq : a.tmps.getD q undef = .pointer (some ⟨g2, 0, none⟩))
 (hg1 : Blk w g1 #[x1, y1] 24) (hg2 : Blk w g2 #[x2, y2] 24) (hR : R (.returned (.tuple #[.agg #[x1, y1], .agg #[x2, y2]])) w) : bodyPost Tryz.prog fn R .ret a w := by
 refine bodyPost_ret (v := .tuple #[.agg #[x1, y1], .agg #[x2, y2]]) ?_ hd0 hR
 have e1 := run_loadVar_row (P := Tryz.prog) w g1 24 24 #[x1, y1] (0, 0) _ hg1.h Tryz.underlying24 rfl int_size
 have e2 := run_loadVar_row (P := Tryz.prog) w g2 24 24 #[x2, y2] (0, 0) _ hg2.h Tryz.underlying24 rfl int_size
 rw [Array.getD_eq_getD_getElem?] at hp hq
 simp [results, h, hp, hq, asAddr, Result.andThen, e1, e2, Sem.run_bind]
theorem blk_drew {W : World} {g : Nat} {cur : Array Value} {t : TypeId} (h : Blk W g cur t) : Blk W.drew g cur t := ⟨h.h⟩
theorem nudge_drew {n : Nat} {W X : World} (h : Nudge n W X) : Nudge n W X.drew := ⟨h.low.drew, fun A l hA => (h.rd A l hA).on (Below.drew (.refl _ _))⟩
theorem split_z (n1 n2 : Bool) (A1 A2 : Option Addr) (c1 c2 : Nat) (l1 l2 : List Nat) (z1 z2 : Int) (w : World) (I1 : IV w n1 A1 c1 l1 z1) (I2 : IV w n2 A2 c2 l2 z2) (f1 : Lz 300 z1) (f2 : Lz 300 z2) (h0 : 0 < z2) :
 Calls Tryz.prog 130 #[iv n1 A1 l1.length c1, iv n2 A2 l2.length c2] w (RetI2 (z1 / z2) (z1 % z2) w) := by
 obtain ⟨W, hW, hbW, K0, K1, K2, K3, hszW⟩ := box4 w #[.bool n1, .slice A1 l1.length c1] 24 #[.bool n2, .slice A2 l2.length c2] 24 #[.bool false, .slice none 0 0] 24 #[.bool false, .slice none 0 0] 24
 obtain ⟨x0, x1⟩ := cL2 K0.h
 obtain ⟨y0, y1⟩ := cL2 K1.h
 have h := Div_calls n1 n2 A1 A2 c1 c2 l1 l2 W (I1.on hbW).rd (I2.on hbW).rd I1.cap I2.cap
 rw [divR_z (I1.okZ f1.len) (I2.okZ f2.len), if_neg (by omega), divZ_pos h0, modZ_pos h0] at h
 dsimp only at h
 generalize z1 / z2 = q at *
 generalize z1 % z2 = r at *
 clear f1 f2 h0
 go_enter Tryz.func130, Tryz.ntmps130
 go_wp2_with first
  | (go_at_call 78; have hmark := b5; obtain ⟨X, hX, KX, NX, OX⟩ := storeI (s' := s1) (A' := B1) (n' := m1.length) (c' := d1) (K2.on b5); obtain ⟨Y, hY, KY, NY, OY⟩ := storeI (s' := s2) (A' := B2) (n' := m2.length) (c' := d2) (OX.one (K3.on b5) (by omega)); rw [hX, hY]; refine (need_ok _).mono ?_; rintro e w6 ⟨rfl, rfl⟩; replace KX := OY.one KX (by omega); obtain ⟨a0, a1⟩ := cL2 KX.h; obtain ⟨e0, e1⟩ := fZ2 KX.h; obtain ⟨i0, i1⟩ := cL2 KY.h; obtain ⟨j0, j1⟩ := fZ2 KY.h)
  | (go_at_call 198; refine h.mono ?_; rintro e w5 ⟨s1, B1, d1, m1, s2, B2, d2, m2, rfl, k1, k2, hc1, hc2, hr1, hr2, b5⟩; obtain ⟨u0, u1⟩ := cL2 (K2.on b5).h; obtain ⟨f0, f1⟩ := fZ2 (K2.on b5).h; obtain ⟨v0, v1⟩ := cL2 (K3.on b5).h; obtain ⟨g0, g1⟩ := fZ2 (K3.on b5).h)
 go_region
 go_wp2_with fail
 obtain ⟨X', hX', KX', NX', OX'⟩ := storeI (s' := s1) (A' := B1) (n' := m1.length) (c' := d1) KX
 obtain ⟨Y', hY', KY', NY', OY'⟩ := storeI (s' := s2) (A' := B2) (n' := m2.length) (c' := d2) (OX'.one KY (by omega))
 rw [hX', hY']
 have N := nudge_drew (((NX.trans (NY.mono (by omega))).trans (NX'.mono (by omega))).trans (NY'.mono (by omega)))
 exact ret_cc rfl rfl rfl rfl (blk_drew (OY'.one KX' (by omega))) (blk_drew KY') ⟨s1, B1, d1, m1, s2, B2, d2, m2, rfl, (IV.mk hr1 hc1 k1).nudge N, (IV.mk hr2 hc2 k2).nudge N, (hbW.trans (b5.mono hbW.size)).trans (N.low.mono (by omega))⟩
def TwoIn (w0 : World) (g : Nat) (a b : Int) (wx : World) : Prop :=
 ∃ s A c l s' A' c' l', Blk wx g #[.bool s, .slice A (List.length l) c] 24 ∧ Blk wx (g + 1) #[.bool s', .slice A' (List.length l') c'] 24 ∧ Blk wx (g + 1 + 1) #[.bool false, .slice none 0 0] 24 ∧ IV wx s A c l a ∧ IV wx s' A' c' l' b ∧ Below g w0 wx
theorem cell_set_ne {W : World} {p a : Addr} {v x : Value} (h : W.cell? p = some x) (hne : p.block ≠ a.block) : (W.setCell a v).cell? p = some x := (World.cell?_of_block (Below.heap_setCell W a v p.block hne)).trans h
theorem nearest_z (n1 n2 : Bool) (A1 A2 : Option Addr) (c1 c2 : Nat) (l1 l2 : List Nat) (z1 z2 : Int) (w : World) (I1 : IV w n1 A1 c1 l1 z1) (I2 : IV w n2 A2 c2 l2 z2) (f1 : Lz 300 z1) (f2 : Lz 300 z2) (h0 : z2 ≠ 0) :
 Calls Tryz.prog 84 #[iv n1 A1 l1.length c1, iv n2 A2 l2.length c2] w (RetI (nearZ z1 z2) w) := by
 obtain ⟨W, hW, hbW, K0, K1, K2, hszW⟩ := box3 w #[.bool n1, .slice A1 l1.length c1] 24 #[.bool n2, .slice A2 l2.length c2] 24 #[.bool false, .slice none 0 0] 24
 obtain ⟨x0, x1⟩ := cL2 K0.h
 obtain ⟨y0, y1⟩ := cL2 K1.h
 obtain ⟨a, ha⟩ : ∃ a, (if z2 < 0 then -z1 else z1) = a := ⟨_, rfl⟩
 obtain ⟨b, hb⟩ : ∃ b, (if z2 < 0 then -z2 else z2) = b := ⟨_, rfl⟩
 have Hsg := Lib.hid I2.sgn
 obtain ⟨Z, hZ⟩ : ∃ Z, nearZ z1 z2 = Z := ⟨_, rfl⟩
 rw [hZ]
 replace hZ : Z = nearP a b := by rw [← hZ]; unfold nearZ; rw [← ha, ← hb]; split <;> rfl
 replace hZ := Lib.hid hZ
 go_enter Tryz.func84, Tryz.ntmps84
 go_upto_if 9 with fail
 go_cut [] from 10 to 13 (fun wx => TwoIn w w.heap.size a b wx)
 case first =>
  by_cases hz : z2 < 0
  · rw [if_pos hz] at ha hb
    obtain rfl : n2 = true := by rw [Hsg.out, decide_eq_true hz]
    subst ha hb
    clear Hsg hz
    go_wp2_with fail
    go_region_with (first
     | (go_at_call 113; have hmark := q5; refine (negative_z true A2 c2 l2 z2 _ (I2.on (hbW.trans (q5.mono hbW.size))) f2).mono ?_; rintro e w6 ⟨s6, A6, c6, l6, rfl, I6, b6⟩; have q6 := q5.trans (b6.mono q5.size); replace I5 := I5.on b6; obtain ⟨x0, x1⟩ := cL2 (K0.on q6).h; obtain ⟨y0, y1⟩ := cL2 (K1.on q6).h; obtain ⟨f0, f1⟩ := fZ2 (K0.on q6).h; obtain ⟨g0, g1⟩ := fZ2 (K1.on q6).h)
     | (go_at_call 113; refine (negative_z n1 A1 c1 l1 z1 _ (I1.on (hbW.trans ((below_drew (Below.refl _ W)).mono hbW.size))) f1).mono ?_; rintro e w5 ⟨s5, A5, c5, l5, rfl, I5, b5⟩; have q5 := (below_drew (Below.refl _ W)).trans b5; obtain ⟨y0, y1⟩ := cL2 (K1.on q5).h))
    all_goals
     obtain ⟨X, hX, KX, NX, OX⟩ := storeI (s' := s5) (A' := A5) (n' := l5.length) (c' := c5) (K0.on q6)
     obtain ⟨Y, hY, KY, NY, OY⟩ := storeI (s' := s6) (A' := A6) (n' := l6.length) (c' := c6) (OX.one (K1.on q6) (by omega))
     go_wp2_with fail
     go_meet
     rw [hX, hY]
     have N := NX.trans (NY.mono (by omega))
     exact ⟨s5, A5, c5, l5, s6, A6, c6, l6, OY.one KX (by omega), KY, OY.one (OX.one (K2.on q6) (by omega)) (by omega), I5.nudge N, I6.nudge N, (hbW.trans (q6.mono hbW.size)).trans N.low⟩
  · rw [if_neg hz] at ha hb
    obtain rfl : n2 = false := by rw [Hsg.out, decide_eq_false hz]
    subst ha hb
    clear Hsg hz
    go_wp2_with fail
    go_meet
    exact ⟨n1, A1, c1, l1, false, A2, c2, l2, K0, K1, K2, I1.on hbW, I2.on hbW, hbW⟩
 case rest =>
  obtain ⟨s3, A3, c3, l3, s4, A4, c4, l4, H0, H1, H2, I3, I4, hb3⟩ := hcut
  obtain ⟨u0, u1⟩ := cL2 H0.h
  obtain ⟨v0, v1⟩ := cL2 H1.h
  have hbp : 0 < b := by rw [← hb]; split <;> omega
  have fa : Lz 300 a := by rw [← ha]; split <;> first | exact f1.neg | exact f1
  have fb : Lz 300 b := by rw [← hb]; split <;> first | exact f2.neg | exact f2
  clear ha hb I1 I2 f1 f2 h0 Hsg K0 K1 K2 x0 x1 y0 y1 hW hbW hszW
  have hsp := split_z s3 s4 A3 A4 c3 c4 l3 l4 a b wc I3 I4 fa fb hbp
  have hN := hZ.out.trans (near_cmp a hbp)
  clear hZ
  have hr1 := Int.emod_nonneg a (show b ≠ 0 by omega)
  have hr2 := Int.emod_lt_of_pos a hbp
  have fr : Lz 300 (a % b) := fb.le (by omega)
  have fs : Lz 300 (b - a % b) := fb.le (by omega)
  have fq : Lz 300 (a / b) := by
   refine fa.le ?_
   have := Int.natAbs_ediv_le_natAbs a b
   omega
  have fq1 : 0 ≤ cmpZ (a % b) (b - a % b) → Lz 300 (a / b + 1) := fun h => by
   refine fa.le ?_
   have h1 : ¬ a % b < b - a % b := fun h' => by
    unfold cmpZ at h
    rw [if_pos h'] at h
    exact absurd h (by decide)
   have h2 := Int.mul_ediv_add_emod a b
   generalize a % b = r at *
   generalize a / b = q at *
   rcases Int.lt_or_le q 0 with h3 | h3
   · have h4 : b * q ≤ 2 * q := Int.mul_le_mul_of_nonpos_right (by omega) (by omega)
     have h5 : b * (q + 1) ≤ 1 * (q + 1) := Int.mul_le_mul_of_nonpos_right (by omega) (by omega)
     rw [Int.mul_add] at h5
     omega
   · have h4 : 2 * q ≤ b * q := Int.mul_le_mul_of_nonneg_right (by omega) h3
     omega
  generalize a % b = r at *
  generalize a / b = q at *
  have HN := Lib.hid hN
  replace hr1 := Lib.hid hr1
  replace hr2 := Lib.hid hr2
  clear hN hbp
  go_upto_region 4 with first
   | (go_at_call 130; refine hsp.mono ?_; rintro e w5 ⟨s5, A5, c5, l5, s6, A6, c6, l6, rfl, I5, I6, b5⟩)
  obtain ⟨W7, hW7, hbW7, Q0, Q1, hszW7⟩ := box2 w5 #[.bool s5, .slice A5 l5.length c5] 24 #[.bool s6, .slice A6 l6.length c6] 24
  rw [hW7]
  have hb7 := hb3.trans ((b5.trans (hbW7.mono b5.size)).mono hb3.size)
  have J3 := ((I4.on b5).on hbW7)
  have J5 := I5.on hbW7
  have J6 := I6.on hbW7
  have G1 := (H1.on b5).on hbW7
  have G2 := (H2.on b5).on hbW7
  have lw := (Array.getElem?_eq_some_iff.1 H2.h).1
  have lw5 := b5.size
  have a0 : W7.cell? ⟨w5.heap.size + 1, 0, none⟩ = some (.bool s6) := cell_at Q1.h 0 _ rfl
  have a1 : W7.cell? ⟨w5.heap.size + 1, 1, none⟩ = some (.slice A6 l6.length c6) := cell_at Q1.h 1 _ rfl
  have a2 : W7.cell? ⟨w.heap.size + 1, 0, none⟩ = some (.bool s4) := cell_at G1.h 0 _ rfl
  have a3 : W7.cell? ⟨w.heap.size + 1, 1, none⟩ = some (.slice A4 l4.length c4) := cell_at G1.h 1 _ rfl
  have hsb := fun W' (h : Below W7.heap.size W7 W') => sub_z s4 s6 A4 A6 c4 c6 l4 l6 b r W' (J3.on h) (J6.on h) fb fr fs
  have hcm := fun W' (h : Below W7.heap.size W7 W') s A c l (I : IV W' s A c l (b - r)) => Compare_z s6 s A6 A c6 c l6 l r (b - r) W' (J6.on h).rd I.rd J6.cap I.cap ((J6.on h).ok fr (by decide)) (I.ok fs (by decide))
  clear hW7 hsp H0 H1 H2 I3 I4 I5 I6 u0 u1 v0 v1
  generalize cmpZ r (b - r) = c at *
  go_region_held3 (fun w'' => w''.cell? ⟨w5.heap.size + 1, 0, none⟩ = some (.bool s6) ∧ w''.cell? ⟨w5.heap.size + 1, 1, none⟩ = some (.slice A6 l6.length c6) ∧ w''.cell? ⟨w.heap.size + 1, 0, none⟩ = some (.bool s4) ∧ w''.cell? ⟨w.heap.size + 1, 1, none⟩ = some (.slice A4 l4.length c4)) ((first | (with_reducible exact ⟨a0, a1, a2, a3⟩) | exact ⟨a0, a1, a2, a3⟩))
   ((first
    | (go_at_call 89; have hmark := q8; refine (hcm _ q8 _ _ _ _ I8).mono ?_; rintro e w9 ⟨rfl, b9⟩; clear a0 a1 a2 a3; have q9 := q8.trans (b9.mono q8.size); have a0 : w9.cell? ⟨w5.heap.size + 1, 0, none⟩ = some (.bool s6) := cell_at (Q1.on q9).h 0 _ rfl; have a1 : w9.cell? ⟨w5.heap.size + 1, 1, none⟩ = some (.slice A6 l6.length c6) := cell_at (Q1.on q9).h 1 _ rfl; have a2 : w9.cell? ⟨w.heap.size + 1, 0, none⟩ = some (.bool s4) := cell_at (G1.on q9).h 0 _ rfl; have a3 : w9.cell? ⟨w.heap.size + 1, 1, none⟩ = some (.slice A4 l4.length c4) := cell_at (G1.on q9).h 1 _ rfl)
    | (go_at_call 90; refine (hsb _ (below_drew (Below.refl _ W7))).mono ?_; rintro e w8 ⟨s8, A8, c8, l8, rfl, I8, b8⟩; clear a0 a1 a2 a3; have q8 := (below_drew (Below.refl _ W7)).trans b8; have a0 : w8.cell? ⟨w5.heap.size + 1, 0, none⟩ = some (.bool s6) := cell_at (Q1.on q8).h 0 _ rfl; have a1 : w8.cell? ⟨w5.heap.size + 1, 1, none⟩ = some (.slice A6 l6.length c6) := cell_at (Q1.on q8).h 1 _ rfl; have a2 : w8.cell? ⟨w.heap.size + 1, 0, none⟩ = some (.bool s4) := cell_at (G1.on q8).h 0 _ rfl; have a3 : w8.cell? ⟨w.heap.size + 1, 1, none⟩ = some (.slice A4 l4.length c4) := cell_at (G1.on q8).h 1 _ rfl)))
  clear a0 a1 a2 a3 hsb hcm
  have hb9 := hb7.trans (q9.mono hb7.size)
  have L0 := Q0.on q9
  have L2 := G2.on q9
  have M5 := J5.on q9
  have hne : w5.heap.size ≠ w.heap.size + 1 + 1 := by omega
  clear G1 G2 J3 J5 J6 Q0 Q1 I8 q8 b8 b9
  by_cases c0 : 0 < c
  · have hZ : Z = q + 1 := by rw [HN.out, if_pos (.inl c0)]
    have cb : decide (0 < c) = true := decide_eq_true c0
    have hc0 : 0 ≤ c := Int.le_of_lt c0
    subst hZ
    clear HN
    have d0 : w9.cell? ⟨w5.heap.size, 0, none⟩ = some (.bool s5) := cell_at L0.h 0 _ rfl
    have d1 : w9.cell? ⟨w5.heap.size, 1, none⟩ = some (.slice A5 l5.length c5) := cell_at L0.h 1 _ rfl
    have hadd := fun W' (h : Below w9.heap.size w9 W') s A c l (I : IV W' s A c l 1) => add_z s5 s A5 A c5 c l5 l q 1 W' (M5.on h) I fq ((Lz.of (k := 1) (by decide)).mono (by decide)) (fq1 hc0)
    go_wp2_with fail
    go_region_held3 (fun w'' => w''.cell? ⟨w5.heap.size, 0, none⟩ = some (.bool s5) ∧ w''.cell? ⟨w5.heap.size, 1, none⟩ = some (.slice A5 l5.length c5)) ((first | (with_reducible exact ⟨d0, d1⟩) | exact ⟨d0, d1⟩ | exact ⟨cell_set_ne (cell_set_ne d0 hne) hne, cell_set_ne (cell_set_ne d1 hne) hne⟩))
     ((first
      | (go_at_call 91; have hmark := q10; refine (hadd _ q10 _ _ _ _ I10).mono ?_; rintro e w11 ⟨s11, A11, c11, l11, rfl, I11, b11⟩; clear d0 d1; have q11 := q10.trans (b11.mono q10.size); have d0 : w11.cell? ⟨w5.heap.size, 0, none⟩ = some (.bool s5) := cell_at (L0.on q11).h 0 _ rfl; have d1 : w11.cell? ⟨w5.heap.size, 1, none⟩ = some (.slice A5 l5.length c5) := cell_at (L0.on q11).h 1 _ rfl; obtain ⟨e0, e1⟩ := cL2 (L2.on q11).h; obtain ⟨f0, f1⟩ := fZ2 (L2.on q11).h)
      | (go_at_call 92; refine (Of_calls 1 _ (by decide) (by decide)).mono ?_; rintro e w10 ⟨s10, A10, c10, l10, rfl, z10, n10, r10, b10⟩; have I10 : IV w10 s10 A10 c10 l10 1 := ⟨r10, n10, z10⟩; clear d0 d1; have q10 := (below_drew (Below.refl _ w9)).trans b10; have d0 : w10.cell? ⟨w5.heap.size, 0, none⟩ = some (.bool s5) := cell_at (L0.on q10).h 0 _ rfl; have d1 : w10.cell? ⟨w5.heap.size, 1, none⟩ = some (.slice A5 l5.length c5) := cell_at (L0.on q10).h 1 _ rfl)))
    go_wp2_with fail
    exact ret_cell rfl rfl rfl (set_blk (set_blk (L2.on q11).h 0 _) 1 _) (retI_end I11 (L2.on q11) (hb9.trans (q11.mono hb9.size)) (by omega))
  · have cb : decide (0 < c) = false := decide_eq_false c0
    by_cases c1 : c = 0
    · subst c1
      have hc0 : (0 : Int) ≤ 0 := Int.le_refl _
      have d0 : w9.cell? ⟨w5.heap.size, 0, none⟩ = some (.bool s5) := cell_at L0.h 0 _ rfl
      have d1 : w9.cell? ⟨w5.heap.size, 1, none⟩ = some (.slice A5 l5.length c5) := cell_at L0.h 1 _ rfl
      have hod := odd_z s5 A5 c5 l5 q w9 M5
      by_cases hq : q % 2 = 1
      · have hZ : Z = q + 1 := by rw [HN.out, if_pos (.inr ⟨rfl, hq⟩)]
        subst hZ
        rw [decide_eq_true hq] at hod
        clear HN hq
        go_upto_region 7 with first
         | (go_at_call 154; refine hod.mono ?_; rintro e w12 ⟨rfl, b12⟩; replace L0 := L0.on b12; replace L2 := L2.on b12; replace M5 := M5.on b12; replace hb9 := hb9.trans (b12.mono hb9.size))
        clear d0 d1
        have d0 : w12.cell? ⟨w5.heap.size, 0, none⟩ = some (.bool s5) := cell_at L0.h 0 _ rfl
        have d1 : w12.cell? ⟨w5.heap.size, 1, none⟩ = some (.slice A5 l5.length c5) := cell_at L0.h 1 _ rfl
        have hadd := fun W' (h : Below w12.heap.size w12 W') s A c l (I : IV W' s A c l 1) => add_z s5 s A5 A c5 c l5 l q 1 W' (M5.on h) I fq ((Lz.of (k := 1) (by decide)).mono (by decide)) (fq1 hc0)
        go_wp2_with fail
        go_region_held3 (fun w'' => w''.cell? ⟨w5.heap.size, 0, none⟩ = some (.bool s5) ∧ w''.cell? ⟨w5.heap.size, 1, none⟩ = some (.slice A5 l5.length c5)) ((first | (with_reducible exact ⟨d0, d1⟩) | exact ⟨d0, d1⟩ | exact ⟨cell_set_ne (cell_set_ne d0 hne) hne, cell_set_ne (cell_set_ne d1 hne) hne⟩))
         ((first
          | (go_at_call 91; have hmark := q10; refine (hadd _ q10 _ _ _ _ I10).mono ?_; rintro e w11 ⟨s11, A11, c11, l11, rfl, I11, b11⟩; clear d0 d1; have q11 := q10.trans (b11.mono q10.size); have d0 : w11.cell? ⟨w5.heap.size, 0, none⟩ = some (.bool s5) := cell_at (L0.on q11).h 0 _ rfl; have d1 : w11.cell? ⟨w5.heap.size, 1, none⟩ = some (.slice A5 l5.length c5) := cell_at (L0.on q11).h 1 _ rfl; obtain ⟨e0, e1⟩ := cL2 (L2.on q11).h; obtain ⟨f0, f1⟩ := fZ2 (L2.on q11).h)
          | (go_at_call 92; refine (Of_calls 1 _ (by decide) (by decide)).mono ?_; rintro e w10 ⟨s10, A10, c10, l10, rfl, z10, n10, r10, b10⟩; have I10 : IV w10 s10 A10 c10 l10 1 := ⟨r10, n10, z10⟩; clear d0 d1; have q10 := (below_drew (Below.refl _ w12)).trans b10; have d0 : w10.cell? ⟨w5.heap.size, 0, none⟩ = some (.bool s5) := cell_at (L0.on q10).h 0 _ rfl; have d1 : w10.cell? ⟨w5.heap.size, 1, none⟩ = some (.slice A5 l5.length c5) := cell_at (L0.on q10).h 1 _ rfl)))
        go_wp2_with fail
        exact ret_cell rfl rfl rfl (set_blk (set_blk (L2.on q11).h 0 _) 1 _) (retI_end I11 (L2.on q11) (hb9.trans (q11.mono hb9.size)) (by omega))
      · have hZ : Z = q := by rw [HN.out, if_neg (by omega)]
        subst hZ
        rw [decide_eq_false hq] at hod
        clear HN hq
        go_wp2_with first
         | (go_at_call 154; refine hod.mono ?_; rintro e w12 ⟨rfl, b12⟩; replace L0 := L0.on b12; replace L2 := L2.on b12; replace M5 := M5.on b12; replace hb9 := hb9.trans (b12.mono hb9.size); obtain ⟨i0, i1⟩ := cL2 L0.h; obtain ⟨e0, e1⟩ := cL2 L2.h; obtain ⟨f0, f1⟩ := fZ2 L2.h)
        exact ret_cell rfl rfl rfl (set_blk (set_blk L2.h 0 _) 1 _) (retI_end M5 L2 hb9 (by omega))
    · have hZ : Z = q := by rw [HN.out, if_neg (by omega)]
      have cc : (c == 0) = false := beq_eq_false_iff_ne.2 c1
      subst hZ
      clear HN c1
      obtain ⟨i0, i1⟩ := cL2 L0.h
      obtain ⟨e0, e1⟩ := cL2 L2.h
      obtain ⟨f0, f1⟩ := fZ2 L2.h
      go_wp2_with fail
      exact ret_cell rfl rfl rfl (set_blk (set_blk L2.h 0 _) 1 _) (retI_end M5 L2 hb9 (by omega))
theorem madeZ_step {z : Int} {k : Nat} (hk : 1 < k) (h : z % 10 = 0) : madeZ z k = madeZ (z / 10) (k - 1) := by
 obtain ⟨m, rfl⟩ : ∃ m, k = m + 2 := ⟨k - 2, by omega⟩
 unfold madeZ
 rw [if_neg (by omega), if_neg (by omega), strip, if_pos h]
 rfl
theorem madeZ_stop {z : Int} {k : Nat} (hk : 1 ≤ k) (h : k ≤ 1 ∨ z % 10 ≠ 0) : madeZ z k = (z, k) := by
 unfold madeZ
 rw [if_neg (by omega)]
 exact strip_id z k h
theorem madeZ_zero (z : Int) : madeZ z 0 = (z * 10, 1) := rfl
theorem madeE_of {z z' : Int} {p p' : Nat} (h : madeZ z p = (z', p')) (hl : Lz 40 z') : madeE z p = (z', p', 0) := by unfold madeE; rw [h, if_pos hl.len]
theorem madeE_no {z z' : Int} {p p' : Nat} (h : madeZ z p = (z', p')) (hl : ¬ Lz 40 z') : madeE z p = err 3 := by unfold madeE; rw [h, if_neg (fun h => hl ⟨h⟩)]
theorem len_le_iff {w : World} {s : Bool} {A : Option Addr} {c : Nat} {l : List Nat} {z : Int} {k : Nat} (I : IV w s A c l z) : l.length ≤ k ↔ Lz k z := ⟨fun h => ⟨by rw [← I.len]; exact h⟩, fun h => by rw [I.len]; exact h.len⟩
theorem PostV.no {x : DR} {P : Nat → Prop} {w w' : World} {er : Int} (hx : x = err er) (he : er ≠ 0) (o : Off P w w') : PostV P x w (.panicked (failure er)) w' := by
 subst hx
 exact ⟨o, fun h => absurd h he, fun _ => rfl⟩
theorem PostV.ok {x : DR} {P : Nat → Prop} {w w' : World} {z : Int} {p : Nat} {s : Bool} {A : Option Addr} {c : Nat} {l : List Nat} (hx : x = (z, p, 0)) (o : Off P w w') (I : IV w' s A c l z) : PostV P x w (.returned (vv 3 (p : Int) s A l.length c ⟨#[]⟩ none 0 0)) w' := by
 subst hx
 exact ⟨o, fun _ => ⟨_, rfl, s, A, c, l, rfl, I⟩, fun h => absurd rfl h⟩
theorem made_z (n1 : Bool) (A1 : Option Addr) (c1 : Nat) (l1 : List Nat) (z1 : Int) (p1 : Nat) (hp1 : p1 ≤ 20) (w : World) (I1 : IV w n1 A1 c1 l1 z1) (f1 : Lz 300 z1) :
 Calls Tryz.prog 85 #[iv n1 A1 l1.length c1, .int .i64 (p1 : Int)] w (PostV (fun _ => False) (madeE z1 p1) w) := by
 obtain ⟨W, hW, hbW, K0, K1, hszW⟩ := box2 w #[.bool n1, .slice A1 l1.length c1] 24 (vcells 0 0 false none 0 0 ⟨#[]⟩ none 0 0) 27
 have hten := Of_calls 10 W (by decide) (by decide)
 obtain ⟨E, hE⟩ : ∃ E, madeE z1 p1 = E := ⟨_, rfl⟩
 replace hE := Lib.hid hE
 rw [hE.out]
 go_enter Tryz.func85, Tryz.ntmps85
 go_wp2_with (go_at_call 92; refine hten.mono ?_; rintro e w5 ⟨s5, A5, c5, l5, rfl, z5, n5, r5, b5⟩)
 obtain ⟨W6, hW6, hbW6, Q0, hszW6⟩ := box1 w5 #[.bool s5, .slice A5 l5.length c5] 24
 rw [hW6]
 have b6 := b5.trans (hbW6.mono b5.size)
 have hb6 := hbW.trans (b6.mono hbW.size)
 have J5 : IV W6 s5 A5 c5 l5 10 := (IV.mk r5 n5 z5).on hbW6
 have H0 := K0.on b6
 have H1 := K1.on b6
 have G1 := (I1.on hbW).on b6
 have h5 : w.heap.size + 2 ≤ w5.heap.size := by have := b5.size; omega
 clear hW hW6 hten I1 b5 r5 n5 z5
 go_loopw [1] (fun iv Wl => ∃ (k : Nat) (z : Int) (s : Bool) (A : Option Addr) (c : Nat) (l : List Nat), iv = .int .i64 (k : Int) ∧ k ≤ 20 ∧ Blk Wl w.heap.size #[.bool s, .slice A l.length c] 24 ∧ IV Wl s A c l z ∧ Lz 300 z ∧ Below w.heap.size w Wl ∧ Hid (madeZ z1 p1 = madeZ z k) ∧ Blk Wl (w.heap.size + 1) (vcells 0 0 false none 0 0 ⟨#[]⟩ none 0 0) 27 ∧ Blk Wl w5.heap.size #[.bool s5, .slice A5 l5.length c5] 24 ∧ IV Wl s5 A5 c5 l5 10 ∧ w5.heap.size < Wl.heap.size) (fun iv _ => (intOf iv).toNat)
 case atStart => exact ⟨p1, z1, n1, A1, c1, l1, rfl, hp1, H0, G1, f1, hb6, rfl, H1, Q0, J5, by omega⟩
 case round =>
  obtain ⟨k, z, s, A, c, l, rfl, hk, D0, Iz, fz, hbl, hm, D1, D5, I5, hlt⟩ := hrel
  clear H0 H1 G1 Q0 J5 f1
  obtain ⟨x0, x1⟩ := cL2 D0.h
  obtain ⟨y0, y1⟩ := cL2 D5.h
  by_cases hk1 : 1 < k
  · have hkI : decide ((1 : Int) < (k : Int)) = true := decide_eq_true (by omega)
    have hsp := split_z s s5 A A5 c c5 l l5 z 10 wr Iz I5 fz ((Lz.of (k := 1) (by decide)).mono (by decide)) (by decide)
    by_cases hz0 : z % 10 = 0
    · have hm2 := Lib.hid (hm.out.trans (madeZ_step hk1 hz0))
      have fz2 : Lz 300 (z / 10) := fz.le (Int.natAbs_ediv_le_natAbs z 10)
      have hzc := fun W' s A c l (I : IV W' s A c l (z % 10)) => zero_c s A c l (z % 10) W' I
      rw [decide_eq_true hz0] at hzc
      generalize z / 10 = z' at *
      generalize z % 10 = r' at *
      clear hz0 hm fz
      go_upto_region 4 with first
       | (go_at_call 130; refine hsp.mono ?_; rintro e w7 ⟨s7, A7, c7, l7, s8, A8, c8, l8, rfl, I7, I8, b7⟩)
      obtain ⟨W8, hW8, hbW8, R0, R1, hszW8⟩ := box2 w7 #[.bool s7, .slice A7 l7.length c7] 24 #[.bool s8, .slice A8 l8.length c8] 24
      rw [hW8]
      have b8 := b7.trans (hbW8.mono b7.size)
      have l7' := b7.size
      replace D0 := D0.on b8
      replace D1 := D1.on b8
      replace D5 := D5.on b8
      replace I5 := I5.on b8
      replace I7 := I7.on hbW8
      replace I8 := I8.on hbW8
      clear hW8 hsp x0 x1 y0 y1 Iz
      obtain ⟨u0, u1⟩ := cL2 R1.h
      go_upto_region 5 with first
       | (go_at_call 79; refine (hzc _ _ _ _ _ I8).mono ?_; rintro e w9 ⟨rfl, b9⟩; obtain ⟨u0, u1⟩ := cL2 (R0.on b9).h; obtain ⟨v0, v1⟩ := cL2 (D0.on b9).h; obtain ⟨f0, f1⟩ := fZ2 (D0.on b9).h)
      obtain ⟨X, hX, KX, NX, OX⟩ := storeI (s' := s7) (A' := A7) (n' := l7.length) (c' := c7) (D0.on b9)
      have lx := OX.size
      have l9 := b9.size
      go_wp2_with fail
      go_roundw
      case rel =>
       exact ⟨k - 1, z', s7, A7, c7, l7, by simp; omega, by omega, KX, (I7.on b9).nudge NX, fz2, ((hbl.trans (b8.mono hbl.size)).trans (b9.mono (hbl.trans (b8.mono hbl.size)).size)).trans NX.low, hm2, OX.one (D1.on b9) (by omega), OX.one (D5.on b9) (by omega), (I5.on b9).nudge NX, by omega⟩
      case measure => simp only [intOf]; omega
    · have hmz := hm.out.trans (madeZ_stop (by omega) (.inr hz0))
      have hzc := fun W' s A c l (I : IV W' s A c l (z % 10)) => zero_c s A c l (z % 10) W' I
      rw [decide_eq_false hz0] at hzc
      generalize z / 10 = z' at *
      generalize z % 10 = r' at *
      have hkz : ((k : Int) == 0) = false := beq_eq_false_iff_ne.2 (by omega)
      replace hm := Lib.hid hmz
      clear hmz hz0
      go_upto_region 4 with first
       | (go_at_call 130; refine hsp.mono ?_; rintro e w7 ⟨s7, A7, c7, l7, s8, A8, c8, l8, rfl, I7, I8, b7⟩)
      obtain ⟨W8, hW8, hbW8, R0, R1, hszW8⟩ := box2 w7 #[.bool s7, .slice A7 l7.length c7] 24 #[.bool s8, .slice A8 l8.length c8] 24
      rw [hW8]
      have b8 := b7.trans (hbW8.mono b7.size)
      replace hbl := hbl.trans (b8.mono hbl.size)
      replace D0 := D0.on b8
      replace D1 := D1.on b8
      replace Iz := Iz.on b8
      replace I8 := I8.on hbW8
      clear hW8 hsp x0 x1 y0 y1 D5 I5
      obtain ⟨u0, u1⟩ := cL2 R1.h
      go_upto_region 8 with first
       | (go_at_call 79; refine (hzc _ _ _ _ _ I8).mono ?_; rintro e w9 ⟨rfl, b9⟩)
      replace hbl := hbl.trans (b9.mono hbl.size)
      replace D0 := D0.on b9
      replace D1 := D1.on b9
      replace Iz := Iz.on b9
      by_cases h40 : l.length ≤ 40
      · have hE := hE.out.symm.trans (madeE_of hm.out ((len_le_iff Iz).1 h40))
        have hc40 : decide ((40 : Int) < (l.length : Int)) = false := decide_eq_false (by omega)
        obtain ⟨a0, a1⟩ := cL2 D0.h
        obtain ⟨r0, r1, r2, r3, r4, r5⟩ := cL6 D1.h
        obtain ⟨f0, f1, f2, f3, f4, f5⟩ := fZ6 D1.h
        replace hE := Lib.hid hE
        clear hm h40
        go_wp2_with fail
        obtain ⟨X, hX, KX, NX, OX⟩ := storeV (k' := 3) (p' := (k : Int)) (s' := s) (A' := A) (n' := l.length) (c' := c) (S' := ⟨#[]⟩) (B' := none) (m' := 0) (d' := 0) D1
        rw [hX]
        exact ret_cellT rfl Tryz.underlying27 val_size rfl rfl KX.h rfl (PostV.ok hE.out (.of_below (hbl.trans (NX.low.mono (by omega)))) (Iz.nudge NX))
      · have hE := hE.out.symm.trans <| madeE_no hm.out (fun h => h40 ((len_le_iff Iz).2 h))
        have hc40 : decide ((40 : Int) < (l.length : Int)) = true := decide_eq_true (by omega)
        obtain ⟨a0, a1⟩ := cL2 D0.h
        replace hE := Lib.hid hE
        clear hm h40
        go_wp2_with (go_at_call 78; refine (need_no 3 (by decide) _).mono ?_; rintro e w9 ⟨rfl, rfl⟩)
        exact ⟨rfl, PostV.no hE.out (by decide) (.of_below hbl)⟩
  · have hkI : decide ((1 : Int) < (k : Int)) = false := decide_eq_false (by omega)
    by_cases hk0 : k = 0
    · subst hk0
      have hmz := hm.out.trans (madeZ_zero z)
      replace hm := Lib.hid hmz
      clear hmz hk1 hkI
      by_cases hfit : Lz 300 (z * 10)
      · have hml := mul_z s s5 A A5 c c5 l l5 z 10 wr Iz I5 fz ((Lz.of (k := 1) (by decide)).mono (by decide)) hfit
        clear hfit
        go_upto_region 8 with first
         | (go_at_call 87; refine hml.mono ?_; rintro e w7 ⟨s7, A7, c7, l7, rfl, I7, b7⟩; obtain ⟨u0, u1⟩ := cL2 (D0.on b7).h; obtain ⟨f0, f1⟩ := fZ2 (D0.on b7).h)
        obtain ⟨X, hX, KX, NX, OX⟩ := storeI (s' := s7) (A' := A7) (n' := l7.length) (c' := c7) (D0.on b7)
        rw [hX]
        have lx := OX.size
        have hbx := (hbl.trans (b7.mono hbl.size)).trans NX.low
        have E1 := OX.one (D1.on b7) (by omega)
        have IX := I7.nudge NX
        clear hX OX D0 D1 D5 I5 Iz x0 x1 y0 y1 u0 u1 f0 f1 NX hml
        by_cases h40 : l7.length ≤ 40
        · have hE := hE.out.symm.trans (madeE_of hm.out ((len_le_iff IX).1 h40))
          have hc40 : decide ((40 : Int) < (l7.length : Int)) = false := decide_eq_false (by omega)
          obtain ⟨a0, a1⟩ := cL2 KX.h
          obtain ⟨r0, r1, r2, r3, r4, r5⟩ := cL6 E1.h
          obtain ⟨f0, f1, f2, f3, f4, f5⟩ := fZ6 E1.h
          replace hE := Lib.hid hE
          clear hm h40
          go_wp2_with fail
          obtain ⟨Y, hY, KY, NY, OY⟩ := storeV (k' := 3) (p' := (1 : Int)) (s' := s7) (A' := A7) (n' := l7.length) (c' := c7) (S' := ⟨#[]⟩) (B' := none) (m' := 0) (d' := 0) E1
          rw [hY]
          exact ret_cellT rfl Tryz.underlying27 val_size rfl rfl KY.h rfl (PostV.ok hE.out (.of_below (hbx.trans (NY.low.mono (by omega)))) (IX.nudge NY))
        · have hE := hE.out.symm.trans <| madeE_no hm.out (fun h => h40 ((len_le_iff IX).2 h))
          have hc40 : decide ((40 : Int) < (l7.length : Int)) = true := decide_eq_true (by omega)
          obtain ⟨a0, a1⟩ := cL2 KX.h
          replace hE := Lib.hid hE
          clear hm h40
          go_wp2_with (go_at_call 78; refine (need_no 3 (by decide) _).mono ?_; rintro e w9 ⟨rfl, rfl⟩)
          exact ⟨rfl, PostV.no hE.out (by decide) (.of_below hbx)⟩
      · have hml := mul_no s s5 A A5 c c5 l l5 z 10 wr Iz I5 fz ((Lz.of (k := 1) (by decide)).mono (by decide)) hfit
        have hE2 := madeE_no hm.out (fun h => hfit (h.mono (by decide)))
        replace hE2 := Lib.hid (hE.out.symm.trans hE2)
        clear hfit
        go_wp2_with first
         | (go_at_call 87; refine hml.mono ?_; rintro e w7 ⟨rfl, b7⟩)
        exact ⟨rfl, PostV.no hE2.out (by decide) (.of_below (hbl.trans (b7.mono hbl.size)))⟩
    · obtain rfl : k = 1 := by omega
      have hmz := hm.out.trans (madeZ_stop (Nat.le_refl _) (.inl (Nat.le_refl _)))
      replace hm := Lib.hid hmz
      clear hmz hk1 hkI hk0 D5 I5 y0 y1
      go_upto_region 8 with fail
      by_cases h40 : l.length ≤ 40
      · have hE := hE.out.symm.trans (madeE_of hm.out ((len_le_iff Iz).1 h40))
        have hc40 : decide ((40 : Int) < (l.length : Int)) = false := decide_eq_false (by omega)
        obtain ⟨a0, a1⟩ := cL2 D0.h
        obtain ⟨r0, r1, r2, r3, r4, r5⟩ := cL6 D1.h
        obtain ⟨f0, f1, f2, f3, f4, f5⟩ := fZ6 D1.h
        replace hE := Lib.hid hE
        clear hm h40
        go_wp2_with fail
        obtain ⟨X, hX, KX, NX, OX⟩ := storeV (k' := 3) (p' := (1 : Int)) (s' := s) (A' := A) (n' := l.length) (c' := c) (S' := ⟨#[]⟩) (B' := none) (m' := 0) (d' := 0) D1
        rw [hX]
        exact ret_cellT rfl Tryz.underlying27 val_size rfl rfl KX.h rfl (PostV.ok hE.out (.of_below (hbl.trans (NX.low.mono (by omega)))) (Iz.nudge NX))
      · have hE := hE.out.symm.trans <| madeE_no hm.out (fun h => h40 ((len_le_iff Iz).2 h))
        have hc40 : decide ((40 : Int) < (l.length : Int)) = true := decide_eq_true (by omega)
        obtain ⟨a0, a1⟩ := cL2 D0.h
        replace hE := Lib.hid hE
        clear hm h40
        go_wp2_with (go_at_call 78; refine (need_no 3 (by decide) _).mono ?_; rintro e w9 ⟨rfl, rfl⟩)
        exact ⟨rfl, PostV.no hE.out (by decide) (.of_below hbl)⟩
end Dc
end Go.Proofs.YtjghnghceeijeaaGreatDoor
