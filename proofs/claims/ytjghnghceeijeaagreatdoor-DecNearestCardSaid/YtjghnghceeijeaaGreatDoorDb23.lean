/-
  Contracts of the walks below.
-/
import Derived.Test.YtjghnghceeijeaaGreatDoorDb22
set_option maxRecDepth 100000
set_option maxHeartbeats 4000000
set_option linter.unusedVariables false
set_option linter.unusedSimpArgs false
namespace Go.Proofs.YtjghnghceeijeaaGreatDoor
namespace Dc
open Go.RowKit Go.Shelf Go.BigFrame Go.Proofs.YtjghnghceeijeaaGreatDoor.Nm
attribute [local go_sem] Oper.semAt_some
theorem Lz.small {k : Nat} {z : Int} (h : z.natAbs < 4294967296) (hk : 1 ≤ k) : Lz k z := (Lz.of (k := 1) (by rw [Nat.pow_one]; exact h)).mono hk
theorem units_z (n1 : Bool) (A1 : Option Addr) (c1 : Nat) (l1 : List Nat) (z1 : Int) (w : World) (I1 : IV w n1 A1 c1 l1 z1) (f1 : Lz 300 z1) :
 Calls Tryz.prog 83 #[iv n1 A1 l1.length c1] w (PostV (fun _ => False) (stripE z1) w) := by
 obtain ⟨W, hW, hbW, K0, K1, hszW⟩ := box2 w #[.bool n1, .slice A1 l1.length c1] 24 (vcells 0 0 false none 0 0 ⟨#[]⟩ none 0 0) 27
 obtain ⟨x0, x1⟩ := cL2 K0.h
 have h := made_z n1 A1 c1 l1 z1 20 (by decide) W (I1.on hbW) f1
 have he : madeE z1 20 = stripE z1 := rfl
 rw [he] at h
 clear he
 obtain ⟨E, hE⟩ : ∃ E, stripE z1 = E := ⟨_, rfl⟩
 rw [hE] at h ⊢
 clear hE f1
 by_cases h0 : E.2.2 = 0
 · go_enter Tryz.func83, Tryz.ntmps83
   go_wp2_with (go_at_call 85; refine h.mono ?_; rintro e w5 ⟨o5, p5, -⟩; obtain ⟨v, rfl, s, A, c, l, rfl, I5⟩ := p5 h0; rw [kd_ok h0]; have K5 := K1.on o5.full; obtain ⟨u0, u1, u2, u3, u4, u5⟩ := cL6 K5.h; obtain ⟨f0, f1, f2, f3, f4, f5⟩ := fZ6 K5.h)
   obtain ⟨X, hX, KX, NX, OX⟩ := storeV (k' := 3) (p' := (E.2.1 : Int)) (s' := s) (A' := A) (n' := l.length) (c' := c) (S' := ⟨#[]⟩) (B' := none) (m' := 0) (d' := 0) K5
   rw [hX]
   have hb5 := hbW.trans (o5.full.mono hbW.size)
   exact ret_cellT rfl Tryz.underlying27 val_size rfl rfl KX.h rfl ⟨.of_below (hb5.trans (NX.low.mono (by omega))), fun _ => ⟨_, rfl, s, A, c, l, by rw [kd_ok h0], I5.nudge NX⟩, fun h => absurd h0 h⟩
 · go_enter Tryz.func83, Tryz.ntmps83
   go_wp2_with (go_at_call 85; refine h.mono ?_; rintro e w5 ⟨o5, -, p5⟩; obtain rfl := p5 h0)
   exact ⟨rfl, .of_below (hbW.trans (o5.full.mono hbW.size)), fun h => absurd h h0, fun _ => rfl⟩
def At10 (w : World) (g i : Nat) (z : Int) : Prop := ∃ s A c l, w.cell? ⟨g, i * 2, none⟩ = some (.bool s) ∧ w.cell? ⟨g, i * 2 + 1, none⟩ = some (.slice A (List.length l) c) ∧ IV w s A c l z
def Pows (w : World) (g : Nat) : Prop := ∀ i, i < 21 → At10 w g i (10 ^ i)
theorem At10.on {w W : World} {g i : Nat} {z : Int} (h : At10 w g i z) (hb : Below w.heap.size w W) : At10 W g i z := by
 obtain ⟨s, A, c, l, h1, h2, h3⟩ := h
 exact ⟨s, A, c, l, (hb.cell (World.block_lt_of_cell? w _ h1)).trans h1, (hb.cell (World.block_lt_of_cell? w _ h2)).trans h2, h3.on hb⟩
theorem At10.off {w W : World} {g i j n : Nat} {z : Int} (h : At10 w g i z) (o : Off (fun k => k = j) w W) (hn : Nudge n w W) (hne : g ≠ j) : At10 W g i z := by
 obtain ⟨s, A, c, l, h1, h2, h3⟩ := h
 have e : W.heap[g]? = w.heap[g]? := o.block g (World.block_lt_of_cell? w _ h1) hne
 exact ⟨s, A, c, l, (World.cell?_of_block (w := w) e).trans h1, (World.cell?_of_block (w := w) e).trans h2, h3.nudge hn⟩
theorem Pows.off {w W : World} {g j n : Nat} (h : Pows w g) (o : Off (fun k => k = j) w W) (hn : Nudge n w W) (hne : g ≠ j) : Pows W g := fun i hi => (h i hi).off o hn hne
theorem Pows.on {w W : World} {g : Nat} (h : Pows w g) (hb : Below w.heap.size w W) : Pows W g := fun i hi => (h i hi).on hb
theorem powers1_z (g n : Nat) (hn : n < 21) (w : World) (h : Pows w g) :
 Calls Tryz.prog 150 #[.int .i64 (n : Int), .pointer (some ⟨g, 0, none⟩)] w (RetI (10 ^ n) w) := by
 obtain ⟨W, hW, hbW, K0, hszW⟩ := box1 w #[.bool false, .slice none 0 0] 24
 obtain ⟨s, A, c, l, h1, h2, I1⟩ := (h n hn).on hbW
 obtain ⟨y0, y1⟩ := cL2 K0.h
 obtain ⟨q0, q1⟩ := fZ2 K0.h
 have hn1 : decide ((n : Int) < 21) = true := decide_eq_true (by omega)
 clear h
 obtain ⟨P, hP⟩ : ∃ P, (10 : Int) ^ n = P := ⟨_, rfl⟩
 rw [hP] at I1 ⊢
 clear hP
 go_enter Tryz.func150, Tryz.ntmps150
 go_wp2_with fail
 exact ret_cell rfl rfl rfl (set_blk (set_blk K0.h 0 _) 1 _) (retI_end I1 K0 hbW (by omega))
theorem powers1_big (g n : Nat) (hn : 21 ≤ n) (hn2 : n ≤ 9600) (hs : Lz 300 (10 ^ n)) (w : World) :
 Calls Tryz.prog 150 #[.int .i64 (n : Int), .pointer (some ⟨g, 0, none⟩)] w (RetI (10 ^ n) w) := by
 obtain ⟨W, hW, hbW, K0, hszW⟩ := box1 w #[.bool false, .slice none 0 0] 24
 have hn1 : decide ((n : Int) < 21) = false := decide_eq_false (by omega)
 have hten := Of_calls 10 W (by decide) (by decide)
 obtain ⟨P, hP⟩ : ∃ P, (10 : Int) ^ n = P := ⟨_, rfl⟩
 have hpw := fun W' s A c l (I : IV W' s A c l 10) => Pow_calls s (n : Int) A c l W' I.rd I.cap
 have he : ∀ s l, OkZ s l 10 → powR s l (n : Int) = (P, 0) := fun s l h => by
  rw [powR_z h, if_pos ⟨by omega, by omega⟩, Int.toNat_natCast, hP, fit_ok (by rw [← hP]; exact hs.len)]
 rw [hP]
 replace he := Lib.hid he
 clear hP hs hn hn2
 go_enter Tryz.func150, Tryz.ntmps150
 go_wp2_with first
  | (go_at_call 81; have hmark := b6; refine (must_ok s6 A6 c6 l6 P _ ⟨r6, n6, z6⟩).mono ?_; rintro e w7 ⟨s7, A7, c7, l7, rfl, I7, b7⟩; have K7 := (K0.on b6').on b7; obtain ⟨u0, u1⟩ := cL2 K7.h; obtain ⟨f0, f1⟩ := fZ2 K7.h)
  | (go_at_call 82; have hmark := b5; refine (hpw _ s5 A5 c5 l5 ⟨r5, n5, z5⟩).mono ?_; rintro e w6 h6; rw [he.out s5 l5 ((IV.mk r5 n5 z5).ok (Lz.small (k := 1) (by decide) (by decide)) (by decide))] at h6; obtain ⟨s6, A6, c6, l6, rfl, z6, n6, r6, b6⟩ := h6; have b6' := b5.trans (b6.mono b5.size))
  | (go_at_call 92; refine hten.mono ?_; rintro e w5 ⟨s5, A5, c5, l5, rfl, z5, n5, r5, b5⟩)
 have hb7 := (hbW.trans (b6'.mono hbW.size)).trans (b7.mono (hbW.trans (b6'.mono hbW.size)).size)
 exact ret_cell rfl rfl rfl (set_blk (set_blk K7.h 0 _) 1 _) (retI_end I7 K7 hb7 (by omega))
theorem store10 {W : World} {g i : Nat} {cur : Array Value} {t : TypeId} {s : Bool} {A : Option Addr} {c : Nat} {l : List Nat} {z : Int} (h : Blk W g cur t) (hs : cur.size = 42) (hc : ∀ (j x : Nat), cur[j]? ≠ some (.int .u32 (x : Int))) (hi : i < 21) (I : IV W s A c l z) :
 ∃ X, ((W.setCell ⟨g, i * 2, none⟩ (.bool s)).setCell ⟨g, i * 2 + 1, none⟩ (.slice A l.length c)) = X ∧ (∃ cur', Blk X g cur' t ∧ cur'.size = 42 ∧ ∀ (j x : Nat), cur'[j]? ≠ some (.int .u32 (x : Int))) ∧ Nudge g W X ∧ W.heap.size = X.heap.size ∧ At10 X g i z ∧ ∀ k y, k ≠ i → At10 W g k y → At10 X g k y := by
 have h0 : Blk (W.setCell ⟨g, i * 2, none⟩ (.bool s)) g (cur.setIfInBounds (i * 2) (.bool s)) t := ⟨set_blk h.h _ _⟩
 have hc0 : ∀ (j x : Nat), (cur.setIfInBounds (i * 2) (.bool s))[j]? ≠ some (.int .u32 (x : Int)) := fun j x => by
  rw [Array.getElem?_setIfInBounds]
  split
  · split <;> simp
  · exact hc j x
 have q0 : Nudge g W (W.setCell ⟨g, i * 2, none⟩ (.bool s)) := (Nudge.of_below (.refl _ W) (Nat.le_of_lt (blk_lt h))).set (Nat.le_refl _) h hc _ _
 have e0 : W.heap.size = (W.setCell ⟨g, i * 2, none⟩ (.bool s)).heap.size := by simp [World.setCell]
 generalize W.setCell ⟨g, i * 2, none⟩ (.bool s) = X at *
 have h1 : Blk (X.setCell ⟨g, i * 2 + 1, none⟩ (.slice A l.length c)) g ((cur.setIfInBounds (i * 2) (.bool s)).setIfInBounds (i * 2 + 1) (.slice A l.length c)) t := ⟨set_blk h0.h _ _⟩
 have q1 : Nudge g W (X.setCell ⟨g, i * 2 + 1, none⟩ (.slice A l.length c)) := q0.set (Nat.le_refl _) h0 hc0 _ _
 have e1 : W.heap.size = (X.setCell ⟨g, i * 2 + 1, none⟩ (.slice A l.length c)).heap.size := by rw [e0]; simp [World.setCell]
 generalize X.setCell ⟨g, i * 2 + 1, none⟩ (.slice A l.length c) = Y at *
 have hg : ∀ j, j ≠ i * 2 → j ≠ i * 2 + 1 → ((cur.setIfInBounds (i * 2) (.bool s)).setIfInBounds (i * 2 + 1) (.slice A l.length c))[j]? = cur[j]? := fun j h1 h2 => by
  rw [Array.getElem?_setIfInBounds_ne (by omega), Array.getElem?_setIfInBounds_ne (by omega)]
 refine ⟨Y, rfl, ⟨_, h1, by simp [hs], fun j x => ?_⟩, q1, e1, ⟨s, A, c, l, cell_at h1.h _ _ ?_, cell_at h1.h _ _ ?_, I.nudge q1⟩, ?_⟩
 · rw [Array.getElem?_setIfInBounds]
   split
   · split <;> simp
   · exact hc0 j x
 · rw [Array.getElem?_setIfInBounds_ne (by omega), Array.getElem?_setIfInBounds, if_pos rfl, if_pos (by omega)]
 · rw [Array.getElem?_setIfInBounds, if_pos rfl, if_pos (by rw [Array.size_setIfInBounds]; omega)]
 · rintro k y hk ⟨s', A', c', l', c1, c2, I'⟩
   have hcell : ∀ {o : Nat} {v : Value}, W.cell? ⟨g, o, none⟩ = some v → cur[o]? = some v := fun {o v} hh => by
    simpa [World.cell?, h.h] using hh
   exact ⟨s', A', c', l', cell_at h1.h _ _ ((hg _ (by omega) (by omega)).trans (hcell c1)), cell_at h1.h _ _ ((hg _ (by omega) (by omega)).trans (hcell c2)), I'.nudge q1⟩
theorem cell_set_off2 {W : World} {g o a b : Nat} {x u v : Value} {cur : Array Value} {t : TypeId} (K : Blk W g cur t) (h : cur[o]? = some x) (ha : a ≠ o) (hb : b ≠ o) : ((W.setCell ⟨g, a, none⟩ u).setCell ⟨g, b, none⟩ v).cell? ⟨g, o, none⟩ = some x :=
 cell_at (set_blk (set_blk K.h a u) b v) o _ (by rw [Array.getElem?_setIfInBounds_ne hb, Array.getElem?_setIfInBounds_ne ha]; exact h)
theorem lz_ten (k : Nat) (hk : k ≤ 21) : Lz 3 (10 ^ k) := by
 refine Lz.of ?_
 have h1 : ((10 : Int) ^ k).natAbs = 10 ^ k := by rw [Int.natAbs_pow]; rfl
 rw [h1]
 exact Nat.lt_of_le_of_lt (Nat.pow_le_pow_right (by decide) hk) (by decide)
theorem powers_z (w : World) :
 Calls Tryz.prog 80 #[] w fun e w' => ∃ g, e = .returned (.func (.func 150) #[] #[.pointer (some ⟨g, 0, none⟩)]) ∧ Pows w' g ∧ Below w.heap.size w w' ∧ w.heap.size ≤ g := by
 have hmf := mkf
 go_enter Tryz.func80, Tryz.ntmps80
 go_wp2_with fail
 go_loopw [3] (fun iv Wl => ∃ (i : Nat), iv = .int .i64 (i : Int) ∧ i ≤ 21 ∧ Below w.heap.size w Wl ∧ (∃ cur, Blk Wl w.heap.size cur 150 ∧ cur.size = 42 ∧ ∀ (j x : Nat), cur[j]? ≠ some (.int .u32 (x : Int))) ∧ ∀ k, k < i → At10 Wl w.heap.size k (10 ^ k)) (fun iv _ => 21 - (intOf iv).toNat)
 case atStart =>
  exact ⟨0, rfl, Nat.zero_le _, (Below.refl _ _).alloc (Nat.le_refl _) _, ⟨_, ⟨World.alloc_heap_new w _⟩, rfl, fun j x h => by have := Array.mem_of_getElem? h; simp at this⟩, fun k h => absurd h (Nat.not_lt_zero _)⟩
 case round =>
  obtain ⟨i, rfl, hi, hbl, ⟨cur, K, hs, hc⟩, hat⟩ := hrel
  have hgl := blk_lt K
  by_cases hi2 : i < 21
  · have hiI : decide ((i : Int) < 21) = true := decide_eq_true (by omega)
    obtain ⟨v0, hv0⟩ : ∃ v, cur[i * 2]? = some v := ⟨_, Array.getElem?_eq_getElem (by omega)⟩
    obtain ⟨v1, hv1⟩ : ∃ v, cur[i * 2 + 1]? = some v := ⟨_, Array.getElem?_eq_getElem (by omega)⟩
    have Hv0 := Lib.hid hv0
    have Hv1 := Lib.hid hv1
    have Hc := Lib.hid hc
    have Hat := Lib.hid hat
    clear hv0 hv1 hc hat
    generalize w.heap.size = g at *
    go_upto_region 6 with (go_at_call 92; refine (Of_calls 1 _ (by decide) (by decide)).mono ?_; rintro e w5 ⟨s5, A5, c5, l5, rfl, z5, n5, r5, b5⟩; have u0 := cell_at (K.on b5).h (i * 2) _ Hv0.out; have u1 := cell_at (K.on b5).h (i * 2 + 1) _ Hv1.out; have f0 := frozen_at (K.on b5).h (i * 2); have f1 := frozen_at (K.on b5).h (i * 2 + 1))
    obtain ⟨X, hX, ⟨cur', KX, hs', hc'⟩, NX, lX, aX, oX⟩ := store10 (K.on b5) hs Hc.out hi2 (IV.mk r5 n5 z5)
    rw [hX]
    have hbX := (hbl.trans (b5.mono (Nat.le_of_lt hgl))).trans NX.low
    have hatX : ∀ k, k < i → At10 X g k (10 ^ k) := fun k hk => oX k _ (by omega) ((Hat.out k hk).on b5)
    clear hX u0 u1 f0 f1 Hv0 Hv1 Hc Hat K NX oX
    rcases Nat.eq_zero_or_pos i with h0 | h0
    · subst h0
      go_wp2_with fail
      go_roundw
      case rel => exact ⟨1, rfl, by decide, hbX, ⟨cur', KX, hs', hc'⟩, fun k hk => by obtain rfl : k = 0 := by omega
                                                                                      exact aX⟩
      case measure => simp only [intOf]; omega
    · obtain ⟨j, rfl⟩ : ∃ j, i = j + 1 := ⟨i - 1, by omega⟩
      obtain ⟨s, A, c, l, a0, a1, Ia⟩ := hatX j (by omega)
      have hfit : Lz 3 (10 ^ j * 10) := lz_ten (j + 1) (by omega)
      have hml := fun W' (h : Below X.heap.size X W') s' A' c' l' (I : IV W' s' A' c' l' 10) => mul_z s s' A A' c c' l l' (10 ^ j) 10 W' (Ia.on h) I ((lz_ten j (by omega)).mono (by decide)) (Lz.small (by decide) (by decide)) (hfit.mono (by decide))
      have hcell : ∀ {o : Nat} {v : Value}, X.cell? ⟨g, o, none⟩ = some v → cur'[o]? = some v := fun {o v} hh => by
       simpa [World.cell?, KX.h] using hh
      have Ha0 := Lib.hid (hcell a0)
      have Ha1 := Lib.hid (hcell a1)
      obtain ⟨v0, hv0⟩ : ∃ v, cur'[(j + 1) * 2]? = some v := ⟨_, Array.getElem?_eq_getElem (by omega)⟩
      obtain ⟨v1, hv1⟩ : ∃ v, cur'[(j + 1) * 2 + 1]? = some v := ⟨_, Array.getElem?_eq_getElem (by omega)⟩
      have Hv0 := Lib.hid hv0
      have Hv1 := Lib.hid hv1
      have Hc := Lib.hid hc'
      have Hat := Lib.hid hatX
      have hj21 : j < 21 := by omega
      have hjI : (j : Int) < 21 := by omega
      have hjJ : IntKind.i64.wrap (((j + 1 : Nat) : Int) - 1) = (j : Int) := by rw [IntKind.wrap_i64]; omega
      have hjK : IntKind.i64.wrap ((j : Int) + 1 - 1) = (j : Int) := by rw [IntKind.wrap_i64]; omega
      have hjL : IntKind.i64.wrap (j : Int) = (j : Int) := by rw [IntKind.wrap_i64]; omega
      have hj0 : (0 : Int) ≤ (j : Int) := by omega
      have hj1 : (0 : Int) ≤ ((j + 1 : Nat) : Int) := by omega
      have hj2 : ((j + 1 : Nat) : Int) < 21 := by omega
      have hj3 : (0 : Int) ≤ (j : Int) + 1 := by omega
      have hj4 : (j : Int) + 1 < 21 := by omega
      clear hv0 hv1 hc' hatX hcell h0
      go_upto_region 7 with fail
      go_region_held3 (fun w'' => w''.cell? ⟨g, j * 2, none⟩ = some (.bool s) ∧ w''.cell? ⟨g, j * 2 + 1, none⟩ = some (.slice A l.length c)) ((first | (with_reducible exact ⟨a0, a1⟩) | exact ⟨a0, a1⟩ | exact ⟨cell_set_off2 K7 Ha0.out (by omega) (by omega), cell_set_off2 K7 Ha1.out (by omega) (by omega)⟩))
       ((first
        | (go_at_call 87; have hmark := q6; refine (hml _ q6 _ _ _ _ I6).mono ?_; rintro e w7 ⟨s7, A7, c7, l7, rfl, I7, b7⟩; clear a0 a1; have q7 := q6.trans (b7.mono q6.size); have K7 := KX.on q7; have a0 : w7.cell? ⟨g, j * 2, none⟩ = some (.bool s) := cell_at K7.h _ _ Ha0.out; have a1 : w7.cell? ⟨g, j * 2 + 1, none⟩ = some (.slice A l.length c) := cell_at K7.h _ _ Ha1.out; have u0 := cell_at K7.h ((j + 1) * 2) _ Hv0.out; have u1 := cell_at K7.h ((j + 1) * 2 + 1) _ Hv1.out; have f0 := frozen_at K7.h ((j + 1) * 2); have f1 := frozen_at K7.h ((j + 1) * 2 + 1))
        | (go_at_call 92; refine (Of_calls 10 _ (by decide) (by decide)).mono ?_; rintro e w6 ⟨s6, A6, c6, l6, rfl, z6, n6, r6, b6⟩; have I6 : IV w6 s6 A6 c6 l6 10 := ⟨r6, n6, z6⟩; clear a0 a1; have q6 := (below_drew (Below.refl X.heap.size X)).trans b6; have a0 : w6.cell? ⟨g, j * 2, none⟩ = some (.bool s) := cell_at (KX.on q6).h _ _ Ha0.out; have a1 : w6.cell? ⟨g, j * 2 + 1, none⟩ = some (.slice A l.length c) := cell_at (KX.on q6).h _ _ Ha1.out)))
      obtain ⟨Y, hY, ⟨cur2, KY, hs2, hc2⟩, NY, lY, aY, oY⟩ := store10 K7 hs' Hc.out hi2 I7
      rw [hY]
      have hbY := (hbX.trans (q7.mono (Nat.le_of_lt (blk_lt KX)))).trans NY.low
      have hatY : ∀ k, k < j + 1 + 1 → At10 Y g k (10 ^ k) := fun k hk => by
       by_cases hkj : k = j + 1
       · subst hkj; rw [Int.pow_succ]; exact aY
       · exact oY k _ hkj ((Hat.out k (by omega)).on q7)
      clear hY u0 u1 f0 f1 a0 a1 Hv0 Hv1 Hc Hat Ha0 Ha1 NY oY aX KX K7 I7 Ia hml
      go_wp2_with fail
      go_roundw
      case rel => exact ⟨j + 1 + 1, by simp, by omega, hbY, ⟨cur2, KY, hs2, hc2⟩, hatY⟩
      case measure => simp only [intOf]; omega
  · obtain rfl : i = 21 := by omega
    go_wp2_with fail
    go_ret
    exact ⟨_, rfl, fun k hk => hat k hk, hbl, Nat.le_refl _⟩
theorem formed_c (n1 : Bool) (A1 : Option Addr) (c1 : Nat) (l1 : List Nat) (w : World) (h1 : Rd w A1 l1) (hc1 : l1.length ≤ c1) :
 Calls Tryz.prog 134 #[iv n1 A1 l1.length c1] w fun e w' => e = .returned (.bool (okI n1 l1)) ∧ Below w.heap.size w w' := by
 obtain ⟨W, hW, hbW, K0, hszW⟩ := box1 w #[.bool n1, .slice A1 l1.length c1] 24
 obtain ⟨x0, x1⟩ := cL2 K0.h
 have h := Check_calls n1 A1 c1 l1 W (h1.on hbW) hc1
 generalize okI n1 l1 = b at *
 cases b
 all_goals
  simp only [Bool.false_eq_true, if_false, if_true] at h
  go_enter Tryz.func134, Tryz.ntmps134
  go_wp2_with (go_at_call 161; refine h.mono ?_; rintro e w5 ⟨rfl, b5⟩)
  go_ret
  exact ⟨rfl, hbW.trans (b5.mono hbW.size)⟩
theorem blk_al1 {X w' : World} {cur : Array Value} {t : TypeId} (b : Below (X.alloc (.cells cur t)).heap.size (X.alloc (.cells cur t)) w') : Blk w' X.heap.size cur t :=
 ⟨(b.block _ (by simp)).trans (World.alloc_heap_new X _)⟩
theorem blk_al2 {X w' : World} {cur cur' : Array Value} {t t' : TypeId} (b : Below ((X.alloc (.cells cur t)).alloc (.cells cur' t')).heap.size ((X.alloc (.cells cur t)).alloc (.cells cur' t')) w') : Blk w' X.heap.size cur t ∧ Blk w' (X.heap.size + 1) cur' t' :=
 ⟨⟨(b.block _ (by simp; omega)).trans ((Below.heap_alloc _ _ _ (by simp)).trans (World.alloc_heap_new X _))⟩, ⟨(b.block _ (by simp)).trans (two_blk X _ _)⟩⟩
theorem blk_al1d {X w' : World} {cur : Array Value} {t : TypeId} (b : Below (X.alloc (.cells cur t)).drew.heap.size (X.alloc (.cells cur t)).drew w') : Blk w' X.heap.size cur t :=
 ⟨(b.block _ (by simp [World.drew])).trans (World.alloc_heap_new X _)⟩
theorem blk_al2d {X w' : World} {cur cur' : Array Value} {t t' : TypeId} (b : Below ((X.alloc (.cells cur t)).alloc (.cells cur' t')).drew.heap.size ((X.alloc (.cells cur t)).alloc (.cells cur' t')).drew w') : Blk w' X.heap.size cur t ∧ Blk w' (X.heap.size + 1) cur' t' :=
 ⟨⟨(b.block _ (by simp [World.drew]; omega)).trans ((Below.heap_alloc _ _ _ (by simp)).trans (World.alloc_heap_new X _))⟩, ⟨(b.block _ (by simp [World.drew])).trans (two_blk X _ _)⟩⟩
theorem below_via {w X W : World} (h : Below w.heap.size w X) (b : Below X.heap.size X W) : Below w.heap.size w W := h.trans (b.mono h.size)
theorem blk_up {W : World} {o : Obj} {g : Nat} {c : Array Value} {t : TypeId} (h : Blk W g c t) : Blk (W.alloc o) g c t := h.on (al1 W o)
theorem blk_new (W : World) (c : Array Value) (t : TypeId) : Blk (W.alloc (.cells c t)) W.heap.size c t := ⟨World.alloc_heap_new W _⟩
theorem blk_new2 (W : World) (o : Obj) (c : Array Value) (t : TypeId) : Blk ((W.alloc o).alloc (.cells c t)) (W.heap.size + 1) c t := ⟨two_blk W o _⟩
theorem blk_ne {W : World} {g g' i : Nat} {v : Value} {c : Array Value} {t : TypeId} (hne : g ≠ g') (h : Blk W g c t) : Blk (W.setCell ⟨g', i, none⟩ v) g c t := ⟨(Below.heap_setCell _ _ _ _ hne).trans h.h⟩
theorem blk_s0 {W : World} {g : Nat} {x x0 y : Value} {t : TypeId} (h : Blk W g #[x0, y] t) : Blk (W.setCell ⟨g, 0, none⟩ x) g #[x, y] t := ⟨set_blk h.h 0 x⟩
theorem blk_s1 {W : World} {g : Nat} {x y0 y : Value} {t : TypeId} (h : Blk W g #[x, y0] t) : Blk (W.setCell ⟨g, 1, none⟩ y) g #[x, y] t := ⟨set_blk h.h 1 y⟩
theorem iv_up {W : World} {o : Obj} {s : Bool} {A : Option Addr} {c : Nat} {l : List Nat} {z : Int} (h : IV W s A c l z) : IV (W.alloc o) s A c l z := h.on (al1 W o)
theorem iv_drew {W : World} {s : Bool} {A : Option Addr} {c : Nat} {l : List Nat} {z : Int} (h : IV W s A c l z) : IV W.drew s A c l z := h.on (Below.drew (.refl _ _))
theorem iv_set {W : World} {g i : Nat} {v : Value} {s b : Bool} {A B : Option Addr} {c n d : Nat} {l : List Nat} {z : Int} {t : TypeId} (h : IV W s A c l z) (hb : Blk W g #[.bool b, .slice B n d] t) : IV (W.setCell ⟨g, i, none⟩ v) s A c l z := ⟨rd_set h.rd hb icells_no i v, h.cap, h.isZ⟩
theorem below_set {w W : World} {p : Addr} (h : Below w.heap.size w W) (v : Value) (hp : w.heap.size ≤ p.block) : Below w.heap.size w (W.setCell p v) := h.setCell hp v
theorem keep_two {w W : World} {g : Nat} {k p : Int} {s : Bool} {A : Option Addr} {n c : Nat} {S : ByteArray} {B : Option Addr} {m d : Nat} {t : TypeId} (K : Blk w g #[.int .i64 k, .int .i64 p, .bool s, .slice A n c, .string S, .slice B m d] t) (h : Below w.heap.size w W) :
 W.cell? ⟨g, 2, none⟩ = some (.bool s) ∧ W.cell? ⟨g, 3, none⟩ = some (.slice A n c) := ⟨cell_at (K.on h).h 2 _ rfl, cell_at (K.on h).h 3 _ rfl⟩
set_option maxHeartbeats 64000000 in
theorem check_c (x : VA) (w : World) (h1 : x.At w) :
 Calls Tryz.prog 59 #[x.val] w fun e w' => e = .returned (.int .i64 (if x.ok = true then 0 else 2)) ∧ Below w.heap.size w w' := by
 obtain ⟨k, p, s, A, c, l, S, B, m, d⟩ := x
 have h1' : Rd w A l := h1.rd
 have hc1 : l.length ≤ c := h1.cap
 unfold VA.ok isD
 dsimp only [VA.val]
 obtain ⟨W, hW, hbW, K0, hszW⟩ := box1 w #[.int .i64 k, .int .i64 p, .bool s, .slice A l.length c, .string S, .slice B m d] 27
 obtain ⟨x0, x1, x2, x3, x4, x5⟩ := cL6 K0.h
 have hfm := formed_c s A c l W (h1'.on hbW) hc1
 obtain ⟨r, hr⟩ : ∃ r : Int, (if (decide (k = 3) && S.toList == [] && decide (m = 0) && decide (1 ≤ p) && decide (p ≤ 20) && okI s l && decide (l.length ≤ 40) && (decide (p = 1) || decide (toZ s l % 10 ≠ 0))) = true then 0 else 2) = r := ⟨_, rfl⟩
 rw [hr]
 replace hr := Lib.hid hr
 by_cases h0 : k = 3
 · subst h0
   cases hS : (S.toList == [])
   · clear hfm
     obtain rfl : r = 2 := by rw [← hr.out]; simp [hS]
     clear hr
     go_enter Tryz.func59, Tryz.ntmps59
     go_wp2_with fail
     go_ret
     exact ⟨rfl, hbW⟩
   · by_cases hm : m = 0
     · subst hm
       by_cases hp1 : 1 ≤ p
       · have e3 : decide (p < 1) = false := decide_eq_false (by omega)
         by_cases hp2 : p ≤ 20
         · have e4 : decide ((20 : Int) < p) = false := decide_eq_false (by omega)
           cases hok : okI s l
           · rw [hok] at hfm
             clear hp1 hp2
             obtain rfl : r = 2 := by rw [← hr.out]; simp [hok]
             clear hr
             go_enter Tryz.func59, Tryz.ntmps59
             go_wp2_with (go_at_call 134; refine hfm.mono ?_; rintro e w5 ⟨rfl, b5⟩)
             go_ret
             exact ⟨rfl, hbW.trans (b5.mono hbW.size)⟩
           · rw [hok] at hfm
             by_cases h40 : l.length ≤ 40
             · have e40 : decide ((40 : Int) < (l.length : Int)) = false := decide_eq_false (by omega)
               have hz := (okZ_of h1'.words hok).isZ
               generalize toZ s l = z at *
               have I0 : IV w s A c l z := ⟨h1', hc1, hz⟩
               have f0 : Lz 40 z := (len_le_iff I0).1 h40
               replace hr : Hid (r = if 1 < p ∧ z % 10 = 0 then 2 else 0) := by
                show r = _
                rw [← hr.out]
                by_cases hp : p = 1
                · rw [if_neg (by omega : ¬ (1 < p ∧ z % 10 = 0)), if_pos]
                  simp [hok, h40, hp, hS]
                · by_cases hz0 : z % 10 = 0
                  · rw [if_pos (⟨by omega, hz0⟩ : 1 < p ∧ z % 10 = 0), if_neg]
                    simp [hp, hz0]
                  · rw [if_neg (fun h => hz0 h.2 : ¬ (1 < p ∧ z % 10 = 0)), if_pos]
                    simp [hok, h40, hp1, hp2, hz0, hS]
               clear hok hp2 h40
               replace hp1 := Lib.hid hp1
               go_enter Tryz.func59, Tryz.ntmps59
               go_upto_region 3 with (go_at_call 134; refine hfm.mono ?_; rintro e w5 ⟨rfl, b5⟩; obtain ⟨x0, x1, x2, x3, x4, x5⟩ := cL6 (K0.on b5).h)
               clear hfm e3 e4 e40
               have hb5 := hbW.trans (b5.mono hbW.size)
               replace K0 := K0.on b5
               have I5 := I0.on hb5
               clear x0 x1 x2 x3 x4 x5
               go_cut [4] from 42 to 48 (fun pv wx => ∃ G s' A' c' l', pv = .pointer (some ⟨G, 0, none⟩) ∧ Blk wx G #[.bool s', .slice A' (List.length l') c'] 24 ∧ IV wx s' A' c' l' (z % 10) ∧ Below w5.heap.size w5 wx)
               case first =>
                have hdiv := fun W' (h : Below w5.heap.size w5 W') s' A' c' l' (I : IV W' s' A' c' l' 10) => split_z s s' A A' c c' l l' z 10 W' (I5.on h) I (f0.mono (by decide)) (Lz.small (by decide) (by decide)) (by decide)
                have x2 := cell_at K0.h 2 _ rfl
                have x3 := cell_at K0.h 3 _ rfl
                go_region_held3 (fun w'' => w''.cell? ⟨w.heap.size, 2, none⟩ = some (.bool s) ∧ w''.cell? ⟨w.heap.size, 3, none⟩ = some (.slice A l.length c)) ((first | (with_reducible exact ⟨x2, x3⟩) | (refine keep_two K0 ?_; (repeat' (with_reducible first | exact q7 | exact q6 | exact Below.refl _ _ | refine below_drew ?_ | refine below_al ?_ _ | refine below_set ?_ _ ?_)); (all_goals (first | exact q6.size | exact q7.size | exact Nat.le_refl _ | exact Nat.le_succ_of_le q7.size | exact Nat.le_succ_of_le q6.size | exact Nat.le_succ _)))))
                 ((first
                  | (go_at_call 130; have hmark := q6; refine (hdiv _ (by (repeat' (with_reducible first | exact q6 | refine below_al ?_ _))) _ _ _ _ (by (repeat' (with_reducible first | exact I6 | refine iv_up ?_)))).mono ?_; rintro e w7 ⟨s7, A7, c7, l7, s8, A8, c8, l8, rfl, I7, I8, b7⟩; have p7 : Below w6.heap.size w6 w7 := (by refine below_via ?_ b7; (repeat' (with_reducible first | exact Below.refl _ _ | refine below_al ?_ _))); have q7 := q6.trans (p7.mono q6.size); (try (replace Ta := Ta.on p7)); (try (replace Tb := Tb.on p7)); (first | (have Tab : Blk w7 w6.heap.size #[.bool false, .slice none 0 0] 24 ∧ Blk w7 (w6.heap.size + 1) #[.bool false, .slice none 0 0] 24 := (by with_reducible exact blk_al2 b7); obtain ⟨Ta, Tb⟩ := Tab) | (have Tb : Blk w7 w6.heap.size #[.bool false, .slice none 0 0] 24 := (by with_reducible exact blk_al1 b7)) | skip); (try (have na1 := Nat.ne_of_lt (blk_lt Ta); have na2 := Ne.symm na1)); (try (have nb1 := Nat.ne_of_lt (blk_lt Tb); have nb2 := Ne.symm nb1)); (try (have nc1 : w5.heap.size ≠ w6.heap.size := Nat.ne_of_lt (Nat.lt_of_lt_of_le (Nat.lt_succ_self _) (by first | exact hlt6 | exact Nat.le_of_succ_le hlt6)); have nc2 := Ne.symm nc1)); (try (have ta0 := cell_at Ta.h 0 _ rfl; have ta1 := cell_at Ta.h 1 _ rfl; have ta2 := frozen_at Ta.h 0; have ta3 := frozen_at Ta.h 1; have ta4 := fun o => cell_at (Ta.on (al1 w7 o)).h 0 _ rfl; have ta5 := fun o => cell_at (Ta.on (al1 w7 o)).h 1 _ rfl; have ta6 := fun o => frozen_at (Ta.on (al1 w7 o)).h 0; have ta7 := fun o => frozen_at (Ta.on (al1 w7 o)).h 1)); (try (have tb0 := cell_at Tb.h 0 _ rfl; have tb1 := cell_at Tb.h 1 _ rfl; have tb2 := frozen_at Tb.h 0; have tb3 := frozen_at Tb.h 1; have tb4 := fun o => cell_at (Tb.on (al1 w7 o)).h 0 _ rfl; have tb5 := fun o => cell_at (Tb.on (al1 w7 o)).h 1 _ rfl; have tb6 := fun o => frozen_at (Tb.on (al1 w7 o)).h 0; have tb7 := fun o => frozen_at (Tb.on (al1 w7 o)).h 1)); clear x2 x3; have x2 : w7.cell? ⟨w.heap.size, 2, none⟩ = some (.bool s) := cell_at (K0.on q7).h 2 _ rfl; have x3 : w7.cell? ⟨w.heap.size, 3, none⟩ = some (.slice A l.length c) := cell_at (K0.on q7).h 3 _ rfl; skip)
                  | (go_at_call 92; refine (Of_calls 10 _ (by decide) (by decide)).mono ?_; rintro e w6 ⟨s6, A6, c6, l6, rfl, z6, n6, r6, b6⟩; have I6 : IV w6 s6 A6 c6 l6 10 := ⟨r6, n6, z6⟩; (first | (have Tab : Blk w6 w5.heap.size #[.bool false, .slice none 0 0] 24 ∧ Blk w6 (w5.heap.size + 1) #[.bool false, .slice none 0 0] 24 := (by with_reducible exact blk_al2d b6); obtain ⟨Ta, Tb⟩ := Tab) | (have Ta : Blk w6 w5.heap.size #[.bool false, .slice none 0 0] 24 := (by with_reducible exact blk_al1d b6)) | skip); (try (have hlt6 := blk_lt Ta)); have q6 : Below w5.heap.size w5 w6 := (by refine below_via ?_ b6; (repeat' (with_reducible first | exact Below.refl _ _ | refine below_drew ?_ | refine below_al ?_ _))); clear x2 x3; have x2 : w6.cell? ⟨w.heap.size, 2, none⟩ = some (.bool s) := cell_at (K0.on q6).h 2 _ rfl; have x3 : w6.cell? ⟨w.heap.size, 3, none⟩ = some (.slice A l.length c) := cell_at (K0.on q6).h 3 _ rfl)))
                all_goals
                 go_wp2_with fail
                 go_meet
                 refine ⟨_, s8, A8, c8, l8, rfl, ?_, ?_, ?_⟩
                 all_goals (repeat' (with_reducible first | exact I8 | exact Tb | exact Ta | exact q7 | exact blk_new _ _ _ | exact blk_new2 _ _ _ _ | apply blk_drew | apply iv_drew | apply below_drew | apply blk_up | apply iv_up | apply below_al | apply blk_s1 | apply blk_s0 | (apply blk_ne (by first | assumption | omega)) | apply iv_set | apply below_set))
                 all_goals (first | exact q6.size | exact q7.size | exact Nat.le_refl _ | exact Nat.le_succ_of_le q7.size | exact Nat.le_succ_of_le q6.size | exact Nat.le_succ _)
               case rest =>
                obtain ⟨G, s9, A9, c9, l9, rfl, KG, IG, bG⟩ := hcut
                have g1 := cell_at (K0.on bG).h 1 _ rfl
                obtain ⟨g2, g3⟩ := cL2 KG.h
                have hzc := zero_c s9 A9 c9 l9 (z % 10) wc IG
                have hbc := hb5.trans (bG.mono hb5.size)
                clear I0 I5 f0 hz
                by_cases hp : 1 < p
                · have hpI : decide ((1 : Int) < p) = true := decide_eq_true hp
                  by_cases hz0 : z % 10 = 0
                  · obtain rfl : r = 2 := by rw [hr.out, if_pos ⟨hp, hz0⟩]
                    rw [decide_eq_true hz0] at hzc
                    clear hr hp hz0
                    generalize z % 10 = z' at *
                    go_wp2_with (go_at_call 79; refine hzc.mono ?_; rintro e w9 ⟨rfl, b9⟩)
                    go_ret
                    exact ⟨rfl, hbc.trans (b9.mono hbc.size)⟩
                  · obtain rfl : r = 0 := by rw [hr.out, if_neg (fun h => hz0 h.2)]
                    rw [decide_eq_false hz0] at hzc
                    clear hr hp hz0
                    generalize z % 10 = z' at *
                    go_wp2_with (go_at_call 79; refine hzc.mono ?_; rintro e w9 ⟨rfl, b9⟩)
                    go_ret
                    exact ⟨rfl, hbc.trans (b9.mono hbc.size)⟩
                · have hpI : decide ((1 : Int) < p) = false := decide_eq_false hp
                  obtain rfl : r = 0 := by rw [hr.out, if_neg (fun h => hp h.1)]
                  clear hr hp
                  go_wp2_with fail
                  go_ret
                  exact ⟨rfl, hbc⟩
             · have e40 : decide ((40 : Int) < (l.length : Int)) = true := decide_eq_true (by omega)
               clear hp1 hp2
               obtain rfl : r = 2 := by rw [← hr.out]; simp [h40]
               clear hr
               go_enter Tryz.func59, Tryz.ntmps59
               go_wp2_with (go_at_call 134; refine hfm.mono ?_; rintro e w5 ⟨rfl, b5⟩; obtain ⟨x0, x1, x2, x3, x4, x5⟩ := cL6 (K0.on b5).h)
               go_ret
               exact ⟨rfl, hbW.trans (b5.mono hbW.size)⟩
         · have e4 : decide ((20 : Int) < p) = true := decide_eq_true (by omega)
           clear hfm hp1
           obtain rfl : r = 2 := by rw [← hr.out]; simp [hp2]
           clear hr
           go_enter Tryz.func59, Tryz.ntmps59
           go_wp2_with fail
           go_ret
           exact ⟨rfl, hbW⟩
       · have e3 : decide (p < 1) = true := decide_eq_true (by omega)
         clear hfm
         obtain rfl : r = 2 := by rw [← hr.out]; simp [hp1]
         clear hr
         go_enter Tryz.func59, Tryz.ntmps59
         go_wp2_with fail
         go_ret
         exact ⟨rfl, hbW⟩
     · have hm' : 0 < m := by omega
       clear hfm
       obtain rfl : r = 2 := by rw [← hr.out]; simp [hm]
       clear hr
       go_enter Tryz.func59, Tryz.ntmps59
       go_wp2_with fail
       go_ret
       exact ⟨rfl, hbW⟩
 · have e0 : (k != 3) = true := by rw [bne_iff_ne]; exact h0
   clear hfm
   obtain rfl : r = 2 := by rw [← hr.out]; simp [h0]
   clear hr
   go_enter Tryz.func59, Tryz.ntmps59
   go_wp2_with fail
   go_ret
   exact ⟨rfl, hbW⟩
structure ValsAt (w : World) (g : Nat) (xs : List VA) : Prop where
 c0 : ∀ k (h : k < xs.length), w.cell? ⟨g, k * 6, none⟩ = some (.int .i64 xs[k].k)
 c1 : ∀ k (h : k < xs.length), w.cell? ⟨g, k * 6 + 1, none⟩ = some (.int .i64 xs[k].p)
 c2 : ∀ k (h : k < xs.length), w.cell? ⟨g, k * 6 + 2, none⟩ = some (.bool xs[k].s)
 c3 : ∀ k (h : k < xs.length), w.cell? ⟨g, k * 6 + 3, none⟩ = some (.slice xs[k].A xs[k].l.length xs[k].c)
 c4 : ∀ k (h : k < xs.length), w.cell? ⟨g, k * 6 + 4, none⟩ = some (.string xs[k].S)
 c5 : ∀ k (h : k < xs.length), w.cell? ⟨g, k * 6 + 5, none⟩ = some (.slice xs[k].B xs[k].m xs[k].d)
 at' : ∀ k (h : k < xs.length), xs[k].At w
def decE (xs : List VA) : Int := if xs.all VA.ok = true then 0 else 2
theorem decimals_c (g : Nat) (xs : List VA) (w : World) (hg : g < w.heap.size) (hx : ValsAt w g xs) (hn : xs.length ≤ 8) :
 Calls Tryz.prog 77 #[.slice (some ⟨g, 0, none⟩) xs.length xs.length] w fun e w' => Went (decE xs) e ∧ Below w.heap.size w w' := by
 obtain ⟨er, her⟩ : ∃ er, decE xs = er := ⟨_, rfl⟩
 rw [her]
 replace her := Lib.hid her
 go_enter Tryz.func77, Tryz.ntmps77
 go_wp2_with fail
 go_loopw [6] (fun i W => ∃ k : Nat, i = .int .i64 (k : Int) ∧ k ≤ xs.length ∧ (xs.take k).all VA.ok = true ∧ Below w.heap.size w W) (fun i _ => xs.length - (intOf i).toNat)
 case atStart => exact ⟨0, rfl, Nat.zero_le _, rfl, Below.refl _ _⟩
 case round =>
  obtain ⟨k, rfl, hk, hall, hbl⟩ := hrel
  by_cases hlt : k < xs.length
  · have x0 := (hbl.cell (p := ⟨g, k * 6, none⟩) hg).trans (hx.c0 k hlt)
    have x1 := (hbl.cell (p := ⟨g, k * 6 + 1, none⟩) hg).trans (hx.c1 k hlt)
    have x2 := (hbl.cell (p := ⟨g, k * 6 + 2, none⟩) hg).trans (hx.c2 k hlt)
    have x3 := (hbl.cell (p := ⟨g, k * 6 + 3, none⟩) hg).trans (hx.c3 k hlt)
    have x4 := (hbl.cell (p := ⟨g, k * 6 + 4, none⟩) hg).trans (hx.c4 k hlt)
    have x5 := (hbl.cell (p := ⟨g, k * 6 + 5, none⟩) hg).trans (hx.c5 k hlt)
    have hat := (hx.at' k hlt).on hbl
    obtain ⟨x, hxk⟩ : ∃ x, xs[k] = x := ⟨_, rfl⟩
    rw [hxk] at x0 x1 x2 x3 x4 x5 hat
    have hck := fun W' (h : Below wr.heap.size wr W') => check_c x W' (hat.on h)
    have Hxk := Lib.hid hxk
    clear hx hxk hat
    have ha1 := al1 wr (.cells #[.int .i64 x.k, .int .i64 x.p, .bool x.s, .slice x.A x.l.length x.c, .string x.S, .slice x.B x.m x.d] 27)
    by_cases hok : x.ok = true
    · simp only [hok, if_true] at hck
      go_wp2_with first
       | (go_at_call 78; have hmark := hb4; refine (need_ok _).mono ?_; rintro e w5 ⟨rfl, rfl⟩)
       | (go_at_call 59; refine (hck _ ha1).mono ?_; rintro e w4 ⟨rfl, hb4⟩; replace hb4 := ha1.trans (hb4.mono ha1.size))
      refine ⟨⟨k + 1, by simp, by omega, ?_, hbl.trans (hb4.mono hbl.size)⟩, by simp only [intOf]; omega⟩
      rw [List.take_succ_eq_append_getElem hlt, List.all_append, hall, Hxk.out]
      simp [hok]
    · have hok' : x.ok = false := by simpa using hok
      simp only [hok', Bool.false_eq_true, if_false] at hck
      have he : er = 2 := by
       rw [← her.out]
       unfold decE
       rw [if_neg]
       intro h
       have := List.all_eq_true.1 h xs[k] (List.getElem_mem hlt)
       rw [Hxk.out] at this
       exact absurd this hok
      subst he
      clear her
      go_wp2_with first
       | (go_at_call 78; have hmark := hb4; refine (need_no 2 (by decide) _).mono ?_; rintro e w5 ⟨rfl, rfl⟩)
       | (go_at_call 59; refine (hck _ ha1).mono ?_; rintro e w4 ⟨rfl, hb4⟩; replace hb4 := ha1.trans (hb4.mono ha1.size))
      exact ⟨rfl, ⟨fun h => absurd h (by decide), fun _ => rfl⟩, hbl.trans (hb4.mono hbl.size)⟩
  · have he : er = 0 := by
     rw [← her.out]
     unfold decE
     rw [List.take_of_length_le (by omega)] at hall
     rw [if_pos hall]
    subst he
    clear her hall hx
    go_wp2_with fail
    go_end0
    exact ⟨⟨fun _ => rfl, fun h => absurd rfl h⟩, hbl⟩
def intE (xs : List IntArg) : Int := if xs.all IntArg.ok = true then 0 else 2
theorem integers_c (g : Nat) (xs : List IntArg) (w : World) (hg : g < w.heap.size) (hx : ArgsAt w g xs) (hn : xs.length ≤ 8) :
 Calls Tryz.prog 136 #[.slice (some ⟨g, 0, none⟩) xs.length xs.length] w fun e w' => Went (intE xs) e ∧ Below w.heap.size w w' := by
 obtain ⟨er, her⟩ : ∃ er, intE xs = er := ⟨_, rfl⟩
 rw [her]
 replace her := Lib.hid her
 go_enter Tryz.func136, Tryz.ntmps136
 go_wp2_with fail
 go_loopw [6] (fun i W => ∃ k : Nat, i = .int .i64 (k : Int) ∧ k ≤ xs.length ∧ (xs.take k).all IntArg.ok = true ∧ Below w.heap.size w W) (fun i _ => xs.length - (intOf i).toNat)
 case atStart => exact ⟨0, rfl, Nat.zero_le _, rfl, Below.refl _ _⟩
 case round =>
  obtain ⟨k, rfl, hk, hall, hbl⟩ := hrel
  by_cases hlt : k < xs.length
  · have x0 := (hbl.cell (p := ⟨g, k * 2, none⟩) hg).trans (hx.neg k hlt)
    have x1 := (hbl.cell (p := ⟨g, k * 2 + 1, none⟩) hg).trans (hx.abs k hlt)
    obtain ⟨hrd, hcc⟩ := hx.rd k hlt
    obtain ⟨x, hxk⟩ : ∃ x, xs[k] = x := ⟨_, rfl⟩
    rw [hxk] at x0 x1 hrd hcc
    have hrw := hrd.on hbl
    have hck := fun W' (h : Below wr.heap.size wr W') => formed_c x.neg x.A x.c x.l W' (hrw.on h) hcc
    have Hxk := Lib.hid hxk
    clear hx hxk hrd hrw
    have ha1 := al1 wr (.cells #[.bool x.neg, .slice x.A x.l.length x.c] 24)
    by_cases hok : okI x.neg x.l = true
    · simp only [hok] at hck
      go_wp2_with first
       | (go_at_call 134; refine (hck _ ha1).mono ?_; rintro e w4 ⟨rfl, hb4⟩; replace hb4 := ha1.trans (hb4.mono ha1.size))
      refine ⟨⟨k + 1, by simp, by omega, ?_, hbl.trans (hb4.mono hbl.size)⟩, by simp only [intOf]; omega⟩
      rw [List.take_succ_eq_append_getElem hlt, List.all_append, hall, Hxk.out]
      simp [IntArg.ok, hok]
    · have hok' : okI x.neg x.l = false := by simpa using hok
      simp only [hok'] at hck
      have he : er = 2 := by
       rw [← her.out]
       unfold intE
       rw [if_neg]
       intro h
       have := List.all_eq_true.1 h xs[k] (List.getElem_mem hlt)
       rw [Hxk.out] at this
       exact absurd this hok
      subst he
      clear her
      go_wp2_with first
       | (go_at_call 78; have hmark := hb4; refine (need_no 2 (by decide) _).mono ?_; rintro e w5 ⟨rfl, rfl⟩)
       | (go_at_call 134; refine (hck _ ha1).mono ?_; rintro e w4 ⟨rfl, hb4⟩; replace hb4 := ha1.trans (hb4.mono ha1.size))
      exact ⟨rfl, ⟨fun h => absurd h (by decide), fun _ => rfl⟩, hbl.trans (hb4.mono hbl.size)⟩
  · have he : er = 0 := by
     rw [← her.out]
     unfold intE
     rw [List.take_of_length_le (by omega)] at hall
     rw [if_pos hall]
    subst he
    clear her hall hx
    go_wp2_with fail
    go_end0
    exact ⟨⟨fun _ => rfl, fun h => absurd rfl h⟩, hbl⟩
theorem vals_one (a : VA) (w : World) (g : Nat) (h : Blk w g #[.int .i64 a.k, .int .i64 a.p, .bool a.s, .slice a.A a.l.length a.c, .string a.S, .slice a.B a.m a.d] 27) (ha : a.At w) : ValsAt w g [a] where
 c0 := fun k hk => by
  obtain rfl : k = 0 := by simpa using hk
  exact cell_at h.h 0 _ rfl
 c1 := fun k hk => by
  obtain rfl : k = 0 := by simpa using hk
  exact cell_at h.h 1 _ rfl
 c2 := fun k hk => by
  obtain rfl : k = 0 := by simpa using hk
  exact cell_at h.h 2 _ rfl
 c3 := fun k hk => by
  obtain rfl : k = 0 := by simpa using hk
  exact cell_at h.h 3 _ rfl
 c4 := fun k hk => by
  obtain rfl : k = 0 := by simpa using hk
  exact cell_at h.h 4 _ rfl
 c5 := fun k hk => by
  obtain rfl : k = 0 := by simpa using hk
  exact cell_at h.h 5 _ rfl
 at' := fun k hk => by
  obtain rfl : k = 0 := by simpa using hk
  exact ha
theorem vals_two (a b : VA) (w : World) (g : Nat) (h : Blk w g #[.int .i64 a.k, .int .i64 a.p, .bool a.s, .slice a.A a.l.length a.c, .string a.S, .slice a.B a.m a.d, .int .i64 b.k, .int .i64 b.p, .bool b.s, .slice b.A b.l.length b.c, .string b.S, .slice b.B b.m b.d] 27) (ha : a.At w) (hb : b.At w) : ValsAt w g [a, b] where
 c0 := fun k hk => by
  rcases (show k = 0 ∨ k = 1 by simp at hk; omega) with rfl | rfl
  · exact cell_at h.h 0 _ rfl
  · exact cell_at h.h 6 _ rfl
 c1 := fun k hk => by
  rcases (show k = 0 ∨ k = 1 by simp at hk; omega) with rfl | rfl
  · exact cell_at h.h 1 _ rfl
  · exact cell_at h.h 7 _ rfl
 c2 := fun k hk => by
  rcases (show k = 0 ∨ k = 1 by simp at hk; omega) with rfl | rfl
  · exact cell_at h.h 2 _ rfl
  · exact cell_at h.h 8 _ rfl
 c3 := fun k hk => by
  rcases (show k = 0 ∨ k = 1 by simp at hk; omega) with rfl | rfl
  · exact cell_at h.h 3 _ rfl
  · exact cell_at h.h 9 _ rfl
 c4 := fun k hk => by
  rcases (show k = 0 ∨ k = 1 by simp at hk; omega) with rfl | rfl
  · exact cell_at h.h 4 _ rfl
  · exact cell_at h.h 10 _ rfl
 c5 := fun k hk => by
  rcases (show k = 0 ∨ k = 1 by simp at hk; omega) with rfl | rfl
  · exact cell_at h.h 5 _ rfl
  · exact cell_at h.h 11 _ rfl
 at' := fun k hk => by
  rcases (show k = 0 ∨ k = 1 by simp at hk; omega) with rfl | rfl
  · exact ha
  · exact hb
theorem decE_one (a : VA) : decE [a] = if a.ok = true then 0 else 2 := by simp [decE]
theorem decE_two (a b : VA) : decE [a, b] = if (a.ok && b.ok) = true then 0 else 2 := by simp [decE]
end Dc
end Go.Proofs.YtjghnghceeijeaaGreatDoor
