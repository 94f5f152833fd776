/-
  Small facts on boxes and lengths.
  The specification's Pow.
  Small facts for the laws.
  The specification's Gcd.
  The specification's Root.
  The specification's Root, all ways; the law NumPowers: the walk.
  NumPowers: the row, the card. For every input the law returns true. The integers that came in are whatever the row lets in; the digits' table reads as the program's text lays it (the card ties it).
-/
import Derived.Test.YtlhmbbpkhahbeaaDoorNumMhPad1
import Derived.Test.YtlhmbbpkhahbeaaDoorTie
import Derived.Test.YtlhmbbpkhahbeaaDoorCards
import Derived.SevenTiedAt
namespace Go.Proofs.YtlhmbbpkhahbeaaDoor
namespace Nm
open Go.RowKit Go.Shelf Go.BigFrame

theorem IsZ.len_le {s : Bool} {l : List Nat} {z : Int} {k : Nat} (h : IsZ s l z) (hs : (lim z.natAbs).length ≤ k) : l.length ≤ k := by rw [h.abs]; exact hs
theorem al1 (W : World) (o : Obj) : Below W.heap.size W (W.alloc o) := (Below.refl _ W).alloc (Nat.le_refl _) _
theorem Times_z (n1 n2 : Bool) (A1 A2 : Option Addr) (c1 c2 : Nat) (l1 l2 : List Nat) (z1 z2 : Int) (w : World) (h1 : Rd w A1 l1) (h2 : Rd w A2 l2) (hc1 : l1.length ≤ c1) (hc2 : l2.length ≤ c2) (k1 : IsZ n1 l1 z1) (k2 : IsZ n2 l2 z2) (hs1 : l1.length ≤ 65536) (hs2 : l2.length ≤ 65536) :
    Calls Tryd.prog 30 #[iv n1 A1 l1.length c1, iv n2 A2 l2.length c2] w (RetZ (z1 * z2) w) := by
  have h := Times_calls n1 n2 A1 A2 c1 c2 l1 l2 w h1 h2 hc1 hc2 hs1 hs2
  rwa [k1.toZ, k2.toZ] at h

end Nm
end Go.Proofs.YtlhmbbpkhahbeaaDoor
namespace Go.Proofs.YtlhmbbpkhahbeaaDoor
namespace Nm
open Go.RowKit Go.Shelf Go.BigFrame
attribute [local go_sem] Oper.semAt_some

theorem half_step (n i : Nat) : n / 2 ^ i = 2 * (n / 2 ^ (i + 1)) + n / 2 ^ i % 2 := by
  rw [Nat.pow_succ, ← Nat.div_div_eq_div_mul]
  omega
theorem pow_even {z : Int} {M M' : Nat} (h : M' = 2 * M + 0) : z ^ M * z ^ M = z ^ M' := by
  rw [h, ← Int.pow_add]; congr 1; omega
theorem pow_odd {z : Int} {M M' : Nat} (h : M' = 2 * M + 1) : z ^ M * z ^ M * z = z ^ M' := by
  rw [h, ← Int.pow_add, ← Int.pow_succ]; congr 1; omega
theorem big_pow {z : Int} {m n : Nat} (h : m ≤ n) (hb : 300 < (lim (z ^ m).natAbs).length) : 300 < (lim (z ^ n).natAbs).length := by
  rw [Int.natAbs_pow] at hb ⊢
  rcases Nat.eq_zero_or_pos z.natAbs with h0 | h0
  · exfalso
    rw [h0] at hb
    rcases Nat.eq_zero_or_pos m with hm | hm
    · rw [hm, Nat.pow_zero, one_word (by decide) (by decide)] at hb; simp at hb
    · rw [Nat.zero_pow hm, lim_zero] at hb; simp at hb
  · exact Nat.lt_of_lt_of_le hb (length_mono (Nat.pow_le_pow_right h0 h))
theorem len_mul2 {z1 z2 : Int} {k j : Nat} (h1 : (lim z1.natAbs).length ≤ k) (h2 : (lim z2.natAbs).length ≤ j) : (lim (z1 * z2).natAbs).length ≤ k + j := by
  rw [Int.natAbs_mul]
  exact prod_length h1 h2
theorem fit_big {z : Int} (h : 300 < (lim z.natAbs).length) : fitZ z = (0, 3) := by unfold fitZ; rw [if_neg (by omega)]

set_option maxRecDepth 100000 in
set_option maxHeartbeats 8000000 in
theorem RPow_ok (n1 : Bool) (n : Nat) (A : Option Addr) (c : Nat) (l : List Nat) (z : Int) (w : World) (h1 : Rd w A l) (hc1 : l.length ≤ c) (hz : IsZ n1 l z) (hl : l.length ≤ 300) (hn : n ≤ 9600) :
    Calls Tryd.prog 24 #[iv n1 A l.length c, .int .i64 (n : Int)] w (RetGot (fitZ (z ^ n)).1 (fitZ (z ^ n)).2 w) := by
  have hb2 : ∀ a b, Below w.heap.size w ((w.alloc a).alloc b) := fun a b => ((Below.refl _ w).alloc (Nat.le_refl _) _).alloc (by simp) _
  obtain ⟨W2, hW2⟩ : ∃ W2, (w.alloc (.cells #[.bool n1, .slice A l.length c] 24)).alloc (.cells #[.bool false, .slice none 0 0, .int .i64 0] 41) = W2 := ⟨_, rfl⟩
  have hb : Below w.heap.size w W2 := by rw [← hW2]; exact hb2 _ _
  have B1 : IntBox W2 w.heap.size n1 A c l := ⟨by rw [← hW2]; exact (two_old w _ _ rfl).h, h1.on hb, hc1⟩
  have hR : Blk W2 (w.heap.size + 1) #[.bool false, .slice none 0 0, .int .i64 0] 41 := ⟨by rw [← hW2]; exact two_blk w _ _⟩
  have hof := fun W => ROf_calls 1 W (by decide) (by decide)
  have hfo := Formed_calls n1 A c l W2 B1.rd hc1
  rw [okI_of hz hl] at hfo
  have x0 := cell_at B1.blk 0 _ rfl
  have x1 := cell_at B1.blk 1 _ rfl
  obtain ⟨F, hF⟩ : ∃ F, fitZ (z ^ n) = F := ⟨_, rfl⟩
  rw [hF]
  have HF := Lib.hid hF
  clear hF
  go_enter Tryd.func24, Tryd.ntmps24
  go_wp2_with first
    | (go_at_call 40; refine (hof _).mono ?_; rintro e w3 ⟨s3, A3, c3, l3, rfl, z3, n3, r3, b3⟩)
    | (go_at_call 16; refine hfo.mono ?_; rintro e w2 ⟨rfl, b2⟩)
  clear hW2 hof hfo
  have hb34 : Below w3.heap.size w3 (w3.alloc (.cells #[.bool s3, .slice A3 l3.length c3] 24)) := (Below.refl _ _).alloc (Nat.le_refl _) _
  have hj : n / 2 ^ 15 = 0 := Nat.div_eq_of_lt (by omega)
  have H0 : HoldsZ (w3.alloc (.cells #[.bool s3, .slice A3 l3.length c3] 24)) w3.heap.size s3 A3 c3 l3 (z ^ (n / 2 ^ 15)) := ⟨⟨World.alloc_heap_new w3 _⟩, by rw [hj, Int.pow_zero]; exact z3, r3.on hb34, n3⟩
  have hl3 : l3.length ≤ 300 := z3.len_le (Nat.le_trans (length_le_of_lt (k := 1) (by decide)) (by decide))
  have b3' := b2.trans (b3.mono b2.size)
  have bb4 := b3'.trans (hb34.mono b3'.size)
  obtain ⟨g, hg⟩ : ∃ g, w3.heap.size = g := ⟨_, rfl⟩
  have hgs : W2.heap.size ≤ g := by rw [← hg]; exact b3'.size
  rw [hg] at H0 ⊢
  generalize (w3.alloc (.cells #[.bool s3, .slice A3 l3.length c3] 24)) = W4 at *
  clear hg hb34 b3 b2 r3 b3' hj z3
  go_loopw [6] (fun i W => ∃ (j κ : Nat) (s : Bool) (A' : Option Addr) (c' : Nat) (l' : List Nat), i = .int .i64 (κ : Int) ∧ κ ≤ 16384 ∧ Hid (κ = 2 ^ j / 2) ∧ HoldsZ W g s A' c' l' (z ^ (n / 2 ^ j)) ∧ l'.length ≤ 300 ∧ Below W2.heap.size W2 W) (fun i _ => (intOf i).toNat)
  case atStart => exact ⟨15, 16384, s3, A3, c3, l3, rfl, by decide, rfl, H0, hl3, bb4⟩
  case round =>
    clear H0 bb4 hl3 x0 x1
    obtain ⟨j, κ, s, A', c', l', rfl, hk, hκ, hH, hl', hbl⟩ := hrel
    have x0 := cell_at (B1.on hbl).blk 0 _ rfl
    have x1 := cell_at (B1.on hbl).blk 1 _ rfl
    have y0 := cell_at hH.blk.h 0 _ rfl
    have y1 := cell_at hH.blk.h 1 _ rfl
    have u0 := frozen_at hH.blk.h 0
    have u1 := frozen_at hH.blk.h 1
    have Bx := B1.on hbl
    by_cases h0 : 0 < κ
    · obtain ⟨i, rfl⟩ : ∃ i, j = i + 1 := by
        rcases j with _ | i
        · exfalso; have := hκ.out; simp at this; omega
        · exact ⟨i, rfl⟩
      have e1 : κ = 2 ^ i := by have := hκ.out; rw [Nat.pow_succ] at this; omega
      obtain ⟨M, hM⟩ : ∃ M, n / 2 ^ (i + 1) = M := ⟨_, rfl⟩
      obtain ⟨M', hM'⟩ : ∃ M, n / 2 ^ i = M := ⟨_, rfl⟩
      have hs := half_step n i
      rw [hM, hM'] at hs
      rw [hM] at hH
      obtain ⟨d, hd⟩ : ∃ d, M' % 2 = d := ⟨_, rfl⟩
      rw [hd] at hs
      have hd2 : d < 2 := by omega
      have hMn : M' ≤ n := by rw [← hM']; exact Nat.div_le_self _ _
      have q1 : (n : Int) / (κ : Int) = (M' : Int) := by rw [e1, ← hM']; rfl
      have q2 : (M' : Int) % 2 = (d : Int) := by omega
      have q3 : (n : Int).tdiv (κ : Int) = (M' : Int) := by rw [Int.tdiv_eq_ediv_of_nonneg (by omega)]; exact q1
      have q4 : (M' : Int).tmod 2 = (d : Int) := by rw [Int.tmod_eq_emod_of_nonneg (by omega)]; exact q2
      obtain ⟨κ', hκ'⟩ : ∃ k, κ / 2 = k := ⟨_, rfl⟩
      have q5 : (κ : Int) / 2 = (κ' : Int) := by omega
      have hk' : κ' ≤ 16384 ∧ κ' < κ := by omega
      have HK : Hid (κ' = 2 ^ i / 2) := by show _ = _; rw [← hκ', e1]
      have HM' := Lib.hid hM'
      have ht := fun W' (hh : HoldsZ W' g s A' c' l' (z ^ M)) => Times_z s s A' A' c' c' l' l' _ _ W' hh.rd hh.rd hh.cap hh.cap hh.isz hh.isz (by omega) (by omega)
      have Hr := Lib.hid hH
      clear hM hM' hκ' e1 hκ hd
      rcases (show d = 0 ∨ d = 1 by omega) with rfl | rfl
      · have Hp := Lib.hid (pow_even (z := z) hs)
        clear hs
        rw [Hp.out] at ht
        have tb1 : ((0 : Nat) : Int) = 0 := rfl
        by_cases hbig : 300 < (lim (z ^ M').natAbs).length
        · have HFF : Hid (F = (0, 3)) := by show _ = _; rw [← HF.out]; exact fit_big (big_pow hMn hbig)
          go_wp2_with (go_at_call 30; refine (ht _ hH).mono ?_; rintro e w5 ⟨s5, A5, c5, l5, rfl, z5, n5, r5, b5⟩; have hq := Hr.out.blk.on b5; have v0 := cell_at hq.h 0 _ rfl; have v1 := cell_at hq.h 1 _ rfl; have v2 := frozen_at hq.h 0; have v3 := frozen_at hq.h 1; have bb5 := ((hbl.trans (b5.mono hbl.size)).setCell hgs (.bool s5) (p := ⟨g, 0, none⟩)).setCell (p := ⟨g, 1, none⟩) hgs (.slice A5 l5.length c5); have rq := hR.on bb5; have rz0 := cell_at rq.h 0 _ rfl; have rz1 := cell_at rq.h 1 _ rfl; have rz2 := cell_at rq.h 2 _ rfl; have ru0 := frozen_at rq.h 0; have ru1 := frozen_at rq.h 1; have ru2 := frozen_at rq.h 2; have hlb : (300 : Int) < (l5.length : Int) := by rw [z5.abs]; omega)
          rw [HFF.out]
          exact ret_cellT rfl Tryd.underlying41 got_size rfl rfl (set3 rq.h _ _ _) rfl ⟨false, none, 0, [], rfl, isZ_zero, Nat.le_refl _, Rd.nil _ _, (((hb.trans (bb5.mono hb.size)).setCell (by dsimp only; omega) _).setCell (by dsimp only; omega) _).setCell (by dsimp only; omega) _⟩
        · go_wp2_with (go_at_call 30; refine (ht _ hH).mono ?_; rintro e w5 ⟨s5, A5, c5, l5, rfl, z5, n5, r5, b5⟩; have hq := Hr.out.blk.on b5; have v0 := cell_at hq.h 0 _ rfl; have v1 := cell_at hq.h 1 _ rfl; have v2 := frozen_at hq.h 0; have v3 := frozen_at hq.h 1; have bb5 := ((hbl.trans (b5.mono hbl.size)).setCell hgs (.bool s5) (p := ⟨g, 0, none⟩)).setCell (p := ⟨g, 1, none⟩) hgs (.slice A5 l5.length c5); have rq := hR.on bb5; have rz0 := cell_at rq.h 0 _ rfl; have rz1 := cell_at rq.h 1 _ rfl; have rz2 := cell_at rq.h 2 _ rfl; have ru0 := frozen_at rq.h 0; have ru1 := frozen_at rq.h 1; have ru2 := frozen_at rq.h 2; have hlb : ¬ (300 : Int) < (l5.length : Int) := by rw [z5.abs]; omega)
          refine ⟨⟨i, κ', s5, A5, c5, l5, rfl, hk'.1, HK, by rw [HM'.out]; exact holds_set hq (by simp) (by simp) z5 r5 n5, by omega, bb5⟩, by simp only [intOf]; omega⟩
      · have Hp := Lib.hid (pow_odd (z := z) hs)
        clear hs
        have tb1 : ((1 : Nat) : Int) = 1 := rfl
        have hMs : l'.length + l'.length ≤ 600 := by omega
        have hl5 : (lim (z ^ M * z ^ M).natAbs).length ≤ 600 := by
          have e1 : (lim (z ^ M).natAbs).length ≤ 300 := by rw [← hH.isz.abs]; exact hl'
          exact len_mul2 e1 e1
        have Hl5 := Lib.hid hl5
        clear hl5
        by_cases hbig : 300 < (lim (z ^ M').natAbs).length
        · have HFF : Hid (F = (0, 3)) := by show _ = _; rw [← HF.out]; exact fit_big (big_pow hMn hbig)
          go_wp2_with first
            | (go_at_call 30; have hmark := bb5; refine (Times_z s5 n1 A5 A c5 c l5 l _ _ _ hS.rd B5.rd n5 hc1 z5 hz (z5.len_le (Nat.le_trans Hl5.out (by decide))) (by omega)).mono ?_; rintro e w6 ⟨s6, A6, c6, l6, rfl, z6, n6, r6, b6⟩; rw [Hp.out] at z6; clear v0 v1 v2 v3 v4 v5 v6 v7; have hq6 := hS.blk.on b6; have v0 := cell_at hq6.h 0 _ rfl; have v1 := cell_at hq6.h 1 _ rfl; have v2 := frozen_at hq6.h 0; have v3 := frozen_at hq6.h 1; have bb6 := ((bb5.trans (b6.mono bb5.size)).setCell hgs (.bool s6) (p := ⟨g, 0, none⟩)).setCell (p := ⟨g, 1, none⟩) hgs (.slice A6 l6.length c6); have rq := hR.on bb6; have rz0 := cell_at rq.h 0 _ rfl; have rz1 := cell_at rq.h 1 _ rfl; have rz2 := cell_at rq.h 2 _ rfl; have ru0 := frozen_at rq.h 0; have ru1 := frozen_at rq.h 1; have ru2 := frozen_at rq.h 2; have hlb : (300 : Int) < (l6.length : Int) := by rw [z6.abs]; omega)
            | (go_at_call 30; refine (ht _ hH).mono ?_; rintro e w5 ⟨s5, A5, c5, l5, rfl, z5, n5, r5, b5⟩; have hq := Hr.out.blk.on b5; have v0 := cell_at hq.h 0 _ rfl; have v1 := cell_at hq.h 1 _ rfl; have v2 := frozen_at hq.h 0; have v3 := frozen_at hq.h 1; have bb5 := ((hbl.trans (b5.mono hbl.size)).setCell hgs (.bool s5) (p := ⟨g, 0, none⟩)).setCell (p := ⟨g, 1, none⟩) hgs (.slice A5 l5.length c5); have hS := holds_set hq (by simp) (by simp) z5 r5 n5; have v4 := cell_at hS.blk.h 0 _ rfl; have v5 := cell_at hS.blk.h 1 _ rfl; have B5 := B1.on bb5; have v6 := cell_at B5.blk 0 _ rfl; have v7 := cell_at B5.blk 1 _ rfl)
          rw [HFF.out]
          exact ret_cellT rfl Tryd.underlying41 got_size rfl rfl (set3 rq.h _ _ _) rfl ⟨false, none, 0, [], rfl, isZ_zero, Nat.le_refl _, Rd.nil _ _, (((hb.trans (bb6.mono hb.size)).setCell (by dsimp only; omega) _).setCell (by dsimp only; omega) _).setCell (by dsimp only; omega) _⟩
        · go_wp2_with first
            | (go_at_call 30; have hmark := bb5; refine (Times_z s5 n1 A5 A c5 c l5 l _ _ _ hS.rd B5.rd n5 hc1 z5 hz (z5.len_le (Nat.le_trans Hl5.out (by decide))) (by omega)).mono ?_; rintro e w6 ⟨s6, A6, c6, l6, rfl, z6, n6, r6, b6⟩; rw [Hp.out] at z6; clear v0 v1 v2 v3 v4 v5 v6 v7; have hq6 := hS.blk.on b6; have v0 := cell_at hq6.h 0 _ rfl; have v1 := cell_at hq6.h 1 _ rfl; have v2 := frozen_at hq6.h 0; have v3 := frozen_at hq6.h 1; have bb6 := ((bb5.trans (b6.mono bb5.size)).setCell hgs (.bool s6) (p := ⟨g, 0, none⟩)).setCell (p := ⟨g, 1, none⟩) hgs (.slice A6 l6.length c6); have rq := hR.on bb6; have rz0 := cell_at rq.h 0 _ rfl; have rz1 := cell_at rq.h 1 _ rfl; have rz2 := cell_at rq.h 2 _ rfl; have ru0 := frozen_at rq.h 0; have ru1 := frozen_at rq.h 1; have ru2 := frozen_at rq.h 2; have hlb : ¬ (300 : Int) < (l6.length : Int) := by rw [z6.abs]; omega)
            | (go_at_call 30; refine (ht _ hH).mono ?_; rintro e w5 ⟨s5, A5, c5, l5, rfl, z5, n5, r5, b5⟩; have hq := Hr.out.blk.on b5; have v0 := cell_at hq.h 0 _ rfl; have v1 := cell_at hq.h 1 _ rfl; have v2 := frozen_at hq.h 0; have v3 := frozen_at hq.h 1; have bb5 := ((hbl.trans (b5.mono hbl.size)).setCell hgs (.bool s5) (p := ⟨g, 0, none⟩)).setCell (p := ⟨g, 1, none⟩) hgs (.slice A5 l5.length c5); have hS := holds_set hq (by simp) (by simp) z5 r5 n5; have v4 := cell_at hS.blk.h 0 _ rfl; have v5 := cell_at hS.blk.h 1 _ rfl; have B5 := B1.on bb5; have v6 := cell_at B5.blk 0 _ rfl; have v7 := cell_at B5.blk 1 _ rfl)
          refine ⟨⟨i, κ', s6, A6, c6, l6, rfl, hk'.1, HK, by rw [HM'.out]; exact holds_set hq6 (by simp) (by simp) z6 r6 n6, by omega, bb6⟩, by simp only [intOf]; omega⟩
    · obtain rfl : κ = 0 := by omega
      have hj : j = 0 := by
        rcases j with _ | j
        · rfl
        · exfalso; have := hκ.out; rw [Nat.pow_succ] at this; have := Nat.two_pow_pos j; omega
      subst hj
      rw [Nat.pow_zero, Nat.div_one] at hH
      have HFF : Hid (F = (z ^ n, 0)) := by show _ = _; rw [← HF.out]; unfold fitZ; rw [if_pos (by rw [← hH.isz.abs]; exact hl')]
      have rq := hR.on hbl
      have rz0 := cell_at rq.h 0 _ rfl
      have rz1 := cell_at rq.h 1 _ rfl
      have rz2 := cell_at rq.h 2 _ rfl
      have ru0 := frozen_at rq.h 0
      have ru1 := frozen_at rq.h 1
      have ru2 := frozen_at rq.h 2
      have Hr := Lib.hid hH
      clear hκ hH h0
      go_wp2_with fail
      rw [HFF.out]
      have hne := Hr.out.rd.ne rq.h (by intro i x h; rcases i with _ | _ | _ | i <;> simp at h)
      exact ret_cellT rfl Tryd.underlying41 got_size rfl rfl (set3 rq.h _ _ _) rfl ⟨s, A', c', l', rfl, Hr.out.isz, Hr.out.cap, ((Hr.out.rd.setNe hne).setNe hne).setNe hne, (((hb.trans (hbl.mono hb.size)).setCell (by dsimp only; omega) _).setCell (by dsimp only; omega) _).setCell (by dsimp only; omega) _⟩

set_option maxRecDepth 100000 in
set_option maxHeartbeats 2000000 in
theorem RPow_bad (n1 : Bool) (n : Int) (A : Option Addr) (c : Nat) (l : List Nat) (w : World) (h1 : Rd w A l) (hc1 : l.length ≤ c) (hbad : okI n1 l = false ∨ (okI n1 l = true ∧ (n < 0 ∨ (¬ n < 0 ∧ 9600 < n)))) :
    Calls Tryd.prog 24 #[iv n1 A l.length c, .int .i64 n] w (RetGot 0 1 w) := by
  have hb2 : ∀ a b, Below w.heap.size w ((w.alloc a).alloc b) := fun a b => ((Below.refl _ w).alloc (Nat.le_refl _) _).alloc (by simp) _
  obtain ⟨W2, hW2⟩ : ∃ W2, (w.alloc (.cells #[.bool n1, .slice A l.length c] 24)).alloc (.cells #[.bool false, .slice none 0 0, .int .i64 0] 41) = W2 := ⟨_, rfl⟩
  have hb : Below w.heap.size w W2 := by rw [← hW2]; exact hb2 _ _
  have B1 : IntBox W2 w.heap.size n1 A c l := ⟨by rw [← hW2]; exact (two_old w _ _ rfl).h, h1.on hb, hc1⟩
  have hR : Blk W2 (w.heap.size + 1) #[.bool false, .slice none 0 0, .int .i64 0] 41 := ⟨by rw [← hW2]; exact two_blk w _ _⟩
  have hfo := Formed_calls n1 A c l W2 B1.rd hc1
  have x0 := cell_at B1.blk 0 _ rfl
  have x1 := cell_at B1.blk 1 _ rfl
  rcases hbad with hk | ⟨hk, hn | ⟨hn, hn'⟩⟩
  all_goals
    rw [hk] at hfo
    clear hk
    go_enter Tryd.func24, Tryd.ntmps24
    go_wp2_with (go_at_call 16; refine hfo.mono ?_; rintro e w4 ⟨rfl, b4⟩; have rq := hR.on b4; have rz0 := cell_at rq.h 0 _ rfl; have rz1 := cell_at rq.h 1 _ rfl; have rz2 := cell_at rq.h 2 _ rfl; have ru0 := frozen_at rq.h 0; have ru1 := frozen_at rq.h 1; have ru2 := frozen_at rq.h 2)
    exact ret_cellT rfl Tryd.underlying41 got_size rfl rfl (set3 rq.h _ _ _) rfl ⟨false, none, 0, [], rfl, isZ_zero, Nat.le_refl _, Rd.nil _ _, (((hb.trans (b4.mono hb.size)).setCell (by dsimp only; omega) _).setCell (by dsimp only; omega) _).setCell (by dsimp only; omega) _⟩

theorem RPow_calls (n1 : Bool) (n : Int) (A : Option Addr) (c : Nat) (l : List Nat) (w : World) (h1 : Rd w A l) (hc1 : l.length ≤ c) :
    Calls Tryd.prog 24 #[iv n1 A l.length c, .int .i64 n] w (RetGot (powR n1 l n).1 (powR n1 l n).2 w) := by
  unfold powR
  by_cases hok : okI n1 l = true
  · rw [if_pos hok]
    have k1 := okI_isInt h1.words hok
    by_cases hn : 0 ≤ n ∧ n ≤ 9600
    · rw [if_pos hn]
      obtain ⟨m, rfl⟩ : ∃ m : Nat, n = (m : Int) := ⟨n.toNat, by omega⟩
      rw [Int.toNat_natCast]
      exact RPow_ok n1 m A c l _ w h1 hc1 k1.isZ k1.small (by omega)
    · rw [if_neg hn]
      exact RPow_bad n1 n A c l w h1 hc1 (.inr ⟨hok, by omega⟩)
  · rw [if_neg hok]
    exact RPow_bad n1 n A c l w h1 hc1 (.inl (by simpa using hok))

end Nm
end Go.Proofs.YtlhmbbpkhahbeaaDoor
namespace Go.Proofs.YtlhmbbpkhahbeaaDoor
namespace Nm
open Go.RowKit Go.Shelf Go.BigFrame

theorem Same_d (n1 n2 : Bool) (A1 A2 : Option Addr) (c1 c2 : Nat) (l1 l2 : List Nat) (z1 z2 : Int) (w : World) (h1 : Rd w A1 l1) (h2 : Rd w A2 l2) (hc1 : l1.length ≤ c1) (hc2 : l2.length ≤ c2) (k1 : IsZ n1 l1 z1) (k2 : IsZ n2 l2 z2) (v : Bool) (e : decide (z1 = z2) = v) :
    Calls Tryd.prog 20 #[iv n1 A1 l1.length c1, iv n2 A2 l2.length c2] w fun e w' => e = .returned (.bool v) ∧ Below w.heap.size w w' := by
  have h := Same_calls n1 n2 A1 A2 c1 c2 l1 l2 w h1 h2 hc1 hc2
  rwa [sameI_z k1 k2, e] at h

theorem isZ_abs {s : Bool} {l : List Nat} {z : Int} (h : IsZ s l z) : IsZ false l (z.natAbs : Int) :=
  ⟨(decide_eq_false (by omega)).symm, by rw [Int.natAbs_natCast]; exact h.abs⟩

end Nm
end Go.Proofs.YtlhmbbpkhahbeaaDoor
namespace Go.Proofs.YtlhmbbpkhahbeaaDoor
namespace Nm
open Go.RowKit Go.Shelf Go.BigFrame
attribute [local go_sem] Oper.semAt_some

theorem gcd_step (a b : Int) : Int.gcd b (modZ a b) = Int.gcd a b := by
  unfold modZ
  rw [Int.gcd_sub_mul_left_right, Int.gcd_comm]

theorem modZ_lt (a b : Int) (hb : b ≠ 0) : (modZ a b).natAbs < b.natAbs := by
  unfold modZ divZ
  by_cases h : 0 < b
  · rw [if_pos h]
    have h1 := Int.emod_nonneg a hb
    have h2 := Int.emod_lt_of_pos a h
    have h3 := Int.mul_ediv_add_emod a b
    omega
  · rw [if_neg h]
    have h1 := Int.emod_nonneg (-a) (show -b ≠ 0 by omega)
    have h2 := Int.emod_lt_of_pos (-a) (show 0 < -b by omega)
    have h3 := Int.mul_ediv_add_emod (-a) (-b)
    rw [Int.neg_mul] at h3
    omega

theorem gcd_zero_r {x y : Int} {G : Nat} (h : Int.gcd x y = G) (hy : y = 0) : x.natAbs = G := by
  rw [hy, Int.gcd_zero_right] at h; exact h

theorem HoldsZ.on {W W' : World} {g : Nat} {s : Bool} {A : Option Addr} {c : Nat} {l : List Nat} {z : Int} (h : HoldsZ W g s A c l z) (hb : Below W.heap.size W W') : HoldsZ W' g s A c l z := ⟨h.blk.on hb, h.isz, h.rd.on hb, h.cap⟩

theorem move_pair {W : World} {g g' : Nat} {s1 s2 s6 : Bool} {A1 A2 A6 : Option Addr} {c1 c2 c6 : Nat} {l1 l2 l6 : List Nat} {x y r : Int} (K1 : HoldsZ W g s1 A1 c1 l1 x) (K2 : HoldsZ W g' s2 A2 c2 l2 y) (r6 : Rd W A6 l6) (z6 : IsZ s6 l6 r) (n6 : l6.length ≤ c6) (hne : g ≠ g') :
    HoldsZ ((((W.setCell ⟨g, 0, none⟩ (.bool s2)).setCell ⟨g, 1, none⟩ (.slice A2 l2.length c2)).setCell ⟨g', 0, none⟩ (.bool s6)).setCell ⟨g', 1, none⟩ (.slice A6 l6.length c6)) g s2 A2 c2 l2 y ∧
    HoldsZ ((((W.setCell ⟨g, 0, none⟩ (.bool s2)).setCell ⟨g, 1, none⟩ (.slice A2 l2.length c2)).setCell ⟨g', 0, none⟩ (.bool s6)).setCell ⟨g', 1, none⟩ (.slice A6 l6.length c6)) g' s6 A6 c6 l6 r := by
  have o : ∀ {X : World} {a : Addr} {v : Value} {g : Nat}, g ≠ a.block → (X.setCell a v).heap[g]? = X.heap[g]? := fun {X a v g} h => Below.heap_setCell _ _ _ g h
  have M1 := holds_set K1.blk (by simp) (by simp) K2.isz K2.rd K2.cap
  have k2 : Blk ((W.setCell ⟨g, 0, none⟩ (.bool s2)).setCell ⟨g, 1, none⟩ (.slice A2 l2.length c2)) g' #[.bool s2, .slice A2 l2.length c2] 24 := ⟨(o hne.symm).trans ((o hne.symm).trans K2.blk.h)⟩
  have m6 := r6.ne K1.blk.h (noword2 (by simp) (by simp))
  have r6' := (r6.setNe (i := 0) (v := .bool s2) m6).setNe (i := 1) (v := .slice A2 l2.length c2) m6
  have M2 := holds_set k2 (by simp) (by simp) z6 r6' n6
  have m1 := M1.rd.ne k2.h (noword2 (by simp) (by simp))
  exact ⟨⟨⟨(o hne).trans ((o hne).trans M1.blk.h)⟩, M1.isz, (M1.rd.setNe m1).setNe m1, M1.cap⟩, M2⟩

def cellVal (g : Nat) (W : World) : Nat := slotVal ((W.cell? ⟨g, 1, none⟩).getD undef) W
theorem cellVal_eq {W : World} {g : Nat} {s : Bool} {A : Option Addr} {c : Nat} {l : List Nat} {z : Int} (h : HoldsZ W g s A c l z) : cellVal g W = z.natAbs := by
  unfold cellVal
  rw [cell_at h.blk.h 1 (.slice A l.length c) rfl, Option.getD_some, slotVal_eq h.rd, h.isz.val]

set_option maxRecDepth 100000 in
set_option maxHeartbeats 4000000 in
theorem RGcd_calls (n1 n2 : Bool) (A1 A2 : Option Addr) (c1 c2 : Nat) (l1 l2 : List Nat) (z1 z2 : Int) (w : World) (h1 : Rd w A1 l1) (h2 : Rd w A2 l2) (hc1 : l1.length ≤ c1) (hc2 : l2.length ≤ c2) (k1 : IsZ n1 l1 z1) (k2 : IsZ n2 l2 z2) (hs1 : l1.length ≤ 65535) (hs2 : l2.length ≤ 65535) :
    Calls Tryd.prog 28 #[iv n1 A1 l1.length c1, iv n2 A2 l2.length c2] w (RetZ (Int.gcd z1 z2) w) := by
  obtain ⟨W3, hW3, hb3, B1, B2, hR, hsz⟩ := boxes3 w n1 n2 A1 A2 c1 c2 l1 l2 h1 h2 hc1 hc2 #[.bool false, .slice none 0 0] 24
  have G1 : HoldsZ W3 w.heap.size n1 A1 c1 l1 z1 := ⟨⟨B1.blk⟩, k1, B1.rd, hc1⟩
  have G2 : HoldsZ W3 (w.heap.size + 1) n2 A2 c2 l2 z2 := ⟨⟨B2.blk⟩, k2, B2.rd, hc2⟩
  obtain ⟨G, hG⟩ : ∃ G, Int.gcd z1 z2 = G := ⟨_, rfl⟩
  rw [hG]
  have HG := Lib.hid hG
  have t1 : Hid ((lim z1.natAbs).length ≤ 65535) := by show _ ≤ _; rw [← k1.abs]; exact hs1
  have t2 : Hid ((lim z2.natAbs).length ≤ 65535) := by show _ ≤ _; rw [← k2.abs]; exact hs2
  have hbs := hb3.size
  clear hG h1 h2 hc1 hc2 k1 k2 hs1 hs2 B1 B2
  go_enter Tryd.func28, Tryd.ntmps28
  go_wp2_with fail
  clear hW3
  go_loopw [5] (fun _ W => ∃ (n1 n2 : Bool) (A1 A2 : Option Addr) (c1 c2 : Nat) (l1 l2 : List Nat) (z1 z2 : Int), HoldsZ W w.heap.size n1 A1 c1 l1 z1 ∧ HoldsZ W (w.heap.size + 1) n2 A2 c2 l2 z2 ∧ Blk W (w.heap.size + 1 + 1) #[.bool false, .slice none 0 0] 24 ∧ Below w.heap.size w W ∧ w.heap.size + 1 + 1 < W.heap.size ∧ Hid (Int.gcd z1 z2 = G) ∧ Hid ((lim z1.natAbs).length ≤ 65535) ∧ Hid ((lim z2.natAbs).length ≤ 65535)) (fun _ W => cellVal (w.heap.size + 1) W)
  case atStart => exact ⟨n1, n2, A1, A2, c1, c2, l1, l2, z1, z2, G1, G2, hR, hb3, by omega, HG, t1, t2⟩
  case round =>
    clear G1 G2 HG t1 t2
    obtain ⟨s1, s2, A1, A2, c1, c2, l1, l2, x, y, H1, H2, hq, hbl, hsz, hG, t1, t2⟩ := hrel
    have hs1 : l1.length ≤ 65535 := H1.isz.len_le t1.out
    have hs2 : l2.length ≤ 65535 := H2.isz.len_le t2.out
    have x0 := cell_at H1.blk.h 0 _ rfl
    have x1 := cell_at H1.blk.h 1 _ rfl
    have y0 := cell_at H2.blk.h 0 _ rfl
    have y1 := cell_at H2.blk.h 1 _ rfl
    by_cases hy : y = 0
    · have hl2 : l2.length = 0 := by rw [H2.isz.abs, hy]; exact congrArg List.length lim_zero
      have hx := gcd_zero_r hG.out hy
      have hl0 : ¬ (0 : Int) < (l2.length : Int) := by omega
      have hl1 : ¬ 0 < l2.length := by omega
      have hm := fun W' h hc => made_calls false A1 c1 l1 W' h hc
      rw [H1.isz.val, hx] at hm
      clear hy hx hG t1 t2 hl2
      have r0 := cell_at hq.h 0 _ rfl
      go_wp2_with (go_at_call 70; refine (hm _ H1.rd H1.cap).mono ?_; rintro e w5 ⟨s5, A5, c5, l5, rfl, z5, n5, r5, b5⟩; have hq5 := hq.on b5; have v0 := cell_at hq5.h 0 _ rfl; have v1 := cell_at hq5.h 1 _ rfl; have v2 := frozen_at hq5.h 0; have v3 := frozen_at hq5.h 1)
      exact ret_cell rfl rfl rfl (set_blk (set_blk hq5.h 0 _) 1 _) ⟨s5, A5, c5, l5, rfl, by simpa using z5, n5, rd_sets r5 hq5 _ _, (((hbl.trans (b5.mono hbl.size)).setCell (by dsimp only; omega) _).setCell (by dsimp only; omega) _)⟩
    · have hp2 : 0 < l2.length := by rw [H2.isz.abs]; exact lim_length_pos (by omega)
      have hl0 : (0 : Int) < (l2.length : Int) := by omega
      have Hl := Lib.hid (modZ_lt x y hy)
      have HG' : Hid (Int.gcd y (modZ x y) = G) := by show _ = _; rw [gcd_step]; exact hG.out
      have hdv := Divide_calls s1 s2 A1 A2 c1 c2 l1 l2 x y wr H1.rd H2.rd H1.cap H2.cap H1.isz H2.isz hy hs1 hs2
      obtain ⟨q, hq'⟩ : ∃ q, divZ x y = q := ⟨_, rfl⟩
      obtain ⟨r, hr'⟩ : ∃ q, modZ x y = q := ⟨_, rfl⟩
      rw [hr'] at Hl HG'
      rw [hq', hr'] at hdv
      have H1' := Lib.hid H1
      have H2' := Lib.hid H2
      clear hq' hr' hy hs1 hs2 hp2 hG t1
      go_wp2_with (go_at_call 62; refine hdv.mono ?_; rintro e w5 ⟨s5, A5, c5, l5, s6, A6, c6, l6, rfl, z5, z6, n5, n6, r5, r6, b5⟩; have K1 := H1'.out.on b5; have K2 := H2'.out.on b5; have v0 := cell_at K1.blk.h 0 _ rfl; have v1 := cell_at K1.blk.h 1 _ rfl; have v2 := frozen_at K1.blk.h 0; have v3 := frozen_at K1.blk.h 1; have v4 := cell_at K2.blk.h 0 _ rfl; have v5 := cell_at K2.blk.h 1 _ rfl; have v6 := frozen_at K2.blk.h 0; have v7 := frozen_at K2.blk.h 1; have hsz5 := Nat.lt_of_lt_of_le hsz b5.size; have lt2 : w.heap.size < w5.heap.size := (by omega); have lt3 : w.heap.size + 1 < w5.heap.size := (by omega); have en2 : ¬ w.heap.size = w5.heap.size := (by omega); have en3 : ¬ w5.heap.size = w.heap.size := (by omega); have en4 : ¬ w.heap.size + 1 = w5.heap.size := (by omega); have en5 : ¬ w5.heap.size = w.heap.size + 1 := (by omega))
      obtain ⟨M1, M2⟩ := move_pair K1 K2 r6 z6 n6 (show w.heap.size ≠ w.heap.size + 1 by omega)
      have o : ∀ {X : World} {a : Addr} {v : Value} {g : Nat}, g ≠ a.block → (X.setCell a v).heap[g]? = X.heap[g]? := fun {X a v g} h => Below.heap_setCell _ _ _ g h
      have d1 : w.heap.size + 1 + 1 ≠ w.heap.size := by omega
      have d2 : w.heap.size + 1 + 1 ≠ w.heap.size + 1 := by omega
      have hq5 : Blk ((((w5.setCell ⟨w.heap.size, 0, none⟩ (.bool s2)).setCell ⟨w.heap.size, 1, none⟩ (.slice A2 l2.length c2)).setCell ⟨w.heap.size + 1, 0, none⟩ (.bool s6)).setCell ⟨w.heap.size + 1, 1, none⟩ (.slice A6 l6.length c6)) (w.heap.size + 1 + 1) #[.bool false, .slice none 0 0] 24 := ⟨(o d2).trans ((o d2).trans ((o d1).trans ((o d1).trans (hq.on b5).h)))⟩
      have bb := ((((hbl.trans (b5.mono hbl.size)).setCell (p := ⟨w.heap.size, 0, none⟩) (Nat.le_refl _) (.bool s2)).setCell (p := ⟨w.heap.size, 1, none⟩) (Nat.le_refl _) (.slice A2 l2.length c2)).setCell (p := ⟨w.heap.size + 1, 0, none⟩) (Nat.le_succ _) (.bool s6)).setCell (p := ⟨w.heap.size + 1, 1, none⟩) (Nat.le_succ _) (.slice A6 l6.length c6)
      refine ⟨⟨s2, s6, A2, A6, c2, c6, l2, l6, y, r, M1.on (al1 _ _), M2.on (al1 _ _), hq5.on (al1 _ _), bb.alloc bb.size _, ?_, HG', t2, ?_⟩, ?_⟩
      · simp [World.setCell]; omega
      · show _ ≤ _
        exact Nat.le_trans (length_mono (Nat.le_of_lt Hl.out)) t2.out
      · rw [cellVal_eq (M2.on (al1 _ _)), cellVal_eq H2]
        exact Hl.out

end Nm
end Go.Proofs.YtlhmbbpkhahbeaaDoor
namespace Go.Proofs.YtlhmbbpkhahbeaaDoor
namespace Nm
open Go.RowKit Go.Shelf Go.BigFrame
attribute [local go_sem] Oper.semAt_some

theorem root_init {a n : Nat} (hn : 1 ≤ n) : a < (0 + 2 ^ (blen a / n + 2)) ^ n := by
  rw [Nat.zero_add, ← Nat.pow_mul]
  refine Nat.lt_of_lt_of_le (blen_lt a) (Nat.pow_le_pow_right (by decide) ?_)
  have h1 := Nat.div_add_mod (blen a) n
  have h2 := Nat.mod_lt (blen a) hn
  rw [Nat.add_mul, Nat.mul_comm (blen a / n)]
  omega
theorem root_end {a n r : Nat} (_hn : 1 ≤ n) (h1 : r ^ n ≤ a) (h2 : a < (r + 2 ^ 0) ^ n) : IsRoot a n r := by
  refine ⟨h1, fun y hy => ?_⟩
  rcases Nat.lt_or_ge r y with h | h
  · exfalso
    have := Nat.pow_le_pow_left (show r + 2 ^ 0 ≤ y by rw [Nat.pow_zero]; omega) n
    omega
  · exact h

theorem arr_new_set (W : World) (l : List Nat) (q P : Nat) : Arr (W.alloc (.cells ((warr l).setIfInBounds q (.int .u32 (P : Int))) 72)) W.heap.size (l.set q P) := by
  refine ⟨_, World.alloc_heap_new W _, ?_⟩
  rw [Array.toList_setIfInBounds, List.length_set]
  simp [warr, wvals, List.map_set, List.take_of_length_le]
theorem val_one {k q i P : Nat} (hq : q = k / 32) (hi : i = k % 32) (hP : 2 ^ i = P) : val ((List.replicate (q + 1) 0).set q P) = 2 ^ k := by
  have h := val_set (l := List.replicate (q + 1) 0) (j := q) (x := 0) (p := P) (by simp) (by simp [List.getD_eq_getElem?_getD])
  rw [Nat.zero_add, val_replicate, Nat.zero_add] at h
  rw [h, ← hP, show BB = 2 ^ 32 from rfl, ← Nat.pow_mul, ← Nat.pow_add]
  congr 1
  omega
theorem larger_v (A1 A2 : Option Addr) (c1 c2 : Nat) (l1 l2 : List Nat) (w : World) (h1 : Rd w A1 l1) (h2 : Rd w A2 l2) (hc1 : l1.length ≤ c1) (hc2 : l2.length ≤ c2) (k1 : Canon l1) (k2 : Canon l2) (v : Int) (hv : cmpZ (val l1) (val l2) = v) :
    Calls Tryd.prog 73 #[.slice A1 l1.length c1, .slice A2 l2.length c2] w fun e w' => e = .returned (.int .i64 v) ∧ Below w.heap.size w w' := by
  subst hv
  refine (larger_calls A1 A2 c1 c2 l1 l2 w h1 h2 hc1 hc2 k1 k2).mono ?_
  rintro e w' ⟨h, n, rfl⟩
  exact ⟨h, below_drewN (Below.refl _ _) _⟩
theorem pow_sz {r n a : Nat} (h : r ^ n ≤ a) (la : (lim a).length ≤ 300) : ∀ i, i ≤ n → (lim ((r : Int) ^ i).natAbs).length ≤ 32768 := by
  intro i hi
  rw [Int.natAbs_pow, Int.natAbs_natCast]
  rcases Nat.eq_zero_or_pos r with h0 | h0
  · have : r ^ i ≤ 1 := by
      rw [h0]
      rcases Nat.eq_zero_or_pos i with hz | hz
      · rw [hz, Nat.pow_zero]; exact Nat.le_refl _
      · rw [Nat.zero_pow hz]; omega
    exact Nat.le_trans (length_le_of_lt (k := 1) (Nat.lt_of_le_of_lt this (by decide))) (by decide)
  · exact Nat.le_trans (length_mono (Nat.le_trans (Nat.pow_le_pow_right h0 hi) h)) (by omega)
theorem fit_neg {r a : Nat} (h : r ≤ a) (la : (lim a).length ≤ 300) : fitZ (-(r : Int)) = (-(r : Int), 0) := by
  unfold fitZ
  rw [if_pos]
  rw [Int.natAbs_neg, Int.natAbs_natCast]
  exact Nat.le_trans (length_mono h) la
theorem fit_neg' {r a : Nat} (h : r + 1 ≤ a) (la : (lim a).length ≤ 300) : fitZ (-((r : Int) + 1)) = (-((r : Int) + 1), 0) := fit_neg (r := r + 1) h la
theorem base_le {r n a : Nat} (hn : 1 ≤ n) (h : r ^ n ≤ a) : r ≤ a := Nat.le_trans (le_pow_self r hn) h

set_option maxRecDepth 100000 in
set_option maxHeartbeats 16000000 in
theorem RRoot_ok (n1 : Bool) (n : Nat) (A : Option Addr) (c : Nat) (l : List Nat) (w : World) (h1 : Rd w A l) (hc1 : l.length ≤ c) (hok : okI n1 l = true) (hn1 : 1 ≤ n) (hn : n ≤ 100) (hneg : (n1 && n % 2 == 0) = false) :
    Calls Tryd.prog 25 #[iv n1 A l.length c, .int .i64 (n : Int)] w (RetGot (if n1 = true then -(ceilN (val l) n : Int) else (rootN (val l) n : Int)) 0 w) := by
  have hb2 : ∀ a b, Below w.heap.size w ((w.alloc a).alloc b) := fun a b => ((Below.refl _ w).alloc (Nat.le_refl _) _).alloc (by simp) _
  obtain ⟨W2, hW2⟩ : ∃ W2, (w.alloc (.cells #[.bool n1, .slice A l.length c] 24)).alloc (.cells #[.bool false, .slice none 0 0, .int .i64 0] 41) = W2 := ⟨_, rfl⟩
  have hb : Below w.heap.size w W2 := by rw [← hW2]; exact hb2 _ _
  have B1 : IntBox W2 w.heap.size n1 A c l := ⟨by rw [← hW2]; exact (two_old w _ _ rfl).h, h1.on hb, hc1⟩
  have hR : Blk W2 (w.heap.size + 1) #[.bool false, .slice none 0 0, .int .i64 0] 41 := ⟨by rw [← hW2]; exact two_blk w _ _⟩
  have hfo := Formed_is n1 A c l W2 B1.rd hc1 true hok
  have k1 := okI_isInt h1.words hok
  have hs1 := k1.small
  have hdg := fun W h => Digits_calls n1 A c l W h hc1 (by omega)
  have x0 := cell_at B1.blk 0 _ rfl
  have x1 := cell_at B1.blk 1 _ rfl
  obtain ⟨a, ha⟩ : ∃ a, val l = a := ⟨_, rfl⟩
  rw [ha] at hdg ⊢
  have hmd : ∀ W, Rd W A l → Calls Tryd.prog 70 #[.bool false, .slice A l.length c] W (RetZ (a : Int) W) := fun W h => by
    have h := made_calls false A c l W h hc1
    rwa [ha, if_neg (by decide)] at h
  have la : (lim a).length ≤ 300 := by rw [← ha, lim_val k1.canon]; exact hs1
  have HI := Lib.hid (root_init (a := a) hn1)
  obtain ⟨D, hD⟩ : ∃ D, blen a = D := ⟨_, rfl⟩
  have hD9 : D ≤ 9600 := by
    have h2 := val_lt h1.words
    rw [pow_BB, ha] at h2
    rw [← hD]; exact Nat.le_trans (blen_lt_of h2) (by omega)
  rw [hD] at hdg HI
  obtain ⟨K, hK⟩ : ∃ K, D / n + 2 = K := ⟨_, rfl⟩
  rw [hK] at HI
  have hKn : (D : Int) / (n : Int) + 1 = (K : Int) - 1 := by
    have : (D : Int) / (n : Int) = ((D / n : Nat) : Int) := rfl
    omega
  have hKn' : (D : Int).tdiv (n : Int) + 1 = (K : Int) - 1 := by rw [Int.tdiv_eq_ediv_of_nonneg (by omega)]; exact hKn
  have hK9 : K ≤ 9602 := by have := Nat.div_le_self D n; omega
  have Ha := Lib.hid ha
  clear ha hD hK
  cases n1
  · go_enter Tryd.func25, Tryd.ntmps25
    go_wp2_with first
      | (go_at_call 71; refine (hdg _ ((B1.on b3').rd)).mono ?_; rintro e w5 ⟨rfl, b5⟩)
      | (go_at_call 70; refine (hmd _ ((B1.on b2).rd)).mono ?_; rintro e w3 ⟨s3, A3, c3, l3, rfl, z3, n3, r3, b3⟩; have b3'' := b2.trans (b3.mono b2.size); have b3' := b3''.trans ((two_below (w := w3) (.cells #[.bool s3, .slice A3 l3.length c3] 24) (.cells #[.bool false, .slice none 0 0] 24)).mono b3''.size); have y0 := cell_at (B1.on b3').blk 0 _ rfl; have y1 := cell_at (B1.on b3').blk 1 _ rfl)
      | (go_at_call 16; refine hfo.mono ?_; rintro e w2 ⟨rfl, b2⟩; have v0 := cell_at (B1.on b2).blk 0 _ rfl; have v1 := cell_at (B1.on b2).blk 1 _ rfl)
    have s5 : (w3.heap.size + 1) < w5.heap.size := Nat.lt_of_lt_of_le (Nat.lt_of_lt_of_eq (Nat.lt_succ_self _) (by simp)) b5.size
    have hsz3 := b3''.size
    obtain ⟨V, hV⟩ : ∃ V, w3.alloc (.cells #[.bool s3, .slice A3 l3.length c3] 24) = V := ⟨_, rfl⟩
    have bv := al1 w3 (.cells #[.bool s3, .slice A3 l3.length c3] 24)
    have S1 : IntBox V w3.heap.size s3 A3 c3 l3 := ⟨by rw [← hV]; exact World.alloc_heap_new w3 _, by rw [← hV]; exact r3.on bv, n3⟩
    have hVs : V.heap.size = w3.heap.size + 1 := by rw [← hV]; simp
    have bV := b3''.trans (bv.mono b3''.size)
    have O1 : HoldsZ ((w3.alloc (.cells #[.bool s3, .slice A3 l3.length c3] 24)).alloc (.cells #[.bool false, .slice none 0 0] 24)) (w3.heap.size + 1) false none 0 [] (0 : Nat) := ⟨⟨two_blk w3 _ _⟩, isZ_zero, Rd.nil _ _, Nat.le_refl _⟩
    have O5 := O1.on b5
    have bv5 := (al1 (w3.alloc (.cells #[.bool s3, .slice A3 l3.length c3] 24)) (.cells #[.bool false, .slice none 0 0] 24)).trans (b5.mono (al1 _ _).size)
    rw [hV] at bv5 bV
    have B1V := B1.on bV
    have hRV := hR.on bV
    have hz3 := z3

    clear hV bv b3' b5 O1 b3'' b3 b2 x0 x1 B1 hR hfo hdg hmd y0 y1 v0 v1 r3 hKn hKn' hsz3
    go_loopw [7] (fun i W => ∃ (j r : Nat) (s30 : Bool) (A30 : Option Addr) (c30 : Nat) (l30 : List Nat), i = .int .i64 ((j : Int) - 1) ∧ j ≤ K ∧ HoldsZ W (w3.heap.size + 1) s30 A30 c30 l30 (r : Int) ∧ Hid (r ^ n ≤ a) ∧ Hid (a < (r + 2 ^ j) ^ n) ∧ Below V.heap.size V W ∧ w3.heap.size + 1 < W.heap.size) (fun i _ => (intOf i + 1).toNat)
    case atStart => exact ⟨K, 0, false, none, 0, [], rfl, Nat.le_refl _, O5, by show _ ≤ _; rw [Nat.zero_pow hn1]; exact Nat.zero_le _, HI, bv5, s5⟩
    case round =>
      clear O5 bv5 s5
      obtain ⟨j, r, s30, A30, c30, l30, rfl, hj, hH, hlo, hhi, hbl, hlt⟩ := hrel
      have bb := bV.trans (hbl.mono bV.size)
      have x0 := cell_at hH.blk.h 0 _ rfl
      have x1 := cell_at hH.blk.h 1 _ rfl
      have u0 := frozen_at hH.blk.h 0
      have u1 := frozen_at hH.blk.h 1
      by_cases h0 : 0 < j
      · obtain ⟨k, rfl⟩ : ∃ k, j = k + 1 := ⟨j - 1, by omega⟩
        rw [show ((k + 1 : Nat) : Int) - 1 = (k : Int) by omega]
        obtain ⟨q, j1, j2⟩ : ∃ q : Nat, (k : Int) / 32 = (q : Int) ∧ Hid (q = k / 32) := ⟨k / 32, by omega, rfl⟩
        obtain ⟨i, i1, i2, i3⟩ : ∃ i : Nat, (k : Int) % 32 = (i : Int) ∧ Hid (i = k % 32) ∧ i < 32 := ⟨k % 32, by omega, rfl, by omega⟩
        have j4 : (k : Int).tdiv 32 = (q : Int) := by rw [Int.tdiv_eq_ediv_of_nonneg (by omega)]; exact j1
        have i4 : (k : Int).tmod 32 = (i : Int) := by rw [Int.tmod_eq_emod_of_nonneg (by omega)]; exact i1
        have hq9 : q ≤ 301 := by have := j2.out; omega
        have hp2 : 2 ^ i < 4294967296 := Nat.lt_of_lt_of_le (Nat.pow_lt_pow_right (by decide) i3) (by decide)
        obtain ⟨P, hP⟩ : ∃ P : Nat, 2 ^ i = P := ⟨_, rfl⟩
        have hPz : ((2 : Int) ^ i) = (P : Int) := by rw [← hP]; simp
        rw [hP] at hp2
        have p1 : (2 : Int) ^ i % 4294967296 = (P : Int) := by rw [hPz]; omega
        have HP := Lib.hid hP
        have hmk := make_u32 ((q : Int) + 1) ((q : Int) + 1) (q + 1) (q + 1) rfl rfl (Nat.le_refl _) (by omega) wr
        have har := arr_new wr (List.replicate (q + 1) 0)
        obtain ⟨u, g4⟩ : ∃ u : Nat, (wr.alloc (.cells (warr (List.replicate (q + 1) 0)) 72)).cell? ⟨wr.heap.size, q, none⟩ = some (.int .u32 (u : Int)) := ⟨_, arr_cell har q (by simp)⟩
        have f4 := arr_frozen har q
        clear hP hPz h0
        go_wp2_with fail
        obtain ⟨T, hT⟩ : ∃ T, 2 ^ k = T := ⟨_, rfl⟩
        have har2 := arr_new_set wr (List.replicate (q + 1) 0) q P
        have hv1 := val_one j2.out i2.out HP.out
        rw [hT] at hv1
        have bX := al1 wr (.cells ((warr (List.replicate (q + 1) 0)).setIfInBounds q (.int .u32 (P : Int))) 72)
        obtain ⟨X, hX⟩ : ∃ X, wr.alloc (.cells ((warr (List.replicate (q + 1) 0)).setIfInBounds q (.int .u32 (P : Int))) 72) = X := ⟨_, rfl⟩
        rw [hX] at har2 bX ⊢
        have rX := arr_rd har2 (words_set (words_replicate _) _ _ hp2) (by simp; omega)
        have hlo1 : ((List.replicate (q + 1) 0).set q P).length = q + 1 := by rw [List.length_set, List.length_replicate]
        have hm1 : ∀ W, Rd W (some ⟨wr.heap.size, 0, none⟩) ((List.replicate (q + 1) 0).set q P) → Calls Tryd.prog 70 #[.bool false, .slice (some ⟨wr.heap.size, 0, none⟩) (q + 1) (q + 1)] W (RetZ (T : Int) W) := fun W h => by
          have h := made_calls false (some ⟨wr.heap.size, 0, none⟩) (q + 1) _ W h (by rw [hlo1]; exact Nat.le_refl _)
          rwa [hv1, if_neg (by decide), hlo1] at h
        have hH2 := hH.on bX
        have z30 := hH2.isz
        have B30 : IntBox X (w3.heap.size + 1) s30 A30 c30 l30 := ⟨hH2.blk.h, hH2.rd, hH2.cap⟩
        have bvX := hbl.trans (bX.mono hbl.size)
        have hltX := Nat.lt_of_lt_of_le hlt bX.size
        have hra := base_le hn1 hlo.out
        have tr : (lim ((r : Int)).natAbs).length ≤ 302 := by rw [Int.natAbs_natCast]; exact Nat.le_trans (length_mono hra) (by omega)
        have tT : (lim ((T : Int)).natAbs).length ≤ 302 := by
          rw [Int.natAbs_natCast]
          exact len_of_bits (m := k + 1) (by rw [← hT]; exact Nat.pow_lt_pow_right (by decide) (Nat.lt_succ_self k)) (by omega)
        have TS := Lib.hid (len_add tr tT)
        have Ttr := Lib.hid tr
        have TtT := Lib.hid tT
        have HT := Lib.hid hT
        clear hX hlo1 hv1 hT tr tT hra g4 f4 hmk har har2 hp2 x0 x1 u0 u1 hH hH2 i1 i4 p1 j1 j4
        have y30a : X.cell? ⟨w3.heap.size + 1, 0, none⟩ = some (.bool s30) := cell_at B30.blk 0 _ rfl
        have y30b : X.cell? ⟨w3.heap.size + 1, 1, none⟩ = some (.slice A30 l30.length c30) := cell_at B30.blk 1 _ rfl
        go_region_held3 (fun w'' => w''.cell? ⟨w3.heap.size + 1, 0, none⟩ = some (.bool s30) ∧ w''.cell? ⟨w3.heap.size + 1, 1, none⟩ = some (.slice A30 l30.length c30)) ((first | (with_reducible exact ⟨y30a, y30b⟩) | exact ⟨y30a, y30b⟩ | exact ⟨cell_al _ y30a, cell_al _ y30b⟩ | (have qS := (q51.setCell (p := ⟨_, 0, none⟩) hG51 (.bool s21)).setCell (p := ⟨_, 1, none⟩) hG51 (.slice A21 l21.length c21); exact ⟨cell_at (B30.on qS).blk 0 _ rfl, cell_at (B30.on qS).blk 1 _ rfl⟩)))
          ((first
            | (go_at_call 29; have hmark := q50; refine (Sum_calls s30 s20 A30 A20 c30 c20 l30 l20 _ _ _ (by first | exact B30.rd.on q50 | exact B30.rd.on (below_al q50 _)) (by first | exact r20 | exact r20.on (below_al (Below.refl _ w50) _)) B30.cap n20 z30 z20 (z30.len_le (Nat.le_trans Ttr.out (by decide))) (z20.len_le (Nat.le_trans TtT.out (by decide)))).mono ?_; rintro e w51 ⟨s21, A21, c21, l21, rfl, z21, n21, r21, b51⟩; clear y30a y30b; have q51 : Below X.heap.size X w51 := (by first | exact q50.trans (b51.mono q50.size) | exact (below_al q50 _).trans (b51.mono (below_al q50 _).size)); (first | (have N51 := (b51.block _ m50).trans N50; have m51 := Nat.lt_of_lt_of_le m50 b51.size; have hG51 := hG50) | (have N51 : w51.heap[w50.heap.size]? = some (.cells #[.bool false, .slice none 0 0] 24 (0, 0)) := (b51.block w50.heap.size (Nat.lt_of_lt_of_eq (Nat.lt_succ_self _) (World.size_alloc w50 _).symm)).trans (World.alloc_heap_new w50 _); have m51 : w50.heap.size < w51.heap.size := Nat.lt_of_lt_of_le (Nat.lt_of_lt_of_eq (Nat.lt_succ_self _) (World.size_alloc w50 _).symm) b51.size; have hG51 : X.heap.size ≤ w50.heap.size := q50.size) | skip); replace r20 := (by first | exact r20.on b51 | exact (r20.on (below_al (Below.refl _ w50) _)).on b51); (try (have n0 := cell_at N51 0 _ rfl; have n1 := cell_at N51 1 _ rfl; have fz0 := frozen_at N51 0; have fz1 := frozen_at N51 1)); have y30a : w51.cell? ⟨w3.heap.size + 1, 0, none⟩ = some (.bool s30) := cell_at (B30.on q51).blk 0 _ rfl; have y30b : w51.cell? ⟨w3.heap.size + 1, 1, none⟩ = some (.slice A30 l30.length c30) := cell_at (B30.on q51).blk 1 _ rfl)
            | (go_at_call 70; refine (hm1 _ (by first | exact rX.on (below_drew (Below.refl _ X)) | exact rX.on (below_al (below_drew (Below.refl _ X)) _))).mono ?_; rintro e w50 ⟨s20, A20, c20, l20, rfl, z20, n20, r20, b50⟩; clear y30a y30b; have q50 : Below X.heap.size X w50 := (by first | exact (below_drew (Below.refl _ X)).trans b50 | exact (below_al (below_drew (Below.refl _ X)) _).trans (b50.mono (below_al (below_drew (Below.refl _ X)) _).size) | exact (below_al (Below.refl _ X) _).trans (b50.mono (below_al (Below.refl _ X) _).size)); (try (have N50 : w50.heap[X.heap.size]? = some (.cells #[.bool false, .slice none 0 0] 24 (0, 0)) := (b50.block X.heap.size (Nat.lt_of_lt_of_eq (Nat.lt_succ_self _) (World.size_alloc X.drew _).symm)).trans (World.alloc_heap_new X.drew _); have m50 : X.heap.size < w50.heap.size := Nat.lt_of_lt_of_le (Nat.lt_of_lt_of_eq (Nat.lt_succ_self _) (World.size_alloc X.drew _).symm) b50.size; have hG50 : X.heap.size ≤ X.heap.size := Nat.le_refl _)); have y30a : w50.cell? ⟨w3.heap.size + 1, 0, none⟩ = some (.bool s30) := cell_at (B30.on q50).blk 0 _ rfl; have y30b : w50.cell? ⟨w3.heap.size + 1, 1, none⟩ = some (.slice A30 l30.length c30) := cell_at (B30.on q50).blk 1 _ rfl)))
        · obtain ⟨bx, B21⟩ := one_box w51 s21 A21 c21 l21 r21 n21
          have qE := q51.trans (bx.mono q51.size)
          obtain ⟨Y, hY⟩ : ∃ Y, w51.alloc (.cells #[.bool s21, .slice A21 l21.length c21] 24) = Y := ⟨_, rfl⟩
          rw [hY] at B21 qE ⊢
          have bvY := bvX.trans (qE.mono bvX.size)
          have S1Y := S1.on bvY
          have B30Y := B30.on qE
          have hltY := Nat.lt_of_lt_of_le hltX qE.size
          clear hY y30a y30b
          obtain rfl : s21 = false := by rw [z21.sgn]; exact decide_eq_false (by omega)
          obtain ⟨R, hR'⟩ : ∃ R, r + T = R := ⟨_, rfl⟩
          have z21' : IsZ false l21 (R : Int) := by rw [← hR', Int.natCast_add]; exact z21
          have hab := fun W' h1 h2 => above_calls A21 A3 c21 c3 l21 l3 R a n W' h1 h2 B21.cap n3 z21' s3 hz3.canon (by rw [hz3.val, Int.natAbs_natCast]) hn1 hn (z21.len_le (Nat.le_trans TS.out (by decide))) (hz3.len_le (by rw [Int.natAbs_natCast]; omega))
          have y0 := cell_at B21.blk 0 _ rfl
          have y1 := cell_at B21.blk 1 _ rfl
          have y2 := cell_at S1Y.blk 0 _ rfl
          have y3 := cell_at S1Y.blk 1 _ rfl
          by_cases hov : a < R ^ n
          · rw [decide_eq_true hov] at hab
            have Hov := Lib.hid hov
            have HR' := Lib.hid hR'
            clear hov hR'
            go_wp2_with (go_at_call 72; refine (hab _ B21.rd S1Y.rd).mono ?_; rintro e w60 ⟨rfl, b60⟩; have B21w := B21.on b60; have B30w := B30Y.on b60; have bw := bvY.trans (b60.mono bvY.size); clear y0 y1 y2 y3; have y0 := cell_at B21w.blk 0 _ rfl; have y1 := cell_at B21w.blk 1 _ rfl; have y4 := cell_at B30w.blk 0 _ rfl; have y5 := cell_at B30w.blk 1 _ rfl; have y6 := frozen_at B30w.blk 0; have y7 := frozen_at B30w.blk 1; have hltw := Nat.lt_of_lt_of_le hltY b60.size)
            exact ⟨⟨k, r, s30, A30, c30, l30, rfl, by omega, ⟨⟨B30w.blk⟩, z30, B30w.rd, B30w.cap⟩, hlo, by show _ < _; rw [HT.out, HR'.out]; exact Hov.out, bw, hltw⟩, by simp only [intOf]; omega⟩
          · rw [decide_eq_false hov] at hab
            have Hov := Lib.hid hov
            have HR' := Lib.hid hR'
            clear hov hR'
            go_wp2_with (go_at_call 72; refine (hab _ B21.rd S1Y.rd).mono ?_; rintro e w60 ⟨rfl, b60⟩; have B21w := B21.on b60; have B30w := B30Y.on b60; have bw := bvY.trans (b60.mono bvY.size); clear y0 y1 y2 y3; have y0 := cell_at B21w.blk 0 _ rfl; have y1 := cell_at B21w.blk 1 _ rfl; have y4 := cell_at B30w.blk 0 _ rfl; have y5 := cell_at B30w.blk 1 _ rfl; have y6 := frozen_at B30w.blk 0; have y7 := frozen_at B30w.blk 1; have hltw := Nat.lt_of_lt_of_le hltY b60.size)
            have hS := holds_set ⟨B30w.blk⟩ (by simp) (by simp) z21' B21w.rd B21w.cap
            exact ⟨⟨k, R, false, A21, c21, l21, rfl, by omega, hS, by have := Hov.out; show _ ≤ _; omega, by show _ < _; rw [← HR'.out, ← HT.out]; have := hhi.out; rwa [Nat.pow_succ, Nat.mul_two, ← Nat.add_assoc] at this, (bw.setCell (by dsimp only; omega) _).setCell (by dsimp only; omega) _, by simpa [World.setCell] using hltw⟩, by simp only [intOf]; omega⟩
        · have B21 : IntBox ((w51.setCell ⟨w50.heap.size, 0, none⟩ (.bool s21)).setCell ⟨w50.heap.size, 1, none⟩ (.slice A21 l21.length c21)) w50.heap.size s21 A21 c21 l21 := ⟨set_blk (set_blk N51 0 _) 1 _, rd_sets r21 ⟨N51⟩ _ _, n21⟩
          have qE := (q51.setCell (p := ⟨w50.heap.size, 0, none⟩) q50.size (.bool s21)).setCell (p := ⟨w50.heap.size, 1, none⟩) q50.size (.slice A21 l21.length c21)
          obtain ⟨Y, hY⟩ : ∃ Y, (w51.setCell ⟨w50.heap.size, 0, none⟩ (.bool s21)).setCell ⟨w50.heap.size, 1, none⟩ (.slice A21 l21.length c21) = Y := ⟨_, rfl⟩
          rw [hY] at B21 qE ⊢
          have bvY := bvX.trans (qE.mono bvX.size)
          have S1Y := S1.on bvY
          have B30Y := B30.on qE
          have hltY := Nat.lt_of_lt_of_le hltX qE.size
          clear hY y30a y30b
          obtain rfl : s21 = false := by rw [z21.sgn]; exact decide_eq_false (by omega)
          obtain ⟨R, hR'⟩ : ∃ R, r + T = R := ⟨_, rfl⟩
          have z21' : IsZ false l21 (R : Int) := by rw [← hR', Int.natCast_add]; exact z21
          have hab := fun W' h1 h2 => above_calls A21 A3 c21 c3 l21 l3 R a n W' h1 h2 B21.cap n3 z21' s3 hz3.canon (by rw [hz3.val, Int.natAbs_natCast]) hn1 hn (z21.len_le (Nat.le_trans TS.out (by decide))) (hz3.len_le (by rw [Int.natAbs_natCast]; omega))
          have y0 := cell_at B21.blk 0 _ rfl
          have y1 := cell_at B21.blk 1 _ rfl
          have y2 := cell_at S1Y.blk 0 _ rfl
          have y3 := cell_at S1Y.blk 1 _ rfl
          by_cases hov : a < R ^ n
          · rw [decide_eq_true hov] at hab
            have Hov := Lib.hid hov
            have HR' := Lib.hid hR'
            clear hov hR'
            go_wp2_with (go_at_call 72; refine (hab _ B21.rd S1Y.rd).mono ?_; rintro e w60 ⟨rfl, b60⟩; have B21w := B21.on b60; have B30w := B30Y.on b60; have bw := bvY.trans (b60.mono bvY.size); clear y0 y1 y2 y3; have y0 := cell_at B21w.blk 0 _ rfl; have y1 := cell_at B21w.blk 1 _ rfl; have y4 := cell_at B30w.blk 0 _ rfl; have y5 := cell_at B30w.blk 1 _ rfl; have y6 := frozen_at B30w.blk 0; have y7 := frozen_at B30w.blk 1; have hltw := Nat.lt_of_lt_of_le hltY b60.size)
            exact ⟨⟨k, r, s30, A30, c30, l30, rfl, by omega, ⟨⟨B30w.blk⟩, z30, B30w.rd, B30w.cap⟩, hlo, by show _ < _; rw [HT.out, HR'.out]; exact Hov.out, bw, hltw⟩, by simp only [intOf]; omega⟩
          · rw [decide_eq_false hov] at hab
            have Hov := Lib.hid hov
            have HR' := Lib.hid hR'
            clear hov hR'
            go_wp2_with (go_at_call 72; refine (hab _ B21.rd S1Y.rd).mono ?_; rintro e w60 ⟨rfl, b60⟩; have B21w := B21.on b60; have B30w := B30Y.on b60; have bw := bvY.trans (b60.mono bvY.size); clear y0 y1 y2 y3; have y0 := cell_at B21w.blk 0 _ rfl; have y1 := cell_at B21w.blk 1 _ rfl; have y4 := cell_at B30w.blk 0 _ rfl; have y5 := cell_at B30w.blk 1 _ rfl; have y6 := frozen_at B30w.blk 0; have y7 := frozen_at B30w.blk 1; have hltw := Nat.lt_of_lt_of_le hltY b60.size)
            have hS := holds_set ⟨B30w.blk⟩ (by simp) (by simp) z21' B21w.rd B21w.cap
            exact ⟨⟨k, R, false, A21, c21, l21, rfl, by omega, hS, by have := Hov.out; show _ ≤ _; omega, by show _ < _; rw [← HR'.out, ← HT.out]; have := hhi.out; rwa [Nat.pow_succ, Nat.mul_two, ← Nat.add_assoc] at this, (bw.setCell (by dsimp only; omega) _).setCell (by dsimp only; omega) _, by simpa [World.setCell] using hltw⟩, by simp only [intOf]; omega⟩
        · have B21 : IntBox ((w51.setCell ⟨X.heap.size, 0, none⟩ (.bool s21)).setCell ⟨X.heap.size, 1, none⟩ (.slice A21 l21.length c21)) X.heap.size s21 A21 c21 l21 := ⟨set_blk (set_blk N51 0 _) 1 _, rd_sets r21 ⟨N51⟩ _ _, n21⟩
          have qE := (q51.setCell (p := ⟨X.heap.size, 0, none⟩) (Nat.le_refl _) (.bool s21)).setCell (p := ⟨X.heap.size, 1, none⟩) (Nat.le_refl _) (.slice A21 l21.length c21)
          obtain ⟨Y, hY⟩ : ∃ Y, (w51.setCell ⟨X.heap.size, 0, none⟩ (.bool s21)).setCell ⟨X.heap.size, 1, none⟩ (.slice A21 l21.length c21) = Y := ⟨_, rfl⟩
          rw [hY] at B21 qE ⊢
          have bvY := bvX.trans (qE.mono bvX.size)
          have S1Y := S1.on bvY
          have B30Y := B30.on qE
          have hltY := Nat.lt_of_lt_of_le hltX qE.size
          clear hY y30a y30b
          obtain rfl : s21 = false := by rw [z21.sgn]; exact decide_eq_false (by omega)
          obtain ⟨R, hR'⟩ : ∃ R, r + T = R := ⟨_, rfl⟩
          have z21' : IsZ false l21 (R : Int) := by rw [← hR', Int.natCast_add]; exact z21
          have hab := fun W' h1 h2 => above_calls A21 A3 c21 c3 l21 l3 R a n W' h1 h2 B21.cap n3 z21' s3 hz3.canon (by rw [hz3.val, Int.natAbs_natCast]) hn1 hn (z21.len_le (Nat.le_trans TS.out (by decide))) (hz3.len_le (by rw [Int.natAbs_natCast]; omega))
          have y0 := cell_at B21.blk 0 _ rfl
          have y1 := cell_at B21.blk 1 _ rfl
          have y2 := cell_at S1Y.blk 0 _ rfl
          have y3 := cell_at S1Y.blk 1 _ rfl
          by_cases hov : a < R ^ n
          · rw [decide_eq_true hov] at hab
            have Hov := Lib.hid hov
            have HR' := Lib.hid hR'
            clear hov hR'
            go_wp2_with (go_at_call 72; refine (hab _ B21.rd S1Y.rd).mono ?_; rintro e w60 ⟨rfl, b60⟩; have B21w := B21.on b60; have B30w := B30Y.on b60; have bw := bvY.trans (b60.mono bvY.size); clear y0 y1 y2 y3; have y0 := cell_at B21w.blk 0 _ rfl; have y1 := cell_at B21w.blk 1 _ rfl; have y4 := cell_at B30w.blk 0 _ rfl; have y5 := cell_at B30w.blk 1 _ rfl; have y6 := frozen_at B30w.blk 0; have y7 := frozen_at B30w.blk 1; have hltw := Nat.lt_of_lt_of_le hltY b60.size)
            exact ⟨⟨k, r, s30, A30, c30, l30, rfl, by omega, ⟨⟨B30w.blk⟩, z30, B30w.rd, B30w.cap⟩, hlo, by show _ < _; rw [HT.out, HR'.out]; exact Hov.out, bw, hltw⟩, by simp only [intOf]; omega⟩
          · rw [decide_eq_false hov] at hab
            have Hov := Lib.hid hov
            have HR' := Lib.hid hR'
            clear hov hR'
            go_wp2_with (go_at_call 72; refine (hab _ B21.rd S1Y.rd).mono ?_; rintro e w60 ⟨rfl, b60⟩; have B21w := B21.on b60; have B30w := B30Y.on b60; have bw := bvY.trans (b60.mono bvY.size); clear y0 y1 y2 y3; have y0 := cell_at B21w.blk 0 _ rfl; have y1 := cell_at B21w.blk 1 _ rfl; have y4 := cell_at B30w.blk 0 _ rfl; have y5 := cell_at B30w.blk 1 _ rfl; have y6 := frozen_at B30w.blk 0; have y7 := frozen_at B30w.blk 1; have hltw := Nat.lt_of_lt_of_le hltY b60.size)
            have hS := holds_set ⟨B30w.blk⟩ (by simp) (by simp) z21' B21w.rd B21w.cap
            exact ⟨⟨k, R, false, A21, c21, l21, rfl, by omega, hS, by have := Hov.out; show _ ≤ _; omega, by show _ < _; rw [← HR'.out, ← HT.out]; have := hhi.out; rwa [Nat.pow_succ, Nat.mul_two, ← Nat.add_assoc] at this, (bw.setCell (by dsimp only; omega) _).setCell (by dsimp only; omega) _, by simpa [World.setCell] using hltw⟩, by simp only [intOf]; omega⟩
      · obtain rfl : j = 0 := by omega
        have hroot := root_end hn1 hlo.out hhi.out
        have hrn := rootN_of hn1 hroot
        have z30 := hH.isz
        have hf : fitZ (r : Int) = ((r : Int), 0) := by unfold fitZ; rw [if_pos (by rw [Int.natAbs_natCast]; exact Nat.le_trans (length_mono (base_le hn1 hlo.out)) la)]
        have Hrn := Lib.hid hrn
        have Hf := Lib.hid hf
        have B1w := B1V.on hbl
        have y0 := cell_at B1w.blk 0 _ rfl
        have y1 := cell_at B1w.blk 1 _ rfl
        have hn0 : ¬ (0 : Int) ≤ ((0 : Nat) : Int) - 1 := by omega
        clear hroot hrn hf hlo hhi h0 u0 u1
        go_wp2_with (go_at_call 75; refine (fit_calls s30 A30 c30 l30 (r : Int) _ hH.rd hH.cap z30).mono ?_; rintro e w6 ⟨s6, A6, c6, l6, rfl, z6, n6, r6, b6⟩; rw [Hf.out] at z6 ⊢; have bq := hbl.trans (b6.mono hbl.size); have rq := hRV.on bq; have rz0 := cell_at rq.h 0 _ rfl; have rz1 := cell_at rq.h 1 _ rfl; have rz2 := cell_at rq.h 2 _ rfl; have ru0 := frozen_at rq.h 0; have ru1 := frozen_at rq.h 1; have ru2 := frozen_at rq.h 2)
        rw [Hrn.out]
        have hne := r6.ne rq.h (by intro i x h; rcases i with _ | _ | _ | i <;> simp at h)
        have bw := bV.trans (bq.mono bV.size)
        exact ret_cellT rfl Tryd.underlying41 got_size rfl rfl (set3 rq.h _ _ _) rfl ⟨s6, A6, c6, l6, rfl, z6, n6, ((r6.setNe hne).setNe hne).setNe hne, (((hb.trans (bw.mono hb.size)).setCell (by dsimp only; omega) _).setCell (by dsimp only; omega) _).setCell (by dsimp only; omega) _⟩
  · have hfld : ∀ (W : World) (s : Bool) (B : Option Addr) (m d : Nat), Sem.run Tryd.prog (Instr.field 24 (iv s B m d) 1) W = .ok (.slice B m d) W := fun _ _ _ _ _ => by kernel_rfl
    have hp0 : ((n : Int) % 2 == 0) = false := by rw [Bool.true_and] at hneg; rw [beq_eq_false_iff_ne] at hneg ⊢; omega
    have hp1 : ((n : Int).tmod 2 == 0) = false := by rw [Int.tmod_eq_emod_of_nonneg (by omega)]; exact hp0
    have hp2' : (n % 2 == 0) = false := by simpa using hneg
    clear hneg
    go_enter Tryd.func25, Tryd.ntmps25
    go_wp2_with first
      | (go_at_call 71; refine (hdg _ ((B1.on b3').rd)).mono ?_; rintro e w5 ⟨rfl, b5⟩)
      | (go_at_call 70; refine (hmd _ ((B1.on b2).rd)).mono ?_; rintro e w3 ⟨s3, A3, c3, l3, rfl, z3, n3, r3, b3⟩; have b3'' := b2.trans (b3.mono b2.size); have b3' := b3''.trans ((two_below (w := w3) (.cells #[.bool s3, .slice A3 l3.length c3] 24) (.cells #[.bool false, .slice none 0 0] 24)).mono b3''.size); have y0 := cell_at (B1.on b3').blk 0 _ rfl; have y1 := cell_at (B1.on b3').blk 1 _ rfl)
      | (go_at_call 16; refine hfo.mono ?_; rintro e w2 ⟨rfl, b2⟩; have v0 := cell_at (B1.on b2).blk 0 _ rfl; have v1 := cell_at (B1.on b2).blk 1 _ rfl)
    have s5 : (w3.heap.size + 1) < w5.heap.size := Nat.lt_of_lt_of_le (Nat.lt_of_lt_of_eq (Nat.lt_succ_self _) (by simp)) b5.size
    have hsz3 := b3''.size
    obtain ⟨V, hV⟩ : ∃ V, w3.alloc (.cells #[.bool s3, .slice A3 l3.length c3] 24) = V := ⟨_, rfl⟩
    have bv := al1 w3 (.cells #[.bool s3, .slice A3 l3.length c3] 24)
    have S1 : IntBox V w3.heap.size s3 A3 c3 l3 := ⟨by rw [← hV]; exact World.alloc_heap_new w3 _, by rw [← hV]; exact r3.on bv, n3⟩
    have hVs : V.heap.size = w3.heap.size + 1 := by rw [← hV]; simp
    have bV := b3''.trans (bv.mono b3''.size)
    have O1 : HoldsZ ((w3.alloc (.cells #[.bool s3, .slice A3 l3.length c3] 24)).alloc (.cells #[.bool false, .slice none 0 0] 24)) (w3.heap.size + 1) false none 0 [] (0 : Nat) := ⟨⟨two_blk w3 _ _⟩, isZ_zero, Rd.nil _ _, Nat.le_refl _⟩
    have O5 := O1.on b5
    have bv5 := (al1 (w3.alloc (.cells #[.bool s3, .slice A3 l3.length c3] 24)) (.cells #[.bool false, .slice none 0 0] 24)).trans (b5.mono (al1 _ _).size)
    rw [hV] at bv5 bV
    have B1V := B1.on bV
    have hRV := hR.on bV
    have hz3 := z3

    clear hV bv b3' b5 O1 b3'' b3 b2 x0 x1 B1 hR hfo hdg hmd y0 y1 v0 v1 r3 hKn hKn' hsz3
    go_loopw [7] (fun i W => ∃ (j r : Nat) (s30 : Bool) (A30 : Option Addr) (c30 : Nat) (l30 : List Nat), i = .int .i64 ((j : Int) - 1) ∧ j ≤ K ∧ HoldsZ W (w3.heap.size + 1) s30 A30 c30 l30 (r : Int) ∧ Hid (r ^ n ≤ a) ∧ Hid (a < (r + 2 ^ j) ^ n) ∧ Below V.heap.size V W ∧ w3.heap.size + 1 < W.heap.size) (fun i _ => (intOf i + 1).toNat)
    case atStart => exact ⟨K, 0, false, none, 0, [], rfl, Nat.le_refl _, O5, by show _ ≤ _; rw [Nat.zero_pow hn1]; exact Nat.zero_le _, HI, bv5, s5⟩
    case round =>
      clear O5 bv5 s5
      obtain ⟨j, r, s30, A30, c30, l30, rfl, hj, hH, hlo, hhi, hbl, hlt⟩ := hrel
      have bb := bV.trans (hbl.mono bV.size)
      have x0 := cell_at hH.blk.h 0 _ rfl
      have x1 := cell_at hH.blk.h 1 _ rfl
      have u0 := frozen_at hH.blk.h 0
      have u1 := frozen_at hH.blk.h 1
      by_cases h0 : 0 < j
      · obtain ⟨k, rfl⟩ : ∃ k, j = k + 1 := ⟨j - 1, by omega⟩
        rw [show ((k + 1 : Nat) : Int) - 1 = (k : Int) by omega]
        obtain ⟨q, j1, j2⟩ : ∃ q : Nat, (k : Int) / 32 = (q : Int) ∧ Hid (q = k / 32) := ⟨k / 32, by omega, rfl⟩
        obtain ⟨i, i1, i2, i3⟩ : ∃ i : Nat, (k : Int) % 32 = (i : Int) ∧ Hid (i = k % 32) ∧ i < 32 := ⟨k % 32, by omega, rfl, by omega⟩
        have j4 : (k : Int).tdiv 32 = (q : Int) := by rw [Int.tdiv_eq_ediv_of_nonneg (by omega)]; exact j1
        have i4 : (k : Int).tmod 32 = (i : Int) := by rw [Int.tmod_eq_emod_of_nonneg (by omega)]; exact i1
        have hq9 : q ≤ 301 := by have := j2.out; omega
        have hp2 : 2 ^ i < 4294967296 := Nat.lt_of_lt_of_le (Nat.pow_lt_pow_right (by decide) i3) (by decide)
        obtain ⟨P, hP⟩ : ∃ P : Nat, 2 ^ i = P := ⟨_, rfl⟩
        have hPz : ((2 : Int) ^ i) = (P : Int) := by rw [← hP]; simp
        rw [hP] at hp2
        have p1 : (2 : Int) ^ i % 4294967296 = (P : Int) := by rw [hPz]; omega
        have HP := Lib.hid hP
        have hmk := make_u32 ((q : Int) + 1) ((q : Int) + 1) (q + 1) (q + 1) rfl rfl (Nat.le_refl _) (by omega) wr
        have har := arr_new wr (List.replicate (q + 1) 0)
        obtain ⟨u, g4⟩ : ∃ u : Nat, (wr.alloc (.cells (warr (List.replicate (q + 1) 0)) 72)).cell? ⟨wr.heap.size, q, none⟩ = some (.int .u32 (u : Int)) := ⟨_, arr_cell har q (by simp)⟩
        have f4 := arr_frozen har q
        clear hP hPz h0
        go_wp2_with fail
        obtain ⟨T, hT⟩ : ∃ T, 2 ^ k = T := ⟨_, rfl⟩
        have har2 := arr_new_set wr (List.replicate (q + 1) 0) q P
        have hv1 := val_one j2.out i2.out HP.out
        rw [hT] at hv1
        have bX := al1 wr (.cells ((warr (List.replicate (q + 1) 0)).setIfInBounds q (.int .u32 (P : Int))) 72)
        obtain ⟨X, hX⟩ : ∃ X, wr.alloc (.cells ((warr (List.replicate (q + 1) 0)).setIfInBounds q (.int .u32 (P : Int))) 72) = X := ⟨_, rfl⟩
        rw [hX] at har2 bX ⊢
        have rX := arr_rd har2 (words_set (words_replicate _) _ _ hp2) (by simp; omega)
        have hlo1 : ((List.replicate (q + 1) 0).set q P).length = q + 1 := by rw [List.length_set, List.length_replicate]
        have hm1 : ∀ W, Rd W (some ⟨wr.heap.size, 0, none⟩) ((List.replicate (q + 1) 0).set q P) → Calls Tryd.prog 70 #[.bool false, .slice (some ⟨wr.heap.size, 0, none⟩) (q + 1) (q + 1)] W (RetZ (T : Int) W) := fun W h => by
          have h := made_calls false (some ⟨wr.heap.size, 0, none⟩) (q + 1) _ W h (by rw [hlo1]; exact Nat.le_refl _)
          rwa [hv1, if_neg (by decide), hlo1] at h
        have hH2 := hH.on bX
        have z30 := hH2.isz
        have B30 : IntBox X (w3.heap.size + 1) s30 A30 c30 l30 := ⟨hH2.blk.h, hH2.rd, hH2.cap⟩
        have bvX := hbl.trans (bX.mono hbl.size)
        have hltX := Nat.lt_of_lt_of_le hlt bX.size
        have hra := base_le hn1 hlo.out
        have tr : (lim ((r : Int)).natAbs).length ≤ 302 := by rw [Int.natAbs_natCast]; exact Nat.le_trans (length_mono hra) (by omega)
        have tT : (lim ((T : Int)).natAbs).length ≤ 302 := by
          rw [Int.natAbs_natCast]
          exact len_of_bits (m := k + 1) (by rw [← hT]; exact Nat.pow_lt_pow_right (by decide) (Nat.lt_succ_self k)) (by omega)
        have TS := Lib.hid (len_add tr tT)
        have Ttr := Lib.hid tr
        have TtT := Lib.hid tT
        have HT := Lib.hid hT
        clear hX hlo1 hv1 hT tr tT hra g4 f4 hmk har har2 hp2 x0 x1 u0 u1 hH hH2 i1 i4 p1 j1 j4
        have y30a : X.cell? ⟨w3.heap.size + 1, 0, none⟩ = some (.bool s30) := cell_at B30.blk 0 _ rfl
        have y30b : X.cell? ⟨w3.heap.size + 1, 1, none⟩ = some (.slice A30 l30.length c30) := cell_at B30.blk 1 _ rfl
        go_region_held3 (fun w'' => w''.cell? ⟨w3.heap.size + 1, 0, none⟩ = some (.bool s30) ∧ w''.cell? ⟨w3.heap.size + 1, 1, none⟩ = some (.slice A30 l30.length c30)) ((first | (with_reducible exact ⟨y30a, y30b⟩) | exact ⟨y30a, y30b⟩ | exact ⟨cell_al _ y30a, cell_al _ y30b⟩ | (have qS := (q51.setCell (p := ⟨_, 0, none⟩) hG51 (.bool s21)).setCell (p := ⟨_, 1, none⟩) hG51 (.slice A21 l21.length c21); exact ⟨cell_at (B30.on qS).blk 0 _ rfl, cell_at (B30.on qS).blk 1 _ rfl⟩)))
          ((first
            | (go_at_call 29; have hmark := q50; refine (Sum_calls s30 s20 A30 A20 c30 c20 l30 l20 _ _ _ (by first | exact B30.rd.on q50 | exact B30.rd.on (below_al q50 _)) (by first | exact r20 | exact r20.on (below_al (Below.refl _ w50) _)) B30.cap n20 z30 z20 (z30.len_le (Nat.le_trans Ttr.out (by decide))) (z20.len_le (Nat.le_trans TtT.out (by decide)))).mono ?_; rintro e w51 ⟨s21, A21, c21, l21, rfl, z21, n21, r21, b51⟩; clear y30a y30b; have q51 : Below X.heap.size X w51 := (by first | exact q50.trans (b51.mono q50.size) | exact (below_al q50 _).trans (b51.mono (below_al q50 _).size)); (first | (have N51 := (b51.block _ m50).trans N50; have m51 := Nat.lt_of_lt_of_le m50 b51.size; have hG51 := hG50) | (have N51 : w51.heap[w50.heap.size]? = some (.cells #[.bool false, .slice none 0 0] 24 (0, 0)) := (b51.block w50.heap.size (Nat.lt_of_lt_of_eq (Nat.lt_succ_self _) (World.size_alloc w50 _).symm)).trans (World.alloc_heap_new w50 _); have m51 : w50.heap.size < w51.heap.size := Nat.lt_of_lt_of_le (Nat.lt_of_lt_of_eq (Nat.lt_succ_self _) (World.size_alloc w50 _).symm) b51.size; have hG51 : X.heap.size ≤ w50.heap.size := q50.size) | skip); replace r20 := (by first | exact r20.on b51 | exact (r20.on (below_al (Below.refl _ w50) _)).on b51); (try (have n0 := cell_at N51 0 _ rfl; have n1 := cell_at N51 1 _ rfl; have fz0 := frozen_at N51 0; have fz1 := frozen_at N51 1)); have y30a : w51.cell? ⟨w3.heap.size + 1, 0, none⟩ = some (.bool s30) := cell_at (B30.on q51).blk 0 _ rfl; have y30b : w51.cell? ⟨w3.heap.size + 1, 1, none⟩ = some (.slice A30 l30.length c30) := cell_at (B30.on q51).blk 1 _ rfl)
            | (go_at_call 70; refine (hm1 _ (by first | exact rX.on (below_drew (Below.refl _ X)) | exact rX.on (below_al (below_drew (Below.refl _ X)) _))).mono ?_; rintro e w50 ⟨s20, A20, c20, l20, rfl, z20, n20, r20, b50⟩; clear y30a y30b; have q50 : Below X.heap.size X w50 := (by first | exact (below_drew (Below.refl _ X)).trans b50 | exact (below_al (below_drew (Below.refl _ X)) _).trans (b50.mono (below_al (below_drew (Below.refl _ X)) _).size) | exact (below_al (Below.refl _ X) _).trans (b50.mono (below_al (Below.refl _ X) _).size)); (try (have N50 : w50.heap[X.heap.size]? = some (.cells #[.bool false, .slice none 0 0] 24 (0, 0)) := (b50.block X.heap.size (Nat.lt_of_lt_of_eq (Nat.lt_succ_self _) (World.size_alloc X.drew _).symm)).trans (World.alloc_heap_new X.drew _); have m50 : X.heap.size < w50.heap.size := Nat.lt_of_lt_of_le (Nat.lt_of_lt_of_eq (Nat.lt_succ_self _) (World.size_alloc X.drew _).symm) b50.size; have hG50 : X.heap.size ≤ X.heap.size := Nat.le_refl _)); have y30a : w50.cell? ⟨w3.heap.size + 1, 0, none⟩ = some (.bool s30) := cell_at (B30.on q50).blk 0 _ rfl; have y30b : w50.cell? ⟨w3.heap.size + 1, 1, none⟩ = some (.slice A30 l30.length c30) := cell_at (B30.on q50).blk 1 _ rfl)))
        · obtain ⟨bx, B21⟩ := one_box w51 s21 A21 c21 l21 r21 n21
          have qE := q51.trans (bx.mono q51.size)
          obtain ⟨Y, hY⟩ : ∃ Y, w51.alloc (.cells #[.bool s21, .slice A21 l21.length c21] 24) = Y := ⟨_, rfl⟩
          rw [hY] at B21 qE ⊢
          have bvY := bvX.trans (qE.mono bvX.size)
          have S1Y := S1.on bvY
          have B30Y := B30.on qE
          have hltY := Nat.lt_of_lt_of_le hltX qE.size
          clear hY y30a y30b
          obtain rfl : s21 = false := by rw [z21.sgn]; exact decide_eq_false (by omega)
          obtain ⟨R, hR'⟩ : ∃ R, r + T = R := ⟨_, rfl⟩
          have z21' : IsZ false l21 (R : Int) := by rw [← hR', Int.natCast_add]; exact z21
          have hab := fun W' h1 h2 => above_calls A21 A3 c21 c3 l21 l3 R a n W' h1 h2 B21.cap n3 z21' s3 hz3.canon (by rw [hz3.val, Int.natAbs_natCast]) hn1 hn (z21.len_le (Nat.le_trans TS.out (by decide))) (hz3.len_le (by rw [Int.natAbs_natCast]; omega))
          have y0 := cell_at B21.blk 0 _ rfl
          have y1 := cell_at B21.blk 1 _ rfl
          have y2 := cell_at S1Y.blk 0 _ rfl
          have y3 := cell_at S1Y.blk 1 _ rfl
          by_cases hov : a < R ^ n
          · rw [decide_eq_true hov] at hab
            have Hov := Lib.hid hov
            have HR' := Lib.hid hR'
            clear hov hR'
            go_wp2_with (go_at_call 72; refine (hab _ B21.rd S1Y.rd).mono ?_; rintro e w60 ⟨rfl, b60⟩; have B21w := B21.on b60; have B30w := B30Y.on b60; have bw := bvY.trans (b60.mono bvY.size); clear y0 y1 y2 y3; have y0 := cell_at B21w.blk 0 _ rfl; have y1 := cell_at B21w.blk 1 _ rfl; have y4 := cell_at B30w.blk 0 _ rfl; have y5 := cell_at B30w.blk 1 _ rfl; have y6 := frozen_at B30w.blk 0; have y7 := frozen_at B30w.blk 1; have hltw := Nat.lt_of_lt_of_le hltY b60.size)
            exact ⟨⟨k, r, s30, A30, c30, l30, rfl, by omega, ⟨⟨B30w.blk⟩, z30, B30w.rd, B30w.cap⟩, hlo, by show _ < _; rw [HT.out, HR'.out]; exact Hov.out, bw, hltw⟩, by simp only [intOf]; omega⟩
          · rw [decide_eq_false hov] at hab
            have Hov := Lib.hid hov
            have HR' := Lib.hid hR'
            clear hov hR'
            go_wp2_with (go_at_call 72; refine (hab _ B21.rd S1Y.rd).mono ?_; rintro e w60 ⟨rfl, b60⟩; have B21w := B21.on b60; have B30w := B30Y.on b60; have bw := bvY.trans (b60.mono bvY.size); clear y0 y1 y2 y3; have y0 := cell_at B21w.blk 0 _ rfl; have y1 := cell_at B21w.blk 1 _ rfl; have y4 := cell_at B30w.blk 0 _ rfl; have y5 := cell_at B30w.blk 1 _ rfl; have y6 := frozen_at B30w.blk 0; have y7 := frozen_at B30w.blk 1; have hltw := Nat.lt_of_lt_of_le hltY b60.size)
            have hS := holds_set ⟨B30w.blk⟩ (by simp) (by simp) z21' B21w.rd B21w.cap
            exact ⟨⟨k, R, false, A21, c21, l21, rfl, by omega, hS, by have := Hov.out; show _ ≤ _; omega, by show _ < _; rw [← HR'.out, ← HT.out]; have := hhi.out; rwa [Nat.pow_succ, Nat.mul_two, ← Nat.add_assoc] at this, (bw.setCell (by dsimp only; omega) _).setCell (by dsimp only; omega) _, by simpa [World.setCell] using hltw⟩, by simp only [intOf]; omega⟩
        · have B21 : IntBox ((w51.setCell ⟨w50.heap.size, 0, none⟩ (.bool s21)).setCell ⟨w50.heap.size, 1, none⟩ (.slice A21 l21.length c21)) w50.heap.size s21 A21 c21 l21 := ⟨set_blk (set_blk N51 0 _) 1 _, rd_sets r21 ⟨N51⟩ _ _, n21⟩
          have qE := (q51.setCell (p := ⟨w50.heap.size, 0, none⟩) q50.size (.bool s21)).setCell (p := ⟨w50.heap.size, 1, none⟩) q50.size (.slice A21 l21.length c21)
          obtain ⟨Y, hY⟩ : ∃ Y, (w51.setCell ⟨w50.heap.size, 0, none⟩ (.bool s21)).setCell ⟨w50.heap.size, 1, none⟩ (.slice A21 l21.length c21) = Y := ⟨_, rfl⟩
          rw [hY] at B21 qE ⊢
          have bvY := bvX.trans (qE.mono bvX.size)
          have S1Y := S1.on bvY
          have B30Y := B30.on qE
          have hltY := Nat.lt_of_lt_of_le hltX qE.size
          clear hY y30a y30b
          obtain rfl : s21 = false := by rw [z21.sgn]; exact decide_eq_false (by omega)
          obtain ⟨R, hR'⟩ : ∃ R, r + T = R := ⟨_, rfl⟩
          have z21' : IsZ false l21 (R : Int) := by rw [← hR', Int.natCast_add]; exact z21
          have hab := fun W' h1 h2 => above_calls A21 A3 c21 c3 l21 l3 R a n W' h1 h2 B21.cap n3 z21' s3 hz3.canon (by rw [hz3.val, Int.natAbs_natCast]) hn1 hn (z21.len_le (Nat.le_trans TS.out (by decide))) (hz3.len_le (by rw [Int.natAbs_natCast]; omega))
          have y0 := cell_at B21.blk 0 _ rfl
          have y1 := cell_at B21.blk 1 _ rfl
          have y2 := cell_at S1Y.blk 0 _ rfl
          have y3 := cell_at S1Y.blk 1 _ rfl
          by_cases hov : a < R ^ n
          · rw [decide_eq_true hov] at hab
            have Hov := Lib.hid hov
            have HR' := Lib.hid hR'
            clear hov hR'
            go_wp2_with (go_at_call 72; refine (hab _ B21.rd S1Y.rd).mono ?_; rintro e w60 ⟨rfl, b60⟩; have B21w := B21.on b60; have B30w := B30Y.on b60; have bw := bvY.trans (b60.mono bvY.size); clear y0 y1 y2 y3; have y0 := cell_at B21w.blk 0 _ rfl; have y1 := cell_at B21w.blk 1 _ rfl; have y4 := cell_at B30w.blk 0 _ rfl; have y5 := cell_at B30w.blk 1 _ rfl; have y6 := frozen_at B30w.blk 0; have y7 := frozen_at B30w.blk 1; have hltw := Nat.lt_of_lt_of_le hltY b60.size)
            exact ⟨⟨k, r, s30, A30, c30, l30, rfl, by omega, ⟨⟨B30w.blk⟩, z30, B30w.rd, B30w.cap⟩, hlo, by show _ < _; rw [HT.out, HR'.out]; exact Hov.out, bw, hltw⟩, by simp only [intOf]; omega⟩
          · rw [decide_eq_false hov] at hab
            have Hov := Lib.hid hov
            have HR' := Lib.hid hR'
            clear hov hR'
            go_wp2_with (go_at_call 72; refine (hab _ B21.rd S1Y.rd).mono ?_; rintro e w60 ⟨rfl, b60⟩; have B21w := B21.on b60; have B30w := B30Y.on b60; have bw := bvY.trans (b60.mono bvY.size); clear y0 y1 y2 y3; have y0 := cell_at B21w.blk 0 _ rfl; have y1 := cell_at B21w.blk 1 _ rfl; have y4 := cell_at B30w.blk 0 _ rfl; have y5 := cell_at B30w.blk 1 _ rfl; have y6 := frozen_at B30w.blk 0; have y7 := frozen_at B30w.blk 1; have hltw := Nat.lt_of_lt_of_le hltY b60.size)
            have hS := holds_set ⟨B30w.blk⟩ (by simp) (by simp) z21' B21w.rd B21w.cap
            exact ⟨⟨k, R, false, A21, c21, l21, rfl, by omega, hS, by have := Hov.out; show _ ≤ _; omega, by show _ < _; rw [← HR'.out, ← HT.out]; have := hhi.out; rwa [Nat.pow_succ, Nat.mul_two, ← Nat.add_assoc] at this, (bw.setCell (by dsimp only; omega) _).setCell (by dsimp only; omega) _, by simpa [World.setCell] using hltw⟩, by simp only [intOf]; omega⟩
        · have B21 : IntBox ((w51.setCell ⟨X.heap.size, 0, none⟩ (.bool s21)).setCell ⟨X.heap.size, 1, none⟩ (.slice A21 l21.length c21)) X.heap.size s21 A21 c21 l21 := ⟨set_blk (set_blk N51 0 _) 1 _, rd_sets r21 ⟨N51⟩ _ _, n21⟩
          have qE := (q51.setCell (p := ⟨X.heap.size, 0, none⟩) (Nat.le_refl _) (.bool s21)).setCell (p := ⟨X.heap.size, 1, none⟩) (Nat.le_refl _) (.slice A21 l21.length c21)
          obtain ⟨Y, hY⟩ : ∃ Y, (w51.setCell ⟨X.heap.size, 0, none⟩ (.bool s21)).setCell ⟨X.heap.size, 1, none⟩ (.slice A21 l21.length c21) = Y := ⟨_, rfl⟩
          rw [hY] at B21 qE ⊢
          have bvY := bvX.trans (qE.mono bvX.size)
          have S1Y := S1.on bvY
          have B30Y := B30.on qE
          have hltY := Nat.lt_of_lt_of_le hltX qE.size
          clear hY y30a y30b
          obtain rfl : s21 = false := by rw [z21.sgn]; exact decide_eq_false (by omega)
          obtain ⟨R, hR'⟩ : ∃ R, r + T = R := ⟨_, rfl⟩
          have z21' : IsZ false l21 (R : Int) := by rw [← hR', Int.natCast_add]; exact z21
          have hab := fun W' h1 h2 => above_calls A21 A3 c21 c3 l21 l3 R a n W' h1 h2 B21.cap n3 z21' s3 hz3.canon (by rw [hz3.val, Int.natAbs_natCast]) hn1 hn (z21.len_le (Nat.le_trans TS.out (by decide))) (hz3.len_le (by rw [Int.natAbs_natCast]; omega))
          have y0 := cell_at B21.blk 0 _ rfl
          have y1 := cell_at B21.blk 1 _ rfl
          have y2 := cell_at S1Y.blk 0 _ rfl
          have y3 := cell_at S1Y.blk 1 _ rfl
          by_cases hov : a < R ^ n
          · rw [decide_eq_true hov] at hab
            have Hov := Lib.hid hov
            have HR' := Lib.hid hR'
            clear hov hR'
            go_wp2_with (go_at_call 72; refine (hab _ B21.rd S1Y.rd).mono ?_; rintro e w60 ⟨rfl, b60⟩; have B21w := B21.on b60; have B30w := B30Y.on b60; have bw := bvY.trans (b60.mono bvY.size); clear y0 y1 y2 y3; have y0 := cell_at B21w.blk 0 _ rfl; have y1 := cell_at B21w.blk 1 _ rfl; have y4 := cell_at B30w.blk 0 _ rfl; have y5 := cell_at B30w.blk 1 _ rfl; have y6 := frozen_at B30w.blk 0; have y7 := frozen_at B30w.blk 1; have hltw := Nat.lt_of_lt_of_le hltY b60.size)
            exact ⟨⟨k, r, s30, A30, c30, l30, rfl, by omega, ⟨⟨B30w.blk⟩, z30, B30w.rd, B30w.cap⟩, hlo, by show _ < _; rw [HT.out, HR'.out]; exact Hov.out, bw, hltw⟩, by simp only [intOf]; omega⟩
          · rw [decide_eq_false hov] at hab
            have Hov := Lib.hid hov
            have HR' := Lib.hid hR'
            clear hov hR'
            go_wp2_with (go_at_call 72; refine (hab _ B21.rd S1Y.rd).mono ?_; rintro e w60 ⟨rfl, b60⟩; have B21w := B21.on b60; have B30w := B30Y.on b60; have bw := bvY.trans (b60.mono bvY.size); clear y0 y1 y2 y3; have y0 := cell_at B21w.blk 0 _ rfl; have y1 := cell_at B21w.blk 1 _ rfl; have y4 := cell_at B30w.blk 0 _ rfl; have y5 := cell_at B30w.blk 1 _ rfl; have y6 := frozen_at B30w.blk 0; have y7 := frozen_at B30w.blk 1; have hltw := Nat.lt_of_lt_of_le hltY b60.size)
            have hS := holds_set ⟨B30w.blk⟩ (by simp) (by simp) z21' B21w.rd B21w.cap
            exact ⟨⟨k, R, false, A21, c21, l21, rfl, by omega, hS, by have := Hov.out; show _ ≤ _; omega, by show _ < _; rw [← HR'.out, ← HT.out]; have := hhi.out; rwa [Nat.pow_succ, Nat.mul_two, ← Nat.add_assoc] at this, (bw.setCell (by dsimp only; omega) _).setCell (by dsimp only; omega) _, by simpa [World.setCell] using hltw⟩, by simp only [intOf]; omega⟩
      · obtain rfl : j = 0 := by omega
        have hroot := root_end hn1 hlo.out hhi.out
        have Hrn := Lib.hid (rootN_of hn1 hroot)
        have z30 := hH.isz
        have B1w := B1V.on hbl
        have y0 := cell_at B1w.blk 0 _ rfl
        have y1 := cell_at B1w.blk 1 _ rfl
        have hn0 : ¬ (0 : Int) ≤ ((0 : Nat) : Int) - 1 := by omega
        have Hsz := Lib.hid (pow_sz hlo.out la)
        have hle := hlo.out
        have hba := base_le hn1 hlo.out
        have B30 : IntBox wr (w3.heap.size + 1) s30 A30 c30 l30 := ⟨hH.blk.h, hH.rd, hH.cap⟩
        clear hroot hlo hhi h0 u0 u1
        clear y0 y1
        have y30a : wr.cell? ⟨w3.heap.size + 1, 0, none⟩ = some (.bool s30) := cell_at B30.blk 0 _ rfl
        have y30b : wr.cell? ⟨w3.heap.size + 1, 1, none⟩ = some (.slice A30 l30.length c30) := cell_at B30.blk 1 _ rfl
        have yQQa : wr.cell? ⟨w.heap.size, 0, none⟩ = some (.bool true) := cell_at B1w.blk 0 _ rfl
        have yQQb : wr.cell? ⟨w.heap.size, 1, none⟩ = some (.slice A l.length c) := cell_at B1w.blk 1 _ rfl
        have hcv : ∀ v, cmpZ ((r ^ n : Nat) : Int) (a : Int) = v → ∀ A7 c7 l7 W, IsZ (decide ((r : Int) ^ n < 0)) l7 ((r : Int) ^ n) → Rd W A7 l7 → Rd W A l → l7.length ≤ c7 → Calls Tryd.prog 73 #[.slice A7 l7.length c7, .slice A l.length c] W fun e w' => e = .returned (.int .i64 v) ∧ Below W.heap.size W w' := fun v hv A7 c7 l7 W z7 h7 h1 n7 => larger_v A7 A c7 c l7 l W h7 h1 n7 hc1 z7.canon k1.canon v (by rw [Ha.out, z7.val, Int.natAbs_pow, Int.natAbs_natCast]; exact hv)
        by_cases heq : r ^ n = a
        · have HC := hcv 0 (by rw [heq]; unfold cmpZ; rw [if_neg (by omega), if_neg (by omega)])
          clear hcv
          go_wp2_with fail
          go_region_held3 (fun w'' => w''.cell? ⟨w3.heap.size + 1, 0, none⟩ = some (.bool s30) ∧ w''.cell? ⟨w3.heap.size + 1, 1, none⟩ = some (.slice A30 l30.length c30) ∧ w''.cell? ⟨w.heap.size, 0, none⟩ = some (.bool true) ∧ w''.cell? ⟨w.heap.size, 1, none⟩ = some (.slice A l.length c)) ((first | (with_reducible exact ⟨y30a, y30b, yQQa, yQQb⟩) | exact ⟨y30a, y30b, yQQa, yQQb⟩))
              ((first
                | (go_at_call 73; have hmark := q30; refine (HC A7 c7 l7 w30 z7' r7 (B1w.rd.on q30) n7).mono ?_; rintro e w31 ⟨rfl, b31⟩; clear y30a y30b yQQa yQQb; have q31 := q30.trans (b31.mono q30.size); have y30a : w31.cell? ⟨w3.heap.size + 1, 0, none⟩ = some (.bool s30) := cell_at (B30.on q31).blk 0 _ rfl; have y30b : w31.cell? ⟨w3.heap.size + 1, 1, none⟩ = some (.slice A30 l30.length c30) := cell_at (B30.on q31).blk 1 _ rfl; have yQQa : w31.cell? ⟨w.heap.size, 0, none⟩ = some (.bool true) := cell_at (B1w.on q31).blk 0 _ rfl; have yQQb : w31.cell? ⟨w.heap.size, 1, none⟩ = some (.slice A l.length c) := cell_at (B1w.on q31).blk 1 _ rfl)
                | (go_at_call 74; refine (RPower_calls s30 A30 c30 l30 (r : Int) n _ (B30.rd.on (below_drew (Below.refl _ wr))) B30.cap z30 hn (z30.len_le (by rw [Int.natAbs_natCast]; exact Nat.le_trans (length_mono hba) (by omega))) Hsz.out).mono ?_; rintro e w30 ⟨s7, A7, c7, l7, rfl, z7, n7, r7, b30⟩; clear y30a y30b yQQa yQQb; have q30 := (below_drew (Below.refl _ wr)).trans b30; have z7' := z7; rw [z7.sgn] at z7'; have y30a : w30.cell? ⟨w3.heap.size + 1, 0, none⟩ = some (.bool s30) := cell_at (B30.on q30).blk 0 _ rfl; have y30b : w30.cell? ⟨w3.heap.size + 1, 1, none⟩ = some (.slice A30 l30.length c30) := cell_at (B30.on q30).blk 1 _ rfl; have yQQa : w30.cell? ⟨w.heap.size, 0, none⟩ = some (.bool true) := cell_at (B1w.on q30).blk 0 _ rfl; have yQQb : w30.cell? ⟨w.heap.size, 1, none⟩ = some (.slice A l.length c) := cell_at (B1w.on q30).blk 1 _ rfl)))
          have bvq := hbl.trans (q31.mono hbl.size)
          replace B30 := B30.on q31
          clear y30a y30b yQQa yQQb
          have y0 := cell_at B30.blk 0 _ rfl
          have y1 := cell_at B30.blk 1 _ rfl
          have Hf : Hid (fitZ (-(r : Int)) = (-(r : Int), 0)) := fit_neg hba la
          go_wp2_with first
            | (go_at_call 75; have hmark := hS; refine (fit_calls s8 A8 c8 l8 (-(r : Int)) _ hS.rd hS.cap z8).mono ?_; rintro e w6 ⟨s6, A6, c6, l6, rfl, z6, n6, r6, b6⟩; rw [Hf.out] at z6 ⊢; have bq := bS.trans (b6.mono bS.size); have rq := hRV.on bq; have rz0 := cell_at rq.h 0 _ rfl; have rz1 := cell_at rq.h 1 _ rfl; have rz2 := cell_at rq.h 2 _ rfl; have ru0 := frozen_at rq.h 0; have ru1 := frozen_at rq.h 1; have ru2 := frozen_at rq.h 2)
            | (go_at_call 38; refine (Minus_calls s30 A30 c30 l30 (r : Int) _ B30.rd B30.cap z30).mono ?_; rintro e w40 ⟨s8, A8, c8, l8, rfl, z8, n8, r8, b40⟩; have B40 := B30.on b40; have v0 := cell_at B40.blk 0 _ rfl; have v1 := cell_at B40.blk 1 _ rfl; have v2 := frozen_at B40.blk 0; have v3 := frozen_at B40.blk 1; have hS := holds_set ⟨B40.blk⟩ (by simp) (by simp) z8 r8 n8; have bS := ((bvq.trans (b40.mono bvq.size)).setCell (p := ⟨w3.heap.size + 1, 0, none⟩) (by dsimp only; omega) (.bool s8)).setCell (p := ⟨w3.heap.size + 1, 1, none⟩) (by dsimp only; omega) (.slice A8 l8.length c8); have v4 := cell_at hS.blk.h 0 _ rfl; have v5 := cell_at hS.blk.h 1 _ rfl)
          rw [show ceilN a n = r from by unfold ceilN; rw [Hrn.out, if_neg (by omega)]]
          have hne := r6.ne rq.h (by intro i x h; rcases i with _ | _ | _ | i <;> simp at h)
          have bw := bV.trans (bq.mono bV.size)
          exact ret_cellT rfl Tryd.underlying41 got_size rfl rfl (set3 rq.h _ _ _) rfl ⟨s6, A6, c6, l6, rfl, z6, n6, ((r6.setNe hne).setNe hne).setNe hne, (((hb.trans (bw.mono hb.size)).setCell (by dsimp only; omega) _).setCell (by dsimp only; omega) _).setCell (by dsimp only; omega) _⟩
        · have hlt2 : r ^ n < a := by omega
          have hba2 : r + 1 ≤ a := by have := le_pow_self r hn1; omega
          clear hle
          have HC := hcv (-1) (by unfold cmpZ; rw [if_pos (by omega)])
          clear hcv
          go_wp2_with fail
          go_region_held3 (fun w'' => w''.cell? ⟨w3.heap.size + 1, 0, none⟩ = some (.bool s30) ∧ w''.cell? ⟨w3.heap.size + 1, 1, none⟩ = some (.slice A30 l30.length c30) ∧ w''.cell? ⟨w.heap.size, 0, none⟩ = some (.bool true) ∧ w''.cell? ⟨w.heap.size, 1, none⟩ = some (.slice A l.length c)) ((first | (with_reducible exact ⟨y30a, y30b, yQQa, yQQb⟩) | exact ⟨y30a, y30b, yQQa, yQQb⟩))
              ((first
                | (go_at_call 73; have hmark := q30; refine (HC A7 c7 l7 w30 z7' r7 (B1w.rd.on q30) n7).mono ?_; rintro e w31 ⟨rfl, b31⟩; clear y30a y30b yQQa yQQb; have q31 := q30.trans (b31.mono q30.size); have y30a : w31.cell? ⟨w3.heap.size + 1, 0, none⟩ = some (.bool s30) := cell_at (B30.on q31).blk 0 _ rfl; have y30b : w31.cell? ⟨w3.heap.size + 1, 1, none⟩ = some (.slice A30 l30.length c30) := cell_at (B30.on q31).blk 1 _ rfl; have yQQa : w31.cell? ⟨w.heap.size, 0, none⟩ = some (.bool true) := cell_at (B1w.on q31).blk 0 _ rfl; have yQQb : w31.cell? ⟨w.heap.size, 1, none⟩ = some (.slice A l.length c) := cell_at (B1w.on q31).blk 1 _ rfl)
                | (go_at_call 74; refine (RPower_calls s30 A30 c30 l30 (r : Int) n _ (B30.rd.on (below_drew (Below.refl _ wr))) B30.cap z30 hn (z30.len_le (by rw [Int.natAbs_natCast]; exact Nat.le_trans (length_mono hba) (by omega))) Hsz.out).mono ?_; rintro e w30 ⟨s7, A7, c7, l7, rfl, z7, n7, r7, b30⟩; clear y30a y30b yQQa yQQb; have q30 := (below_drew (Below.refl _ wr)).trans b30; have z7' := z7; rw [z7.sgn] at z7'; have y30a : w30.cell? ⟨w3.heap.size + 1, 0, none⟩ = some (.bool s30) := cell_at (B30.on q30).blk 0 _ rfl; have y30b : w30.cell? ⟨w3.heap.size + 1, 1, none⟩ = some (.slice A30 l30.length c30) := cell_at (B30.on q30).blk 1 _ rfl; have yQQa : w30.cell? ⟨w.heap.size, 0, none⟩ = some (.bool true) := cell_at (B1w.on q30).blk 0 _ rfl; have yQQb : w30.cell? ⟨w.heap.size, 1, none⟩ = some (.slice A l.length c) := cell_at (B1w.on q30).blk 1 _ rfl)))
          have bvq := hbl.trans (q31.mono hbl.size)
          replace B30 := B30.on q31
          clear y30a y30b yQQa yQQb
          have y0 := cell_at B30.blk 0 _ rfl
          have y1 := cell_at B30.blk 1 _ rfl
          have Hf : Hid (fitZ (-((r : Int) + 1)) = (-((r : Int) + 1), 0)) := fit_neg' (by omega) la
          have hltq := Nat.lt_of_lt_of_le hlt q31.size
          go_wp2_with fail
          go_region_with (first
            | (go_at_call 29; have hmark := B31; refine (Sum_calls s30 s31 A30 A31 c30 c31 l30 l31 (r : Int) 1 _ B31.rd r31 B31.cap n31 z30 z31 (z30.len_le (by rw [Int.natAbs_natCast]; exact Nat.le_trans (length_mono hba) (by omega))) (z31.len_le (Nat.le_trans (length_le_of_lt (k := 1) (by decide)) (by decide)))).mono ?_; rintro e w33 ⟨s33, A33, c33, l33, rfl, z33, n33, r33, b33⟩; have B33 := B31.on b33; have bv33 := bv32.trans (b33.mono bv32.size); have v0 := cell_at B33.blk 0 _ rfl; have v1 := cell_at B33.blk 1 _ rfl; have v2 := frozen_at B33.blk 0; have v3 := frozen_at B33.blk 1)
            | (go_at_call 40; refine (ROf_calls 1 _ (by decide) (by decide)).mono ?_; rintro e w32 ⟨s31, A31, c31, l31, rfl, z31, n31, r31, b32⟩; have B31 := B30.on ((below_drew (Below.refl _ _)).trans b32); have bv32 := bvq.trans (((below_drew (Below.refl _ _)).trans b32).mono bvq.size); have y2 := cell_at B31.blk 0 _ rfl; have y3 := cell_at B31.blk 1 _ rfl))
          all_goals
            have hT := holds_set ⟨B33.blk⟩ (by simp) (by simp) z33 r33 n33
            have bT := (bv33.setCell (p := ⟨w3.heap.size + 1, 0, none⟩) (by dsimp only; omega) (.bool s33)).setCell (p := ⟨w3.heap.size + 1, 1, none⟩) (by dsimp only; omega) (.slice A33 l33.length c33)
            obtain ⟨Z, hZ⟩ : ∃ Z, (w33.setCell ⟨w3.heap.size + 1, 0, none⟩ (.bool s33)).setCell ⟨w3.heap.size + 1, 1, none⟩ (.slice A33 l33.length c33) = Z := ⟨_, rfl⟩
            rw [hZ] at hT bT ⊢
            clear hZ y0 y1 v0 v1 v2 v3
            have B34 : IntBox Z (w3.heap.size + 1) s33 A33 c33 l33 := ⟨hT.blk.h, hT.rd, hT.cap⟩
            have y0 := cell_at B34.blk 0 _ rfl
            have y1 := cell_at B34.blk 1 _ rfl
            go_wp2_with first
              | (go_at_call 75; have hmark := hS; refine (fit_calls s8 A8 c8 l8 (-((r : Int) + 1)) _ hS.rd hS.cap z8).mono ?_; rintro e w6 ⟨s6, A6, c6, l6, rfl, z6, n6, r6, b6⟩; rw [Hf.out] at z6 ⊢; have bq := bS.trans (b6.mono bS.size); have rq := hRV.on bq; have rz0 := cell_at rq.h 0 _ rfl; have rz1 := cell_at rq.h 1 _ rfl; have rz2 := cell_at rq.h 2 _ rfl; have ru0 := frozen_at rq.h 0; have ru1 := frozen_at rq.h 1; have ru2 := frozen_at rq.h 2)
              | (go_at_call 38; refine (Minus_calls s33 A33 c33 l33 ((r : Int) + 1) _ B34.rd B34.cap z33).mono ?_; rintro e w40 ⟨s8, A8, c8, l8, rfl, z8, n8, r8, b40⟩; have B40 := B34.on b40; have v0 := cell_at B40.blk 0 _ rfl; have v1 := cell_at B40.blk 1 _ rfl; have v2 := frozen_at B40.blk 0; have v3 := frozen_at B40.blk 1; have hS := holds_set ⟨B40.blk⟩ (by simp) (by simp) z8 r8 n8; have bS := ((bT.trans (b40.mono bT.size)).setCell (p := ⟨w3.heap.size + 1, 0, none⟩) (by dsimp only; omega) (.bool s8)).setCell (p := ⟨w3.heap.size + 1, 1, none⟩) (by dsimp only; omega) (.slice A8 l8.length c8); have v4 := cell_at hS.blk.h 0 _ rfl; have v5 := cell_at hS.blk.h 1 _ rfl)
            rw [show ((ceilN a n : Nat) : Int) = (r : Int) + 1 from by unfold ceilN; rw [Hrn.out, if_pos (by omega)]; rfl]
            have hne := r6.ne rq.h (by intro i x h; rcases i with _ | _ | _ | i <;> simp at h)
            have bw := bV.trans (bq.mono bV.size)
            exact ret_cellT rfl Tryd.underlying41 got_size rfl rfl (set3 rq.h _ _ _) rfl ⟨s6, A6, c6, l6, rfl, z6, n6, ((r6.setNe hne).setNe hne).setNe hne, (((hb.trans (bw.mono hb.size)).setCell (by dsimp only; omega) _).setCell (by dsimp only; omega) _).setCell (by dsimp only; omega) _⟩

end Nm
end Go.Proofs.YtlhmbbpkhahbeaaDoor
namespace Go.Proofs.YtlhmbbpkhahbeaaDoor
namespace Nm
open Go.RowKit Go.Shelf Go.BigFrame
attribute [local go_sem] Oper.semAt_some

set_option maxRecDepth 100000 in
set_option maxHeartbeats 2000000 in
theorem RRoot_bad (n1 : Bool) (n : Int) (A : Option Addr) (c : Nat) (l : List Nat) (w : World) (h1 : Rd w A l) (hc1 : l.length ≤ c) (hbad : okI n1 l = false ∨ (okI n1 l = true ∧ (n < 1 ∨ (¬ n < 1 ∧ 100 < n)))) :
    Calls Tryd.prog 25 #[iv n1 A l.length c, .int .i64 n] w (RetGot 0 1 w) := by
  have hb2 : ∀ a b, Below w.heap.size w ((w.alloc a).alloc b) := fun a b => ((Below.refl _ w).alloc (Nat.le_refl _) _).alloc (by simp) _
  obtain ⟨W2, hW2⟩ : ∃ W2, (w.alloc (.cells #[.bool n1, .slice A l.length c] 24)).alloc (.cells #[.bool false, .slice none 0 0, .int .i64 0] 41) = W2 := ⟨_, rfl⟩
  have hb : Below w.heap.size w W2 := by rw [← hW2]; exact hb2 _ _
  have B1 : IntBox W2 w.heap.size n1 A c l := ⟨by rw [← hW2]; exact (two_old w _ _ rfl).h, h1.on hb, hc1⟩
  have hR : Blk W2 (w.heap.size + 1) #[.bool false, .slice none 0 0, .int .i64 0] 41 := ⟨by rw [← hW2]; exact two_blk w _ _⟩
  have hfo := Formed_calls n1 A c l W2 B1.rd hc1
  have x0 := cell_at B1.blk 0 _ rfl
  have x1 := cell_at B1.blk 1 _ rfl
  rcases hbad with hk | ⟨hk, hn | ⟨hn, hn'⟩⟩
  all_goals
    rw [hk] at hfo
    clear hk
    go_enter Tryd.func25, Tryd.ntmps25
    go_wp2_with (go_at_call 16; refine hfo.mono ?_; rintro e w4 ⟨rfl, b4⟩; have rq := hR.on b4; have rz0 := cell_at rq.h 0 _ rfl; have rz1 := cell_at rq.h 1 _ rfl; have rz2 := cell_at rq.h 2 _ rfl; have ru0 := frozen_at rq.h 0; have ru1 := frozen_at rq.h 1; have ru2 := frozen_at rq.h 2)
    exact ret_cellT rfl Tryd.underlying41 got_size rfl rfl (set3 rq.h _ _ _) rfl ⟨false, none, 0, [], rfl, isZ_zero, Nat.le_refl _, Rd.nil _ _, (((hb.trans (b4.mono hb.size)).setCell (by dsimp only; omega) _).setCell (by dsimp only; omega) _).setCell (by dsimp only; omega) _⟩

set_option maxRecDepth 100000 in
set_option maxHeartbeats 2000000 in
theorem RRoot_none (n : Int) (A : Option Addr) (c : Nat) (l : List Nat) (w : World) (h1 : Rd w A l) (hc1 : l.length ≤ c) (hk : okI true l = true) (hn1 : 1 ≤ n) (hn : n ≤ 100) (he : n % 2 = 0) :
    Calls Tryd.prog 25 #[iv true A l.length c, .int .i64 n] w (RetGot 0 5 w) := by
  have hb2 : ∀ a b, Below w.heap.size w ((w.alloc a).alloc b) := fun a b => ((Below.refl _ w).alloc (Nat.le_refl _) _).alloc (by simp) _
  obtain ⟨W2, hW2⟩ : ∃ W2, (w.alloc (.cells #[.bool true, .slice A l.length c] 24)).alloc (.cells #[.bool false, .slice none 0 0, .int .i64 0] 41) = W2 := ⟨_, rfl⟩
  have hb : Below w.heap.size w W2 := by rw [← hW2]; exact hb2 _ _
  have B1 : IntBox W2 w.heap.size true A c l := ⟨by rw [← hW2]; exact (two_old w _ _ rfl).h, h1.on hb, hc1⟩
  have hR : Blk W2 (w.heap.size + 1) #[.bool false, .slice none 0 0, .int .i64 0] 41 := ⟨by rw [← hW2]; exact two_blk w _ _⟩
  have hfo := Formed_is true A c l W2 B1.rd hc1 true hk
  have x0 := cell_at B1.blk 0 _ rfl
  have x1 := cell_at B1.blk 1 _ rfl
  have hp0 : (n % 2 == 0) = true := by rw [he]; rfl
  have hp1 : (n.tmod 2 == 0) = true := by rw [Int.tmod_eq_emod_of_nonneg (by omega)]; exact hp0
  clear hk he
  go_enter Tryd.func25, Tryd.ntmps25
  go_wp2_with (go_at_call 16; refine hfo.mono ?_; rintro e w4 ⟨rfl, b4⟩; have rq := hR.on b4; have rz0 := cell_at rq.h 0 _ rfl; have rz1 := cell_at rq.h 1 _ rfl; have rz2 := cell_at rq.h 2 _ rfl; have ru0 := frozen_at rq.h 0; have ru1 := frozen_at rq.h 1; have ru2 := frozen_at rq.h 2; have B4 := B1.on b4; have v0 := cell_at B4.blk 0 _ rfl; have v1 := cell_at B4.blk 1 _ rfl)
  exact ret_cellT rfl Tryd.underlying41 got_size rfl rfl (set3 rq.h _ _ _) rfl ⟨false, none, 0, [], rfl, isZ_zero, Nat.le_refl _, Rd.nil _ _, (((hb.trans (b4.mono hb.size)).setCell (by dsimp only; omega) _).setCell (by dsimp only; omega) _).setCell (by dsimp only; omega) _⟩

theorem RRoot_calls (n1 : Bool) (n : Int) (A : Option Addr) (c : Nat) (l : List Nat) (w : World) (h1 : Rd w A l) (hc1 : l.length ≤ c) :
    Calls Tryd.prog 25 #[iv n1 A l.length c, .int .i64 n] w (RetGot (rootR n1 l n).1 (rootR n1 l n).2 w) := by
  unfold rootR
  by_cases hok : okI n1 l = true
  · rw [if_pos hok]
    by_cases hn : 1 ≤ n ∧ n ≤ 100
    · rw [if_pos hn]
      by_cases hp : (!n1 || (n % 2 == 1)) = true
      · rw [if_pos hp]
        obtain ⟨m, rfl⟩ : ∃ m : Nat, n = (m : Int) := ⟨n.toNat, by omega⟩
        rw [Int.toNat_natCast]
        refine RRoot_ok n1 m A c l w h1 hc1 hok (by omega) (by omega) ?_
        cases n1
        · rfl
        · rw [Bool.true_and, beq_eq_false_iff_ne]
          rw [Bool.not_true, Bool.false_or, beq_iff_eq] at hp
          omega
      · rw [if_neg hp]
        cases n1
        · exact absurd rfl hp
        · rw [Bool.not_true, Bool.false_or, beq_iff_eq] at hp
          exact RRoot_none n A c l w h1 hc1 hok hn.1 hn.2 (by omega)
    · rw [if_neg hn]
      exact RRoot_bad n1 n A c l w h1 hc1 (.inr ⟨hok, by omega⟩)
  · rw [if_neg hok]
    exact RRoot_bad n1 n A c l w h1 hc1 (.inl (by simpa using hok))

theorem few_one (m : Nat) (g : Nat) (n1 : Bool) (A1 : Option Addr) (c1 : Nat) (l1 : List Nat) (w : World) (hg : w.heap[g]? = some (.cells #[.bool n1, .slice A1 l1.length c1] 24 (0, 0))) (h1 : Rd w A1 l1) (hc1 : l1.length ≤ c1) (b : Bool) (hb : decide (l1.length ≤ m) = b) :
    Calls Tryd.prog 15 #[.int .i64 (m : Int), .slice (some ⟨g, 0, none⟩) 1 1] w fun e w' => e = .returned (.bool b) ∧ w = w' := by
  have := few_calls m g [⟨n1, A1, c1, l1⟩] w ⟨?_, ?_, ?_⟩ (by simp)
  · rw [← hb]
    simpa using this
  · intro k hk
    obtain rfl : k = 0 := by simp at hk; omega
    exact cell_at hg 0 _ rfl
  · intro k hk
    obtain rfl : k = 0 := by simp at hk; omega
    exact cell_at hg 1 _ rfl
  · intro k hk
    obtain rfl : k = 0 := by simp at hk; omega
    exact ⟨h1, hc1⟩

set_option maxRecDepth 100000 in
set_option maxHeartbeats 16000000 in
theorem NumPowers_calls (s1 : Bool) (A1 : Option Addr) (c1 : Nat) (l1 : List Nat) (n m : Int) (w : World) (h1 : Rd w A1 l1) (hc1 : l1.length ≤ c1) (_ : -9223372036854775808 ≤ n) (_ : n < 9223372036854775808) (_ : -9223372036854775808 ≤ m) (_ : m < 9223372036854775808) (hd : DigW w) :
    Calls Tryd.prog 4 #[iv s1 A1 l1.length c1, .int .i64 n, .int .i64 m] w fun e w' => e = .returned (.bool true) ∧ Below w.heap.size w w' := by
  obtain ⟨hbw, B1⟩ := one_box w s1 A1 c1 l1 h1 hc1
  obtain ⟨W, hW⟩ : ∃ W, w.alloc (.cells #[.bool s1, .slice A1 l1.length c1] 24) = W := ⟨_, rfl⟩
  rw [hW] at hbw B1
  have hsz0 : w.heap.size < W.heap.size := by rw [← hW]; simp
  have x0 := cell_at B1.blk 0 _ rfl
  have x1 := cell_at B1.blk 1 _ rfl
  have hal : ∀ o, Below W.heap.size W (W.alloc o) := fun o => (Below.refl _ W).alloc (Nat.le_refl _) _
  obtain ⟨b30, h30⟩ : ∃ b, decide (l1.length ≤ 30) = b := ⟨_, rfl⟩
  have f30 := few_one 30 W.heap.size s1 A1 c1 l1 _ (World.alloc_heap_new W (.cells #[.bool s1, .slice A1 l1.length c1] 24)) (B1.rd.on (hal _)) hc1 _ h30
  have K1 := fun W' h => Pow_calls s1 n A1 c1 l1 W' h hc1
  have K2 := fun W' h => Root_calls s1 m A1 c1 l1 W' h hc1
  have R1 := fun W' h => RPow_calls s1 n A1 c1 l1 W' h hc1
  have R2 := fun W' h => RRoot_calls s1 m A1 c1 l1 W' h hc1
  obtain ⟨⟨p, ep⟩, hp⟩ : ∃ P, powR s1 l1 n = P := ⟨_, rfl⟩
  obtain ⟨⟨r, er⟩, hr⟩ : ∃ P, rootR s1 l1 m = P := ⟨_, rfl⟩
  rw [hp] at K1 R1
  rw [hr] at K2 R2
  have hdW := hd.on hbw
  clear h30 hp hr
  cases b30
  · go_enter Tryd.func4, Tryd.ntmps4
    go_wp2_with first
      | (go_at_call 17; have hmark := by9; refine (sane_calls _ (hdW.on by9)).mono ?_; rintro e w10 ⟨rfl, b10⟩; have by10 := by9.trans (b10.mono by9.size); replace B1 := B1.on b10; clear b10)
      | (go_at_call 15; refine f30.mono ?_; rintro e w4 ⟨rfl, rfl⟩; have by9 := hal (.cells #[.bool s1, .slice A1 l1.length c1] 24); replace B1 := B1.on by9)
    go_ret
    exact ⟨rfl, hbw.trans (by10.mono hbw.size)⟩
  · go_enter Tryd.func4, Tryd.ntmps4
    go_wp2_with first
      | (go_at_call 22; have hmark := by10; refine (K2 _ B1.rd).mono ?_; rintro e w11 ⟨s9, A9, c9, l9, rfl, z9, n9, r9, b11⟩; obtain ⟨bx11, B9⟩ := one_box w11 s9 A9 c9 l9 r9 n9; have by11 := (by10.trans (b11.mono by10.size)).trans (bx11.mono (by10.trans (b11.mono by10.size)).size); replace B1 := (B1.on b11).on bx11; replace B7 := (B7.on b11).on bx11; clear bx11 b11; clear u1a u1b)
      | (go_at_call 21; have hmark := by9; refine (K1 _ B1.rd).mono ?_; rintro e w10 ⟨s7, A7, c7, l7, rfl, z7, n7, r7, b10⟩; obtain ⟨bx10, B7⟩ := one_box w10 s7 A7 c7 l7 r7 n7; have by10 := (by9.trans (b10.mono by9.size)).trans (bx10.mono (by9.trans (b10.mono by9.size)).size); replace B1 := (B1.on b10).on bx10; clear bx10 b10; clear u1a u1b; have u1a := cell_at B1.blk 0 _ rfl; have u1b := cell_at B1.blk 1 _ rfl)
      | (go_at_call 15; refine f30.mono ?_; rintro e w4 ⟨rfl, rfl⟩; have by9 := hal (.cells #[.bool s1, .slice A1 l1.length c1] 24); replace B1 := B1.on by9; have u1a := cell_at B1.blk 0 _ rfl; have u1b := cell_at B1.blk 1 _ rfl)
    clear x0 x1
    obtain ⟨X, hX⟩ : ∃ X, w11.alloc (.cells #[.bool s9, .slice A9 l9.length c9] 24) = X := ⟨_, rfl⟩
    rw [hX] at B1 B7 B9 by11 ⊢
    clear hX
    have y7a : X.cell? ⟨w10.heap.size, 0, none⟩ = some (.bool s7) := cell_at B7.blk 0 _ rfl
    have y7b : X.cell? ⟨w10.heap.size, 1, none⟩ = some (.slice A7 l7.length c7) := cell_at B7.blk 1 _ rfl
    have y1a : X.cell? ⟨w.heap.size, 0, none⟩ = some (.bool s1) := cell_at B1.blk 0 _ rfl
    have y1b : X.cell? ⟨w.heap.size, 1, none⟩ = some (.slice A1 l1.length c1) := cell_at B1.blk 1 _ rfl
    have y9a : X.cell? ⟨w11.heap.size, 0, none⟩ = some (.bool s9) := cell_at B9.blk 0 _ rfl
    have y9b : X.cell? ⟨w11.heap.size, 1, none⟩ = some (.slice A9 l9.length c9) := cell_at B9.blk 1 _ rfl
    go_region_held3 (fun w'' => w''.cell? ⟨w10.heap.size, 0, none⟩ = some (.bool s7) ∧ w''.cell? ⟨w10.heap.size, 1, none⟩ = some (.slice A7 l7.length c7) ∧ w''.cell? ⟨w.heap.size, 0, none⟩ = some (.bool s1) ∧ w''.cell? ⟨w.heap.size, 1, none⟩ = some (.slice A1 l1.length c1) ∧ w''.cell? ⟨w11.heap.size, 0, none⟩ = some (.bool s9) ∧ w''.cell? ⟨w11.heap.size, 1, none⟩ = some (.slice A9 l9.length c9)) ((first | (with_reducible exact ⟨y7a, y7b, y1a, y1b, y9a, y9b⟩) | exact ⟨y7a, y7b, y1a, y1b, y9a, y9b⟩))
        ((first
          | (go_at_call 23; have hmark := q33; refine (got_calls s9 A9 c9 l9 s21 A21 c21 l21 r er w33 (B9.rd.on q33) r21 n9 n21 z9 z21).mono ?_; rintro e w34 ⟨rfl, b34⟩; clear y7a y7b y1a y1b y9a y9b; have q34 := q33.trans (b34.mono q33.size); have y7a : w34.cell? ⟨w10.heap.size, 0, none⟩ = some (.bool s7) := cell_at (B7.on q34).blk 0 _ rfl; have y7b : w34.cell? ⟨w10.heap.size, 1, none⟩ = some (.slice A7 l7.length c7) := cell_at (B7.on q34).blk 1 _ rfl; have y1a : w34.cell? ⟨w.heap.size, 0, none⟩ = some (.bool s1) := cell_at (B1.on q34).blk 0 _ rfl; have y1b : w34.cell? ⟨w.heap.size, 1, none⟩ = some (.slice A1 l1.length c1) := cell_at (B1.on q34).blk 1 _ rfl; have y9a : w34.cell? ⟨w11.heap.size, 0, none⟩ = some (.bool s9) := cell_at (B9.on q34).blk 0 _ rfl; have y9b : w34.cell? ⟨w11.heap.size, 1, none⟩ = some (.slice A9 l9.length c9) := cell_at (B9.on q34).blk 1 _ rfl)
          | (go_at_call 25; have hmark := q32; refine (R2 w32 (B1.rd.on q32)).mono ?_; rintro e w33 ⟨s21, A21, c21, l21, rfl, z21, n21, r21, b33⟩; clear y7a y7b y1a y1b y9a y9b; have q33 := q32.trans (b33.mono q32.size); have y7a : w33.cell? ⟨w10.heap.size, 0, none⟩ = some (.bool s7) := cell_at (B7.on q33).blk 0 _ rfl; have y7b : w33.cell? ⟨w10.heap.size, 1, none⟩ = some (.slice A7 l7.length c7) := cell_at (B7.on q33).blk 1 _ rfl; have y1a : w33.cell? ⟨w.heap.size, 0, none⟩ = some (.bool s1) := cell_at (B1.on q33).blk 0 _ rfl; have y1b : w33.cell? ⟨w.heap.size, 1, none⟩ = some (.slice A1 l1.length c1) := cell_at (B1.on q33).blk 1 _ rfl; have y9a : w33.cell? ⟨w11.heap.size, 0, none⟩ = some (.bool s9) := cell_at (B9.on q33).blk 0 _ rfl; have y9b : w33.cell? ⟨w11.heap.size, 1, none⟩ = some (.slice A9 l9.length c9) := cell_at (B9.on q33).blk 1 _ rfl)
          | (go_at_call 23; have hmark := q31; refine (got_calls s7 A7 c7 l7 s20 A20 c20 l20 p ep w31 (B7.rd.on q31) r20 n7 n20 z7 z20).mono ?_; rintro e w32 ⟨rfl, b32⟩; clear y7a y7b y1a y1b y9a y9b; have q32 := q31.trans (b32.mono q31.size); have y7a : w32.cell? ⟨w10.heap.size, 0, none⟩ = some (.bool s7) := cell_at (B7.on q32).blk 0 _ rfl; have y7b : w32.cell? ⟨w10.heap.size, 1, none⟩ = some (.slice A7 l7.length c7) := cell_at (B7.on q32).blk 1 _ rfl; have y1a : w32.cell? ⟨w.heap.size, 0, none⟩ = some (.bool s1) := cell_at (B1.on q32).blk 0 _ rfl; have y1b : w32.cell? ⟨w.heap.size, 1, none⟩ = some (.slice A1 l1.length c1) := cell_at (B1.on q32).blk 1 _ rfl; have y9a : w32.cell? ⟨w11.heap.size, 0, none⟩ = some (.bool s9) := cell_at (B9.on q32).blk 0 _ rfl; have y9b : w32.cell? ⟨w11.heap.size, 1, none⟩ = some (.slice A9 l9.length c9) := cell_at (B9.on q32).blk 1 _ rfl)
          | (go_at_call 24; have hmark := q30; refine (R1 w30 (B1.rd.on q30)).mono ?_; rintro e w31 ⟨s20, A20, c20, l20, rfl, z20, n20, r20, b31⟩; clear y7a y7b y1a y1b y9a y9b; have q31 := q30.trans (b31.mono q30.size); have y7a : w31.cell? ⟨w10.heap.size, 0, none⟩ = some (.bool s7) := cell_at (B7.on q31).blk 0 _ rfl; have y7b : w31.cell? ⟨w10.heap.size, 1, none⟩ = some (.slice A7 l7.length c7) := cell_at (B7.on q31).blk 1 _ rfl; have y1a : w31.cell? ⟨w.heap.size, 0, none⟩ = some (.bool s1) := cell_at (B1.on q31).blk 0 _ rfl; have y1b : w31.cell? ⟨w.heap.size, 1, none⟩ = some (.slice A1 l1.length c1) := cell_at (B1.on q31).blk 1 _ rfl; have y9a : w31.cell? ⟨w11.heap.size, 0, none⟩ = some (.bool s9) := cell_at (B9.on q31).blk 0 _ rfl; have y9b : w31.cell? ⟨w11.heap.size, 1, none⟩ = some (.slice A9 l9.length c9) := cell_at (B9.on q31).blk 1 _ rfl)
          | (go_at_call 17; refine (sane_calls _ (hdW.on (by11.trans ((below_drew (Below.refl _ X)).mono by11.size)))).mono ?_; rintro e w30 ⟨rfl, b30⟩; clear y7a y7b y1a y1b y9a y9b; have q30 := (below_drew (Below.refl _ X)).trans b30; have y7a : w30.cell? ⟨w10.heap.size, 0, none⟩ = some (.bool s7) := cell_at (B7.on q30).blk 0 _ rfl; have y7b : w30.cell? ⟨w10.heap.size, 1, none⟩ = some (.slice A7 l7.length c7) := cell_at (B7.on q30).blk 1 _ rfl; have y1a : w30.cell? ⟨w.heap.size, 0, none⟩ = some (.bool s1) := cell_at (B1.on q30).blk 0 _ rfl; have y1b : w30.cell? ⟨w.heap.size, 1, none⟩ = some (.slice A1 l1.length c1) := cell_at (B1.on q30).blk 1 _ rfl; have y9a : w30.cell? ⟨w11.heap.size, 0, none⟩ = some (.bool s9) := cell_at (B9.on q30).blk 0 _ rfl; have y9b : w30.cell? ⟨w11.heap.size, 1, none⟩ = some (.slice A9 l9.length c9) := cell_at (B9.on q30).blk 1 _ rfl)))
    go_wp2_with fail
    go_ret
    exact ⟨rfl, hbw.trans ((by11.trans (q34.mono by11.size)).mono hbw.size)⟩

end Nm
end Go.Proofs.YtlhmbbpkhahbeaaDoor
namespace Go.Proofs.YtlhmbbpkhahbeaaDoor
namespace Nm
open Go.ChangeShapes Go.WideShapes Go.ChangeAt Go.WideMaps Go.WideElems Go.RowKit

set_option maxRecDepth 100000 in
theorem numPowers_lifted (os : Os) (started : os.Started) (H : Type) (enc : TypeId × Value → H) :
    ReturnsInHanded {} Tryd.checked os 4 .any (fun w args => (Rows.numPowersSpec.pre enc Tryd.prog Tryd.f4 [] false w args ∧ laidMetH Tryd.prog laidL w) ∧ sizedMet enc Tryd.prog Tryd.f4 (OpenSpec.ofChange Rows.numPowersSpec) false w args)
      (Rows.numPowersSpec.post enc Tryd.prog Tryd.f4 false true false false) := by
  refine returnsInHanded_of_change_and (C := Tryd.checked) (X := fun w _ => laidMetH Tryd.prog laidL w) (fun _ _ _ hh h => h.of_heap hh) own started (by kernel_rfl) Tryd.func4
    (ChangeSpec.witness_shaped (enc := enc) (C := Tryd.checked) (os := os) (X := fun w _ => laidMetH Tryd.prog laidL w) false (World.doorLaid Tryd.prog 14 os) #[.agg #[.bool false, .slice none 0 0], .int .i64 0, .int .i64 0] 8 rfl (World.shaped_of_RefB (by kernel_rfl) (by kernel_rfl)) (by kernel_rfl) (by kernel_rfl) (by kernel_rfl) (door_met os _)) ?_
  intro W base args ds gs before hval0 hW _ hsz0 hL _
  have hval : ∀ (j : Nat) t v, Tryd.f4.params[j]? = some t → args[j]? = some v → Value.okWide Tryd.prog W .any base t v := hval0
  have hsz : (DataW.weightsEach Tryd.prog (Tryd.f4.params.toList ++ Rows.numPowersSpec.plain.varTypes Tryd.prog) (ds ++ gs)).all (· ≤ reachBytes) = true := hsz0
  have hW' := hW
  obtain ⟨p, q, hA0, hV, rfl, hfz, hnd⟩ := hW
  have hA : DataW.TrodAll enc Tryd.prog W 0 (fun _ => true) true Tryd.f4.params.toList args.toList ds p := hA0
  rw [Tryd.params4] at hA hval hsz
  obtain ⟨v0, v1, v2, d0, d1, d2, p0, p1, p2, rfl, rfl, rfl, h0, h1, h2⟩ := trodAll_three hA
  obtain ⟨rfl, rfl⟩ := trodVars_none hV
  have hw0 : ∀ n ∈ d0.weights Tryd.prog 24, n ≤ reachBytes := fun n hn => by simpa using List.all_eq_true.1 hsz n (DataW.weights_mem_each (j := 0) rfl rfl n hn)
  obtain ⟨n1, A1, c1, l1, rfl, r1, k1⟩ := open_intZ (hval 0 _ v0 rfl rfl) h0 hw0
  obtain ⟨x2, rfl, rfl, rfl, wf2⟩ := open_int Tryd.underlying3 (hval 1 _ v1 rfl rfl) h1
  have bd2 : -9223372036854775808 ≤ x2 ∧ x2 < 9223372036854775808 := by have h := wf2; simp [Lit.wf, IntKind.min, IntKind.max, IntKind.signed, IntKind.bits] at h; omega
  obtain ⟨x3, rfl, rfl, rfl, wf3⟩ := open_int Tryd.underlying3 (hval 2 _ v2 rfl rfl) h2
  have bd3 : -9223372036854775808 ≤ x3 ∧ x3 < 9223372036854775808 := by have h := wf3; simp [Lit.wf, IntKind.min, IntKind.max, IntKind.signed, IntKind.bits] at h; omega
  have hd := dig_of_laid hL
  clear hA0 hval0
  try simp only [List.append_nil] at hW'
  have hlt : ∀ x ∈ p0, x.block < W.heap.size := fun x hx => hW'.lt x (by simpa using hx)
  refine (NumPowers_calls n1 A1 c1 l1 x2 x3 W r1 k1 bd2.1 bd2.2 bd3.1 bd3.2 hd).mono fun e W' ⟨he, hb⟩ => ?_
  subst he
  refine ⟨_, rfl, _, _, _, [], _, [], hW', trodAll_mk1 (shut_bool uBool true), trodAll_mk3 (Below.trod laidOut (by kernel_rfl) (of_decide_eq_true (by kernel_rfl)) h0 hb (fun x hx => hlt x (by simp [hx]))) (shut_int Tryd.underlying3 wf2) (shut_int Tryd.underlying3 wf3), rfl, hb.frame _, fun h => by cases h⟩

theorem numPowers_holds : Rows.NumPowersSaid :=
  OpenClaim.holds_of_wide 4 Tryd.f4 rfl rfl rfl rfl rfl rfl rfl ⟨rfl, rfl, rfl, rfl, rfl⟩ rfl rfl rfl rfl rfl (by kernel_rfl) Tryd.func4 (by kernel_rfl)
    (of_decide_eq_true (by kernel_rfl)) (by unfold Func.isWrapper; first | (rw [if_pos (by decide +kernel)]; kernel_rfl) | (rw [if_neg (by decide +kernel)]; exact ⟨rfl, rfl⟩))
    (fun os started H enc _ => numPowers_lifted os started H enc)

theorem numPowers_card : Rows.NumPowersCardSaid :=
  Claim7.holds_tied_plain_at .later [] [.data] true (true, "81631b405a98d3f071c31393904156c9da5fef14bbd5c556ce9417642a36c1bb") true
    numPowers_holds (fun _ h => by cases h) (by kernel_rfl) (fun _ h => by cases h) numPowers_row_tie rfl ⟨rfl, rfl⟩ (by kernel_rfl) rfl
    (fun f fn hf hfn => by
      obtain rfl : f = 4 := Option.some.inj ((show Tryd.prog.funcNamed "zermelo/zermelolaw01.NumPowers" = some 4 by kernel_rfl).symm.trans hf) |>.symm
      obtain rfl : fn = Tryd.f4 := (Option.some.inj (Tryd.func4.symm.trans hfn)).symm
      exact ⟨by kernel_rfl, fun j t ht => by
        have hp := Tryd.params4
        rw [hp] at ht
        have hall : (Tryd.f4.params.toList.all fun u => !Tryd.prog.wantsStandIn u) = true := by kernel_rfl
        rw [hp] at hall
        have hm := Array.mem_toList_iff.2 (Array.mem_of_getElem? ht)
        exact (show Tryd.prog.wantsStandIn t = false by simpa using List.all_eq_true.1 hall t hm)⟩)
    (by kernel_rfl)

end Nm
end Go.Proofs.YtlhmbbpkhahbeaaDoor
