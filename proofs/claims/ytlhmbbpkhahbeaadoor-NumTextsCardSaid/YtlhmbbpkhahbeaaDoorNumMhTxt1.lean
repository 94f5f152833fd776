/-
  Small facts on boxes and lengths.
  The specification's Pow.
  Small facts for the laws.
  The specification's Gcd.
  The specification's digit.
  A region that draws its order, and whose last operation stores into what the region loads: the loads may be taken first all the same, because the store waits for them.
  The specification's Parse.
  The specification's short once more, its quotient in a block of its own; the specification's Text.
  The specification's Text, all ways.
  The specification's Root.
  The specification's Root, all ways; the law NumPowers: the walk.
  The specification's Parse, all ways; the law NumTexts: the walk.
  NumTexts: the row, the card. For every input the law returns true. The integers that came in are whatever the row lets in; the digits' table reads as the program's text lays it (the card ties it).
-/
import Derived.Test.YtlhmbbpkhahbeaaDoorNumMhPad1
import Derived.Deep.RegionHeld3
import Derived.Maps.AppendAt
import Derived.Test.YtlhmbbpkhahbeaaDoorTie
import Derived.ChangeMaps5
import Derived.Test.YtlhmbbpkhahbeaaDoorCards
import Derived.SevenTiedAt
namespace Go.Proofs.YtlhmbbpkhahbeaaDoor
namespace Nm
open Go.RowKit Go.Shelf Go.BigFrame

theorem IsZ.len_le {s : Bool} {l : List Nat} {z : Int} {k : Nat} (h : IsZ s l z) (hs : (lim z.natAbs).length ≤ k) : l.length ≤ k := by rw [h.abs]; exact hs
theorem al1 (W : World) (o : Obj) : Below W.heap.size W (W.alloc o) := (Below.refl _ W).alloc (Nat.le_refl _) _
theorem Times_z (n1 n2 : Bool) (A1 A2 : Option Addr) (c1 c2 : Nat) (l1 l2 : List Nat) (z1 z2 : Int) (w : World) (h1 : Rd w A1 l1) (h2 : Rd w A2 l2) (hc1 : l1.length ≤ c1) (hc2 : l2.length ≤ c2) (k1 : IsZ n1 l1 z1) (k2 : IsZ n2 l2 z2) (hs1 : l1.length ≤ 65536) (hs2 : l2.length ≤ 65536) :
    Calls Tryd.prog 30 #[iv n1 A1 l1.length c1, iv n2 A2 l2.length c2] w (RetZ (z1 * z2) w) := by
  have h := Times_calls n1 n2 A1 A2 c1 c2 l1 l2 w h1 h2 hc1 hc2 hs1 hs2
  rwa [k1.toZ, k2.toZ] at h

end Nm
end Go.Proofs.YtlhmbbpkhahbeaaDoor
namespace Go.Proofs.YtlhmbbpkhahbeaaDoor
namespace Nm
open Go.RowKit Go.Shelf Go.BigFrame
attribute [local go_sem] Oper.semAt_some

theorem half_step (n i : Nat) : n / 2 ^ i = 2 * (n / 2 ^ (i + 1)) + n / 2 ^ i % 2 := by
  rw [Nat.pow_succ, ← Nat.div_div_eq_div_mul]
  omega
theorem pow_even {z : Int} {M M' : Nat} (h : M' = 2 * M + 0) : z ^ M * z ^ M = z ^ M' := by
  rw [h, ← Int.pow_add]; congr 1; omega
theorem pow_odd {z : Int} {M M' : Nat} (h : M' = 2 * M + 1) : z ^ M * z ^ M * z = z ^ M' := by
  rw [h, ← Int.pow_add, ← Int.pow_succ]; congr 1; omega
theorem big_pow {z : Int} {m n : Nat} (h : m ≤ n) (hb : 300 < (lim (z ^ m).natAbs).length) : 300 < (lim (z ^ n).natAbs).length := by
  rw [Int.natAbs_pow] at hb ⊢
  rcases Nat.eq_zero_or_pos z.natAbs with h0 | h0
  · exfalso
    rw [h0] at hb
    rcases Nat.eq_zero_or_pos m with hm | hm
    · rw [hm, Nat.pow_zero, one_word (by decide) (by decide)] at hb; simp at hb
    · rw [Nat.zero_pow hm, lim_zero] at hb; simp at hb
  · exact Nat.lt_of_lt_of_le hb (length_mono (Nat.pow_le_pow_right h0 h))
theorem len_mul2 {z1 z2 : Int} {k j : Nat} (h1 : (lim z1.natAbs).length ≤ k) (h2 : (lim z2.natAbs).length ≤ j) : (lim (z1 * z2).natAbs).length ≤ k + j := by
  rw [Int.natAbs_mul]
  exact prod_length h1 h2
theorem fit_big {z : Int} (h : 300 < (lim z.natAbs).length) : fitZ z = (0, 3) := by unfold fitZ; rw [if_neg (by omega)]

set_option maxRecDepth 100000 in
set_option maxHeartbeats 8000000 in
theorem RPow_ok (n1 : Bool) (n : Nat) (A : Option Addr) (c : Nat) (l : List Nat) (z : Int) (w : World) (h1 : Rd w A l) (hc1 : l.length ≤ c) (hz : IsZ n1 l z) (hl : l.length ≤ 300) (hn : n ≤ 9600) :
    Calls Tryd.prog 24 #[iv n1 A l.length c, .int .i64 (n : Int)] w (RetGot (fitZ (z ^ n)).1 (fitZ (z ^ n)).2 w) := by
  have hb2 : ∀ a b, Below w.heap.size w ((w.alloc a).alloc b) := fun a b => ((Below.refl _ w).alloc (Nat.le_refl _) _).alloc (by simp) _
  obtain ⟨W2, hW2⟩ : ∃ W2, (w.alloc (.cells #[.bool n1, .slice A l.length c] 24)).alloc (.cells #[.bool false, .slice none 0 0, .int .i64 0] 41) = W2 := ⟨_, rfl⟩
  have hb : Below w.heap.size w W2 := by rw [← hW2]; exact hb2 _ _
  have B1 : IntBox W2 w.heap.size n1 A c l := ⟨by rw [← hW2]; exact (two_old w _ _ rfl).h, h1.on hb, hc1⟩
  have hR : Blk W2 (w.heap.size + 1) #[.bool false, .slice none 0 0, .int .i64 0] 41 := ⟨by rw [← hW2]; exact two_blk w _ _⟩
  have hof := fun W => ROf_calls 1 W (by decide) (by decide)
  have hfo := Formed_calls n1 A c l W2 B1.rd hc1
  rw [okI_of hz hl] at hfo
  have x0 := cell_at B1.blk 0 _ rfl
  have x1 := cell_at B1.blk 1 _ rfl
  obtain ⟨F, hF⟩ : ∃ F, fitZ (z ^ n) = F := ⟨_, rfl⟩
  rw [hF]
  have HF := Lib.hid hF
  clear hF
  go_enter Tryd.func24, Tryd.ntmps24
  go_wp2_with first
    | (go_at_call 40; refine (hof _).mono ?_; rintro e w3 ⟨s3, A3, c3, l3, rfl, z3, n3, r3, b3⟩)
    | (go_at_call 16; refine hfo.mono ?_; rintro e w2 ⟨rfl, b2⟩)
  clear hW2 hof hfo
  have hb34 : Below w3.heap.size w3 (w3.alloc (.cells #[.bool s3, .slice A3 l3.length c3] 24)) := (Below.refl _ _).alloc (Nat.le_refl _) _
  have hj : n / 2 ^ 15 = 0 := Nat.div_eq_of_lt (by omega)
  have H0 : HoldsZ (w3.alloc (.cells #[.bool s3, .slice A3 l3.length c3] 24)) w3.heap.size s3 A3 c3 l3 (z ^ (n / 2 ^ 15)) := ⟨⟨World.alloc_heap_new w3 _⟩, by rw [hj, Int.pow_zero]; exact z3, r3.on hb34, n3⟩
  have hl3 : l3.length ≤ 300 := z3.len_le (Nat.le_trans (length_le_of_lt (k := 1) (by decide)) (by decide))
  have b3' := b2.trans (b3.mono b2.size)
  have bb4 := b3'.trans (hb34.mono b3'.size)
  obtain ⟨g, hg⟩ : ∃ g, w3.heap.size = g := ⟨_, rfl⟩
  have hgs : W2.heap.size ≤ g := by rw [← hg]; exact b3'.size
  rw [hg] at H0 ⊢
  generalize (w3.alloc (.cells #[.bool s3, .slice A3 l3.length c3] 24)) = W4 at *
  clear hg hb34 b3 b2 r3 b3' hj z3
  go_loopw [6] (fun i W => ∃ (j κ : Nat) (s : Bool) (A' : Option Addr) (c' : Nat) (l' : List Nat), i = .int .i64 (κ : Int) ∧ κ ≤ 16384 ∧ Hid (κ = 2 ^ j / 2) ∧ HoldsZ W g s A' c' l' (z ^ (n / 2 ^ j)) ∧ l'.length ≤ 300 ∧ Below W2.heap.size W2 W) (fun i _ => (intOf i).toNat)
  case atStart => exact ⟨15, 16384, s3, A3, c3, l3, rfl, by decide, rfl, H0, hl3, bb4⟩
  case round =>
    clear H0 bb4 hl3 x0 x1
    obtain ⟨j, κ, s, A', c', l', rfl, hk, hκ, hH, hl', hbl⟩ := hrel
    have x0 := cell_at (B1.on hbl).blk 0 _ rfl
    have x1 := cell_at (B1.on hbl).blk 1 _ rfl
    have y0 := cell_at hH.blk.h 0 _ rfl
    have y1 := cell_at hH.blk.h 1 _ rfl
    have u0 := frozen_at hH.blk.h 0
    have u1 := frozen_at hH.blk.h 1
    have Bx := B1.on hbl
    by_cases h0 : 0 < κ
    · obtain ⟨i, rfl⟩ : ∃ i, j = i + 1 := by
        rcases j with _ | i
        · exfalso; have := hκ.out; simp at this; omega
        · exact ⟨i, rfl⟩
      have e1 : κ = 2 ^ i := by have := hκ.out; rw [Nat.pow_succ] at this; omega
      obtain ⟨M, hM⟩ : ∃ M, n / 2 ^ (i + 1) = M := ⟨_, rfl⟩
      obtain ⟨M', hM'⟩ : ∃ M, n / 2 ^ i = M := ⟨_, rfl⟩
      have hs := half_step n i
      rw [hM, hM'] at hs
      rw [hM] at hH
      obtain ⟨d, hd⟩ : ∃ d, M' % 2 = d := ⟨_, rfl⟩
      rw [hd] at hs
      have hd2 : d < 2 := by omega
      have hMn : M' ≤ n := by rw [← hM']; exact Nat.div_le_self _ _
      have q1 : (n : Int) / (κ : Int) = (M' : Int) := by rw [e1, ← hM']; rfl
      have q2 : (M' : Int) % 2 = (d : Int) := by omega
      have q3 : (n : Int).tdiv (κ : Int) = (M' : Int) := by rw [Int.tdiv_eq_ediv_of_nonneg (by omega)]; exact q1
      have q4 : (M' : Int).tmod 2 = (d : Int) := by rw [Int.tmod_eq_emod_of_nonneg (by omega)]; exact q2
      obtain ⟨κ', hκ'⟩ : ∃ k, κ / 2 = k := ⟨_, rfl⟩
      have q5 : (κ : Int) / 2 = (κ' : Int) := by omega
      have hk' : κ' ≤ 16384 ∧ κ' < κ := by omega
      have HK : Hid (κ' = 2 ^ i / 2) := by show _ = _; rw [← hκ', e1]
      have HM' := Lib.hid hM'
      have ht := fun W' (hh : HoldsZ W' g s A' c' l' (z ^ M)) => Times_z s s A' A' c' c' l' l' _ _ W' hh.rd hh.rd hh.cap hh.cap hh.isz hh.isz (by omega) (by omega)
      have Hr := Lib.hid hH
      clear hM hM' hκ' e1 hκ hd
      rcases (show d = 0 ∨ d = 1 by omega) with rfl | rfl
      · have Hp := Lib.hid (pow_even (z := z) hs)
        clear hs
        rw [Hp.out] at ht
        have tb1 : ((0 : Nat) : Int) = 0 := rfl
        by_cases hbig : 300 < (lim (z ^ M').natAbs).length
        · have HFF : Hid (F = (0, 3)) := by show _ = _; rw [← HF.out]; exact fit_big (big_pow hMn hbig)
          go_wp2_with (go_at_call 30; refine (ht _ hH).mono ?_; rintro e w5 ⟨s5, A5, c5, l5, rfl, z5, n5, r5, b5⟩; have hq := Hr.out.blk.on b5; have v0 := cell_at hq.h 0 _ rfl; have v1 := cell_at hq.h 1 _ rfl; have v2 := frozen_at hq.h 0; have v3 := frozen_at hq.h 1; have bb5 := ((hbl.trans (b5.mono hbl.size)).setCell hgs (.bool s5) (p := ⟨g, 0, none⟩)).setCell (p := ⟨g, 1, none⟩) hgs (.slice A5 l5.length c5); have rq := hR.on bb5; have rz0 := cell_at rq.h 0 _ rfl; have rz1 := cell_at rq.h 1 _ rfl; have rz2 := cell_at rq.h 2 _ rfl; have ru0 := frozen_at rq.h 0; have ru1 := frozen_at rq.h 1; have ru2 := frozen_at rq.h 2; have hlb : (300 : Int) < (l5.length : Int) := by rw [z5.abs]; omega)
          rw [HFF.out]
          exact ret_cellT rfl Tryd.underlying41 got_size rfl rfl (set3 rq.h _ _ _) rfl ⟨false, none, 0, [], rfl, isZ_zero, Nat.le_refl _, Rd.nil _ _, (((hb.trans (bb5.mono hb.size)).setCell (by dsimp only; omega) _).setCell (by dsimp only; omega) _).setCell (by dsimp only; omega) _⟩
        · go_wp2_with (go_at_call 30; refine (ht _ hH).mono ?_; rintro e w5 ⟨s5, A5, c5, l5, rfl, z5, n5, r5, b5⟩; have hq := Hr.out.blk.on b5; have v0 := cell_at hq.h 0 _ rfl; have v1 := cell_at hq.h 1 _ rfl; have v2 := frozen_at hq.h 0; have v3 := frozen_at hq.h 1; have bb5 := ((hbl.trans (b5.mono hbl.size)).setCell hgs (.bool s5) (p := ⟨g, 0, none⟩)).setCell (p := ⟨g, 1, none⟩) hgs (.slice A5 l5.length c5); have rq := hR.on bb5; have rz0 := cell_at rq.h 0 _ rfl; have rz1 := cell_at rq.h 1 _ rfl; have rz2 := cell_at rq.h 2 _ rfl; have ru0 := frozen_at rq.h 0; have ru1 := frozen_at rq.h 1; have ru2 := frozen_at rq.h 2; have hlb : ¬ (300 : Int) < (l5.length : Int) := by rw [z5.abs]; omega)
          refine ⟨⟨i, κ', s5, A5, c5, l5, rfl, hk'.1, HK, by rw [HM'.out]; exact holds_set hq (by simp) (by simp) z5 r5 n5, by omega, bb5⟩, by simp only [intOf]; omega⟩
      · have Hp := Lib.hid (pow_odd (z := z) hs)
        clear hs
        have tb1 : ((1 : Nat) : Int) = 1 := rfl
        have hMs : l'.length + l'.length ≤ 600 := by omega
        have hl5 : (lim (z ^ M * z ^ M).natAbs).length ≤ 600 := by
          have e1 : (lim (z ^ M).natAbs).length ≤ 300 := by rw [← hH.isz.abs]; exact hl'
          exact len_mul2 e1 e1
        have Hl5 := Lib.hid hl5
        clear hl5
        by_cases hbig : 300 < (lim (z ^ M').natAbs).length
        · have HFF : Hid (F = (0, 3)) := by show _ = _; rw [← HF.out]; exact fit_big (big_pow hMn hbig)
          go_wp2_with first
            | (go_at_call 30; have hmark := bb5; refine (Times_z s5 n1 A5 A c5 c l5 l _ _ _ hS.rd B5.rd n5 hc1 z5 hz (z5.len_le (Nat.le_trans Hl5.out (by decide))) (by omega)).mono ?_; rintro e w6 ⟨s6, A6, c6, l6, rfl, z6, n6, r6, b6⟩; rw [Hp.out] at z6; clear v0 v1 v2 v3 v4 v5 v6 v7; have hq6 := hS.blk.on b6; have v0 := cell_at hq6.h 0 _ rfl; have v1 := cell_at hq6.h 1 _ rfl; have v2 := frozen_at hq6.h 0; have v3 := frozen_at hq6.h 1; have bb6 := ((bb5.trans (b6.mono bb5.size)).setCell hgs (.bool s6) (p := ⟨g, 0, none⟩)).setCell (p := ⟨g, 1, none⟩) hgs (.slice A6 l6.length c6); have rq := hR.on bb6; have rz0 := cell_at rq.h 0 _ rfl; have rz1 := cell_at rq.h 1 _ rfl; have rz2 := cell_at rq.h 2 _ rfl; have ru0 := frozen_at rq.h 0; have ru1 := frozen_at rq.h 1; have ru2 := frozen_at rq.h 2; have hlb : (300 : Int) < (l6.length : Int) := by rw [z6.abs]; omega)
            | (go_at_call 30; refine (ht _ hH).mono ?_; rintro e w5 ⟨s5, A5, c5, l5, rfl, z5, n5, r5, b5⟩; have hq := Hr.out.blk.on b5; have v0 := cell_at hq.h 0 _ rfl; have v1 := cell_at hq.h 1 _ rfl; have v2 := frozen_at hq.h 0; have v3 := frozen_at hq.h 1; have bb5 := ((hbl.trans (b5.mono hbl.size)).setCell hgs (.bool s5) (p := ⟨g, 0, none⟩)).setCell (p := ⟨g, 1, none⟩) hgs (.slice A5 l5.length c5); have hS := holds_set hq (by simp) (by simp) z5 r5 n5; have v4 := cell_at hS.blk.h 0 _ rfl; have v5 := cell_at hS.blk.h 1 _ rfl; have B5 := B1.on bb5; have v6 := cell_at B5.blk 0 _ rfl; have v7 := cell_at B5.blk 1 _ rfl)
          rw [HFF.out]
          exact ret_cellT rfl Tryd.underlying41 got_size rfl rfl (set3 rq.h _ _ _) rfl ⟨false, none, 0, [], rfl, isZ_zero, Nat.le_refl _, Rd.nil _ _, (((hb.trans (bb6.mono hb.size)).setCell (by dsimp only; omega) _).setCell (by dsimp only; omega) _).setCell (by dsimp only; omega) _⟩
        · go_wp2_with first
            | (go_at_call 30; have hmark := bb5; refine (Times_z s5 n1 A5 A c5 c l5 l _ _ _ hS.rd B5.rd n5 hc1 z5 hz (z5.len_le (Nat.le_trans Hl5.out (by decide))) (by omega)).mono ?_; rintro e w6 ⟨s6, A6, c6, l6, rfl, z6, n6, r6, b6⟩; rw [Hp.out] at z6; clear v0 v1 v2 v3 v4 v5 v6 v7; have hq6 := hS.blk.on b6; have v0 := cell_at hq6.h 0 _ rfl; have v1 := cell_at hq6.h 1 _ rfl; have v2 := frozen_at hq6.h 0; have v3 := frozen_at hq6.h 1; have bb6 := ((bb5.trans (b6.mono bb5.size)).setCell hgs (.bool s6) (p := ⟨g, 0, none⟩)).setCell (p := ⟨g, 1, none⟩) hgs (.slice A6 l6.length c6); have rq := hR.on bb6; have rz0 := cell_at rq.h 0 _ rfl; have rz1 := cell_at rq.h 1 _ rfl; have rz2 := cell_at rq.h 2 _ rfl; have ru0 := frozen_at rq.h 0; have ru1 := frozen_at rq.h 1; have ru2 := frozen_at rq.h 2; have hlb : ¬ (300 : Int) < (l6.length : Int) := by rw [z6.abs]; omega)
            | (go_at_call 30; refine (ht _ hH).mono ?_; rintro e w5 ⟨s5, A5, c5, l5, rfl, z5, n5, r5, b5⟩; have hq := Hr.out.blk.on b5; have v0 := cell_at hq.h 0 _ rfl; have v1 := cell_at hq.h 1 _ rfl; have v2 := frozen_at hq.h 0; have v3 := frozen_at hq.h 1; have bb5 := ((hbl.trans (b5.mono hbl.size)).setCell hgs (.bool s5) (p := ⟨g, 0, none⟩)).setCell (p := ⟨g, 1, none⟩) hgs (.slice A5 l5.length c5); have hS := holds_set hq (by simp) (by simp) z5 r5 n5; have v4 := cell_at hS.blk.h 0 _ rfl; have v5 := cell_at hS.blk.h 1 _ rfl; have B5 := B1.on bb5; have v6 := cell_at B5.blk 0 _ rfl; have v7 := cell_at B5.blk 1 _ rfl)
          refine ⟨⟨i, κ', s6, A6, c6, l6, rfl, hk'.1, HK, by rw [HM'.out]; exact holds_set hq6 (by simp) (by simp) z6 r6 n6, by omega, bb6⟩, by simp only [intOf]; omega⟩
    · obtain rfl : κ = 0 := by omega
      have hj : j = 0 := by
        rcases j with _ | j
        · rfl
        · exfalso; have := hκ.out; rw [Nat.pow_succ] at this; have := Nat.two_pow_pos j; omega
      subst hj
      rw [Nat.pow_zero, Nat.div_one] at hH
      have HFF : Hid (F = (z ^ n, 0)) := by show _ = _; rw [← HF.out]; unfold fitZ; rw [if_pos (by rw [← hH.isz.abs]; exact hl')]
      have rq := hR.on hbl
      have rz0 := cell_at rq.h 0 _ rfl
      have rz1 := cell_at rq.h 1 _ rfl
      have rz2 := cell_at rq.h 2 _ rfl
      have ru0 := frozen_at rq.h 0
      have ru1 := frozen_at rq.h 1
      have ru2 := frozen_at rq.h 2
      have Hr := Lib.hid hH
      clear hκ hH h0
      go_wp2_with fail
      rw [HFF.out]
      have hne := Hr.out.rd.ne rq.h (by intro i x h; rcases i with _ | _ | _ | i <;> simp at h)
      exact ret_cellT rfl Tryd.underlying41 got_size rfl rfl (set3 rq.h _ _ _) rfl ⟨s, A', c', l', rfl, Hr.out.isz, Hr.out.cap, ((Hr.out.rd.setNe hne).setNe hne).setNe hne, (((hb.trans (hbl.mono hb.size)).setCell (by dsimp only; omega) _).setCell (by dsimp only; omega) _).setCell (by dsimp only; omega) _⟩

set_option maxRecDepth 100000 in
set_option maxHeartbeats 2000000 in
theorem RPow_bad (n1 : Bool) (n : Int) (A : Option Addr) (c : Nat) (l : List Nat) (w : World) (h1 : Rd w A l) (hc1 : l.length ≤ c) (hbad : okI n1 l = false ∨ (okI n1 l = true ∧ (n < 0 ∨ (¬ n < 0 ∧ 9600 < n)))) :
    Calls Tryd.prog 24 #[iv n1 A l.length c, .int .i64 n] w (RetGot 0 1 w) := by
  have hb2 : ∀ a b, Below w.heap.size w ((w.alloc a).alloc b) := fun a b => ((Below.refl _ w).alloc (Nat.le_refl _) _).alloc (by simp) _
  obtain ⟨W2, hW2⟩ : ∃ W2, (w.alloc (.cells #[.bool n1, .slice A l.length c] 24)).alloc (.cells #[.bool false, .slice none 0 0, .int .i64 0] 41) = W2 := ⟨_, rfl⟩
  have hb : Below w.heap.size w W2 := by rw [← hW2]; exact hb2 _ _
  have B1 : IntBox W2 w.heap.size n1 A c l := ⟨by rw [← hW2]; exact (two_old w _ _ rfl).h, h1.on hb, hc1⟩
  have hR : Blk W2 (w.heap.size + 1) #[.bool false, .slice none 0 0, .int .i64 0] 41 := ⟨by rw [← hW2]; exact two_blk w _ _⟩
  have hfo := Formed_calls n1 A c l W2 B1.rd hc1
  have x0 := cell_at B1.blk 0 _ rfl
  have x1 := cell_at B1.blk 1 _ rfl
  rcases hbad with hk | ⟨hk, hn | ⟨hn, hn'⟩⟩
  all_goals
    rw [hk] at hfo
    clear hk
    go_enter Tryd.func24, Tryd.ntmps24
    go_wp2_with (go_at_call 16; refine hfo.mono ?_; rintro e w4 ⟨rfl, b4⟩; have rq := hR.on b4; have rz0 := cell_at rq.h 0 _ rfl; have rz1 := cell_at rq.h 1 _ rfl; have rz2 := cell_at rq.h 2 _ rfl; have ru0 := frozen_at rq.h 0; have ru1 := frozen_at rq.h 1; have ru2 := frozen_at rq.h 2)
    exact ret_cellT rfl Tryd.underlying41 got_size rfl rfl (set3 rq.h _ _ _) rfl ⟨false, none, 0, [], rfl, isZ_zero, Nat.le_refl _, Rd.nil _ _, (((hb.trans (b4.mono hb.size)).setCell (by dsimp only; omega) _).setCell (by dsimp only; omega) _).setCell (by dsimp only; omega) _⟩

theorem RPow_calls (n1 : Bool) (n : Int) (A : Option Addr) (c : Nat) (l : List Nat) (w : World) (h1 : Rd w A l) (hc1 : l.length ≤ c) :
    Calls Tryd.prog 24 #[iv n1 A l.length c, .int .i64 n] w (RetGot (powR n1 l n).1 (powR n1 l n).2 w) := by
  unfold powR
  by_cases hok : okI n1 l = true
  · rw [if_pos hok]
    have k1 := okI_isInt h1.words hok
    by_cases hn : 0 ≤ n ∧ n ≤ 9600
    · rw [if_pos hn]
      obtain ⟨m, rfl⟩ : ∃ m : Nat, n = (m : Int) := ⟨n.toNat, by omega⟩
      rw [Int.toNat_natCast]
      exact RPow_ok n1 m A c l _ w h1 hc1 k1.isZ k1.small (by omega)
    · rw [if_neg hn]
      exact RPow_bad n1 n A c l w h1 hc1 (.inr ⟨hok, by omega⟩)
  · rw [if_neg hok]
    exact RPow_bad n1 n A c l w h1 hc1 (.inl (by simpa using hok))

end Nm
end Go.Proofs.YtlhmbbpkhahbeaaDoor
namespace Go.Proofs.YtlhmbbpkhahbeaaDoor
namespace Nm
open Go.RowKit Go.Shelf Go.BigFrame

theorem Same_d (n1 n2 : Bool) (A1 A2 : Option Addr) (c1 c2 : Nat) (l1 l2 : List Nat) (z1 z2 : Int) (w : World) (h1 : Rd w A1 l1) (h2 : Rd w A2 l2) (hc1 : l1.length ≤ c1) (hc2 : l2.length ≤ c2) (k1 : IsZ n1 l1 z1) (k2 : IsZ n2 l2 z2) (v : Bool) (e : decide (z1 = z2) = v) :
    Calls Tryd.prog 20 #[iv n1 A1 l1.length c1, iv n2 A2 l2.length c2] w fun e w' => e = .returned (.bool v) ∧ Below w.heap.size w w' := by
  have h := Same_calls n1 n2 A1 A2 c1 c2 l1 l2 w h1 h2 hc1 hc2
  rwa [sameI_z k1 k2, e] at h

theorem isZ_abs {s : Bool} {l : List Nat} {z : Int} (h : IsZ s l z) : IsZ false l (z.natAbs : Int) :=
  ⟨(decide_eq_false (by omega)).symm, by rw [Int.natAbs_natCast]; exact h.abs⟩

end Nm
end Go.Proofs.YtlhmbbpkhahbeaaDoor
namespace Go.Proofs.YtlhmbbpkhahbeaaDoor
namespace Nm
open Go.RowKit Go.Shelf Go.BigFrame
attribute [local go_sem] Oper.semAt_some

theorem gcd_step (a b : Int) : Int.gcd b (modZ a b) = Int.gcd a b := by
  unfold modZ
  rw [Int.gcd_sub_mul_left_right, Int.gcd_comm]

theorem modZ_lt (a b : Int) (hb : b ≠ 0) : (modZ a b).natAbs < b.natAbs := by
  unfold modZ divZ
  by_cases h : 0 < b
  · rw [if_pos h]
    have h1 := Int.emod_nonneg a hb
    have h2 := Int.emod_lt_of_pos a h
    have h3 := Int.mul_ediv_add_emod a b
    omega
  · rw [if_neg h]
    have h1 := Int.emod_nonneg (-a) (show -b ≠ 0 by omega)
    have h2 := Int.emod_lt_of_pos (-a) (show 0 < -b by omega)
    have h3 := Int.mul_ediv_add_emod (-a) (-b)
    rw [Int.neg_mul] at h3
    omega

theorem gcd_zero_r {x y : Int} {G : Nat} (h : Int.gcd x y = G) (hy : y = 0) : x.natAbs = G := by
  rw [hy, Int.gcd_zero_right] at h; exact h

theorem HoldsZ.on {W W' : World} {g : Nat} {s : Bool} {A : Option Addr} {c : Nat} {l : List Nat} {z : Int} (h : HoldsZ W g s A c l z) (hb : Below W.heap.size W W') : HoldsZ W' g s A c l z := ⟨h.blk.on hb, h.isz, h.rd.on hb, h.cap⟩

theorem move_pair {W : World} {g g' : Nat} {s1 s2 s6 : Bool} {A1 A2 A6 : Option Addr} {c1 c2 c6 : Nat} {l1 l2 l6 : List Nat} {x y r : Int} (K1 : HoldsZ W g s1 A1 c1 l1 x) (K2 : HoldsZ W g' s2 A2 c2 l2 y) (r6 : Rd W A6 l6) (z6 : IsZ s6 l6 r) (n6 : l6.length ≤ c6) (hne : g ≠ g') :
    HoldsZ ((((W.setCell ⟨g, 0, none⟩ (.bool s2)).setCell ⟨g, 1, none⟩ (.slice A2 l2.length c2)).setCell ⟨g', 0, none⟩ (.bool s6)).setCell ⟨g', 1, none⟩ (.slice A6 l6.length c6)) g s2 A2 c2 l2 y ∧
    HoldsZ ((((W.setCell ⟨g, 0, none⟩ (.bool s2)).setCell ⟨g, 1, none⟩ (.slice A2 l2.length c2)).setCell ⟨g', 0, none⟩ (.bool s6)).setCell ⟨g', 1, none⟩ (.slice A6 l6.length c6)) g' s6 A6 c6 l6 r := by
  have o : ∀ {X : World} {a : Addr} {v : Value} {g : Nat}, g ≠ a.block → (X.setCell a v).heap[g]? = X.heap[g]? := fun {X a v g} h => Below.heap_setCell _ _ _ g h
  have M1 := holds_set K1.blk (by simp) (by simp) K2.isz K2.rd K2.cap
  have k2 : Blk ((W.setCell ⟨g, 0, none⟩ (.bool s2)).setCell ⟨g, 1, none⟩ (.slice A2 l2.length c2)) g' #[.bool s2, .slice A2 l2.length c2] 24 := ⟨(o hne.symm).trans ((o hne.symm).trans K2.blk.h)⟩
  have m6 := r6.ne K1.blk.h (noword2 (by simp) (by simp))
  have r6' := (r6.setNe (i := 0) (v := .bool s2) m6).setNe (i := 1) (v := .slice A2 l2.length c2) m6
  have M2 := holds_set k2 (by simp) (by simp) z6 r6' n6
  have m1 := M1.rd.ne k2.h (noword2 (by simp) (by simp))
  exact ⟨⟨⟨(o hne).trans ((o hne).trans M1.blk.h)⟩, M1.isz, (M1.rd.setNe m1).setNe m1, M1.cap⟩, M2⟩

def cellVal (g : Nat) (W : World) : Nat := slotVal ((W.cell? ⟨g, 1, none⟩).getD undef) W
theorem cellVal_eq {W : World} {g : Nat} {s : Bool} {A : Option Addr} {c : Nat} {l : List Nat} {z : Int} (h : HoldsZ W g s A c l z) : cellVal g W = z.natAbs := by
  unfold cellVal
  rw [cell_at h.blk.h 1 (.slice A l.length c) rfl, Option.getD_some, slotVal_eq h.rd, h.isz.val]

set_option maxRecDepth 100000 in
set_option maxHeartbeats 4000000 in
theorem RGcd_calls (n1 n2 : Bool) (A1 A2 : Option Addr) (c1 c2 : Nat) (l1 l2 : List Nat) (z1 z2 : Int) (w : World) (h1 : Rd w A1 l1) (h2 : Rd w A2 l2) (hc1 : l1.length ≤ c1) (hc2 : l2.length ≤ c2) (k1 : IsZ n1 l1 z1) (k2 : IsZ n2 l2 z2) (hs1 : l1.length ≤ 65535) (hs2 : l2.length ≤ 65535) :
    Calls Tryd.prog 28 #[iv n1 A1 l1.length c1, iv n2 A2 l2.length c2] w (RetZ (Int.gcd z1 z2) w) := by
  obtain ⟨W3, hW3, hb3, B1, B2, hR, hsz⟩ := boxes3 w n1 n2 A1 A2 c1 c2 l1 l2 h1 h2 hc1 hc2 #[.bool false, .slice none 0 0] 24
  have G1 : HoldsZ W3 w.heap.size n1 A1 c1 l1 z1 := ⟨⟨B1.blk⟩, k1, B1.rd, hc1⟩
  have G2 : HoldsZ W3 (w.heap.size + 1) n2 A2 c2 l2 z2 := ⟨⟨B2.blk⟩, k2, B2.rd, hc2⟩
  obtain ⟨G, hG⟩ : ∃ G, Int.gcd z1 z2 = G := ⟨_, rfl⟩
  rw [hG]
  have HG := Lib.hid hG
  have t1 : Hid ((lim z1.natAbs).length ≤ 65535) := by show _ ≤ _; rw [← k1.abs]; exact hs1
  have t2 : Hid ((lim z2.natAbs).length ≤ 65535) := by show _ ≤ _; rw [← k2.abs]; exact hs2
  have hbs := hb3.size
  clear hG h1 h2 hc1 hc2 k1 k2 hs1 hs2 B1 B2
  go_enter Tryd.func28, Tryd.ntmps28
  go_wp2_with fail
  clear hW3
  go_loopw [5] (fun _ W => ∃ (n1 n2 : Bool) (A1 A2 : Option Addr) (c1 c2 : Nat) (l1 l2 : List Nat) (z1 z2 : Int), HoldsZ W w.heap.size n1 A1 c1 l1 z1 ∧ HoldsZ W (w.heap.size + 1) n2 A2 c2 l2 z2 ∧ Blk W (w.heap.size + 1 + 1) #[.bool false, .slice none 0 0] 24 ∧ Below w.heap.size w W ∧ w.heap.size + 1 + 1 < W.heap.size ∧ Hid (Int.gcd z1 z2 = G) ∧ Hid ((lim z1.natAbs).length ≤ 65535) ∧ Hid ((lim z2.natAbs).length ≤ 65535)) (fun _ W => cellVal (w.heap.size + 1) W)
  case atStart => exact ⟨n1, n2, A1, A2, c1, c2, l1, l2, z1, z2, G1, G2, hR, hb3, by omega, HG, t1, t2⟩
  case round =>
    clear G1 G2 HG t1 t2
    obtain ⟨s1, s2, A1, A2, c1, c2, l1, l2, x, y, H1, H2, hq, hbl, hsz, hG, t1, t2⟩ := hrel
    have hs1 : l1.length ≤ 65535 := H1.isz.len_le t1.out
    have hs2 : l2.length ≤ 65535 := H2.isz.len_le t2.out
    have x0 := cell_at H1.blk.h 0 _ rfl
    have x1 := cell_at H1.blk.h 1 _ rfl
    have y0 := cell_at H2.blk.h 0 _ rfl
    have y1 := cell_at H2.blk.h 1 _ rfl
    by_cases hy : y = 0
    · have hl2 : l2.length = 0 := by rw [H2.isz.abs, hy]; exact congrArg List.length lim_zero
      have hx := gcd_zero_r hG.out hy
      have hl0 : ¬ (0 : Int) < (l2.length : Int) := by omega
      have hl1 : ¬ 0 < l2.length := by omega
      have hm := fun W' h hc => made_calls false A1 c1 l1 W' h hc
      rw [H1.isz.val, hx] at hm
      clear hy hx hG t1 t2 hl2
      have r0 := cell_at hq.h 0 _ rfl
      go_wp2_with (go_at_call 70; refine (hm _ H1.rd H1.cap).mono ?_; rintro e w5 ⟨s5, A5, c5, l5, rfl, z5, n5, r5, b5⟩; have hq5 := hq.on b5; have v0 := cell_at hq5.h 0 _ rfl; have v1 := cell_at hq5.h 1 _ rfl; have v2 := frozen_at hq5.h 0; have v3 := frozen_at hq5.h 1)
      exact ret_cell rfl rfl rfl (set_blk (set_blk hq5.h 0 _) 1 _) ⟨s5, A5, c5, l5, rfl, by simpa using z5, n5, rd_sets r5 hq5 _ _, (((hbl.trans (b5.mono hbl.size)).setCell (by dsimp only; omega) _).setCell (by dsimp only; omega) _)⟩
    · have hp2 : 0 < l2.length := by rw [H2.isz.abs]; exact lim_length_pos (by omega)
      have hl0 : (0 : Int) < (l2.length : Int) := by omega
      have Hl := Lib.hid (modZ_lt x y hy)
      have HG' : Hid (Int.gcd y (modZ x y) = G) := by show _ = _; rw [gcd_step]; exact hG.out
      have hdv := Divide_calls s1 s2 A1 A2 c1 c2 l1 l2 x y wr H1.rd H2.rd H1.cap H2.cap H1.isz H2.isz hy hs1 hs2
      obtain ⟨q, hq'⟩ : ∃ q, divZ x y = q := ⟨_, rfl⟩
      obtain ⟨r, hr'⟩ : ∃ q, modZ x y = q := ⟨_, rfl⟩
      rw [hr'] at Hl HG'
      rw [hq', hr'] at hdv
      have H1' := Lib.hid H1
      have H2' := Lib.hid H2
      clear hq' hr' hy hs1 hs2 hp2 hG t1
      go_wp2_with (go_at_call 62; refine hdv.mono ?_; rintro e w5 ⟨s5, A5, c5, l5, s6, A6, c6, l6, rfl, z5, z6, n5, n6, r5, r6, b5⟩; have K1 := H1'.out.on b5; have K2 := H2'.out.on b5; have v0 := cell_at K1.blk.h 0 _ rfl; have v1 := cell_at K1.blk.h 1 _ rfl; have v2 := frozen_at K1.blk.h 0; have v3 := frozen_at K1.blk.h 1; have v4 := cell_at K2.blk.h 0 _ rfl; have v5 := cell_at K2.blk.h 1 _ rfl; have v6 := frozen_at K2.blk.h 0; have v7 := frozen_at K2.blk.h 1; have hsz5 := Nat.lt_of_lt_of_le hsz b5.size; have lt2 : w.heap.size < w5.heap.size := (by omega); have lt3 : w.heap.size + 1 < w5.heap.size := (by omega); have en2 : ¬ w.heap.size = w5.heap.size := (by omega); have en3 : ¬ w5.heap.size = w.heap.size := (by omega); have en4 : ¬ w.heap.size + 1 = w5.heap.size := (by omega); have en5 : ¬ w5.heap.size = w.heap.size + 1 := (by omega))
      obtain ⟨M1, M2⟩ := move_pair K1 K2 r6 z6 n6 (show w.heap.size ≠ w.heap.size + 1 by omega)
      have o : ∀ {X : World} {a : Addr} {v : Value} {g : Nat}, g ≠ a.block → (X.setCell a v).heap[g]? = X.heap[g]? := fun {X a v g} h => Below.heap_setCell _ _ _ g h
      have d1 : w.heap.size + 1 + 1 ≠ w.heap.size := by omega
      have d2 : w.heap.size + 1 + 1 ≠ w.heap.size + 1 := by omega
      have hq5 : Blk ((((w5.setCell ⟨w.heap.size, 0, none⟩ (.bool s2)).setCell ⟨w.heap.size, 1, none⟩ (.slice A2 l2.length c2)).setCell ⟨w.heap.size + 1, 0, none⟩ (.bool s6)).setCell ⟨w.heap.size + 1, 1, none⟩ (.slice A6 l6.length c6)) (w.heap.size + 1 + 1) #[.bool false, .slice none 0 0] 24 := ⟨(o d2).trans ((o d2).trans ((o d1).trans ((o d1).trans (hq.on b5).h)))⟩
      have bb := ((((hbl.trans (b5.mono hbl.size)).setCell (p := ⟨w.heap.size, 0, none⟩) (Nat.le_refl _) (.bool s2)).setCell (p := ⟨w.heap.size, 1, none⟩) (Nat.le_refl _) (.slice A2 l2.length c2)).setCell (p := ⟨w.heap.size + 1, 0, none⟩) (Nat.le_succ _) (.bool s6)).setCell (p := ⟨w.heap.size + 1, 1, none⟩) (Nat.le_succ _) (.slice A6 l6.length c6)
      refine ⟨⟨s2, s6, A2, A6, c2, c6, l2, l6, y, r, M1.on (al1 _ _), M2.on (al1 _ _), hq5.on (al1 _ _), bb.alloc bb.size _, ?_, HG', t2, ?_⟩, ?_⟩
      · simp [World.setCell]; omega
      · show _ ≤ _
        exact Nat.le_trans (length_mono (Nat.le_of_lt Hl.out)) t2.out
      · rw [cellVal_eq (M2.on (al1 _ _)), cellVal_eq H2]
        exact Hl.out

end Nm
end Go.Proofs.YtlhmbbpkhahbeaaDoor
namespace Go.Proofs.YtlhmbbpkhahbeaaDoor
namespace Nm
open Go.RowKit Go.Shelf Go.BigFrame
attribute [local go_sem] Oper.semAt_some

set_option maxRecDepth 100000 in
set_option maxHeartbeats 2000000 in
theorem Rdigit_calls (c : Nat) (hc : c < 256) (w : World) :
    Calls Tryd.prog 90 #[.int .u8 (c : Int)] w fun e w' => e = .returned (.int .i64 (digV 99 c : Nat)) ∧ w = w' := by
  rcases (show c < 48 ∨ (48 ≤ c ∧ c ≤ 57) ∨ (58 ≤ c ∧ c < 65) ∨ (65 ≤ c ∧ c ≤ 90) ∨ (90 < c ∧ c < 97) ∨ (97 ≤ c ∧ c ≤ 122) ∨ 122 < c by omega) with h | ⟨h, h'⟩ | ⟨h, h'⟩ | ⟨h, h'⟩ | ⟨h, h'⟩ | ⟨h, h'⟩ | h
  · have hd : digV 99 c = 99 := by unfold digV; rw [if_neg (by omega), if_neg (by omega), if_neg (by omega)]
    rw [hd]
    have b0 : ¬ 48 ≤ c := by omega
    have b1 : c ≤ 57 := by omega
    have b2 : ¬ 97 ≤ c := by omega
    have b3 : c ≤ 122 := by omega
    have b4 : ¬ 65 ≤ c := by omega
    have b5 : c ≤ 90 := by omega
    clear hd h
    go_enter Tryd.func90, Tryd.ntmps90
    go_wp2
    go_ret
    exact ⟨rfl, rfl⟩
  · have hd : ((digV 99 c : Nat) : Int) = (c : Int) - 48 := by unfold digV; rw [if_neg (by omega), if_neg (by omega), if_pos (by omega)]; omega
    rw [hd]
    have b0 : 48 ≤ c := by omega
    have b1 : c ≤ 57 := by omega
    have b2 : ¬ 97 ≤ c := by omega
    have b3 : c ≤ 122 := by omega
    have b4 : ¬ 65 ≤ c := by omega
    have b5 : c ≤ 90 := by omega
    clear hd h h'
    go_enter Tryd.func90, Tryd.ntmps90
    go_wp2
    go_ret
    exact ⟨rfl, rfl⟩
  · have hd : digV 99 c = 99 := by unfold digV; rw [if_neg (by omega), if_neg (by omega), if_neg (by omega)]
    rw [hd]
    have b0 : 48 ≤ c := by omega
    have b1 : ¬ c ≤ 57 := by omega
    have b2 : ¬ 97 ≤ c := by omega
    have b3 : c ≤ 122 := by omega
    have b4 : ¬ 65 ≤ c := by omega
    have b5 : c ≤ 90 := by omega
    clear hd h h'
    go_enter Tryd.func90, Tryd.ntmps90
    go_wp2
    go_ret
    exact ⟨rfl, rfl⟩
  · have hd : ((digV 99 c : Nat) : Int) = (c : Int) - 65 + 10 := by unfold digV; rw [if_pos (by omega)]; omega
    rw [hd]
    have b0 : 48 ≤ c := by omega
    have b1 : ¬ c ≤ 57 := by omega
    have b2 : ¬ 97 ≤ c := by omega
    have b3 : c ≤ 122 := by omega
    have b4 : 65 ≤ c := by omega
    have b5 : c ≤ 90 := by omega
    clear hd h h'
    go_enter Tryd.func90, Tryd.ntmps90
    go_wp2
    go_ret
    exact ⟨rfl, rfl⟩
  · have hd : digV 99 c = 99 := by unfold digV; rw [if_neg (by omega), if_neg (by omega), if_neg (by omega)]
    rw [hd]
    have b0 : 48 ≤ c := by omega
    have b1 : ¬ c ≤ 57 := by omega
    have b2 : ¬ 97 ≤ c := by omega
    have b3 : c ≤ 122 := by omega
    have b4 : 65 ≤ c := by omega
    have b5 : ¬ c ≤ 90 := by omega
    clear hd h h'
    go_enter Tryd.func90, Tryd.ntmps90
    go_wp2
    go_ret
    exact ⟨rfl, rfl⟩
  · have hd : ((digV 99 c : Nat) : Int) = (c : Int) - 97 + 10 := by unfold digV; rw [if_neg (by omega), if_pos (by omega)]; omega
    rw [hd]
    have b0 : 48 ≤ c := by omega
    have b1 : ¬ c ≤ 57 := by omega
    have b2 : 97 ≤ c := by omega
    have b3 : c ≤ 122 := by omega
    have b4 : 65 ≤ c := by omega
    have b5 : ¬ c ≤ 90 := by omega
    clear hd h h'
    go_enter Tryd.func90, Tryd.ntmps90
    go_wp2
    go_ret
    exact ⟨rfl, rfl⟩
  · have hd : digV 99 c = 99 := by unfold digV; rw [if_neg (by omega), if_neg (by omega), if_neg (by omega)]
    rw [hd]
    have b0 : 48 ≤ c := by omega
    have b1 : ¬ c ≤ 57 := by omega
    have b2 : 97 ≤ c := by omega
    have b3 : ¬ c ≤ 122 := by omega
    have b4 : 65 ≤ c := by omega
    have b5 : ¬ c ≤ 90 := by omega
    clear hd h
    go_enter Tryd.func90, Tryd.ntmps90
    go_wp2
    go_ret
    exact ⟨rfl, rfl⟩

end Nm
end Go.Proofs.YtlhmbbpkhahbeaaDoor
namespace Go.Proofs.YtlhmbbpkhahbeaaDoor
namespace Nm
open Go

section
variable {P : Program} {ops : Array Oper} {Q : Exit → Act → World → Prop} {md : Region.Mode} {S : World → Prop}

/-- every order of what may come up; S is to be shown anew behind each operation but number k -/
def wpAnyT (P : Program) (md : Region.Mode) (ops : Array Oper) (Q : Exit → Act → World → Prop) (S : World → Prop) (k : Nat) : Nat → Array Bool → Act → World → Prop
  | 0, listed, a, w => Region.ready md ops listed = [] ∧ Q .normal a w
  | fuel + 1, listed, a, w =>
    (Region.ready md ops listed = [] → Q .normal a w) ∧
    ∀ i ∈ Region.ready md ops listed, wpOp P ops Q i (fun a' w' => (i = k ∨ S w') ∧ wpAnyT P md ops Q S k fuel (listed.setIfInBounds i true) a' w') a w

theorem wpAny_of_T (k : Nat) : ∀ (fuel : Nat) (listed : Array Bool) (a : Act) (w : World), wpAnyT P md ops Q S k fuel listed a w → wpAny P md ops Q fuel listed a w
  | 0, _, _, _, h => h
  | fuel + 1, _, _, _, h => ⟨h.1, fun i hi => wpOp_mono (fun a' w' h' => wpAny_of_T k fuel _ a' w' h'.2) (h.2 i hi)⟩

/-- number k waits for number i -/
def waitsB (md : Region.Mode) (ops : Array Oper) (k i : Nat) : Bool := match ops[k]? with | some o => o.after.any (fun e => Region.binds md e && e.on == i) | none => false

theorem waits_not {k i : Nat} (h : waitsB md ops k i = true) {listed : Array Bool} (hu : listed.getD i true = false) : k ∉ Region.ready md ops listed := by
  intro hk
  obtain ⟨_, ok, hok, hall⟩ := mem_ready.1 hk
  unfold waitsB at h
  rw [hok] at h
  simp only [Array.any_eq_true] at h
  obtain ⟨n, hn, hb⟩ := h
  rw [Bool.and_eq_true, beq_iff_eq] at hb
  have h1 := hall _ (Array.getElem_mem hn) hb.1
  rw [hb.2] at h1
  rcases Nat.lt_or_ge i listed.size with h' | h'
  · simp [h'] at h1 hu; rw [hu] at h1; cases h1
  · simp [Array.getElem?_eq_none h'] at hu

theorem wpAnyT_first {i k : Nat} {oi : Oper} {v : Value} (hi : ops[i]? = some oi) (hsel : ∀ (j : Nat) (o : Oper) cs b, ops[j]? = some o → o.op ≠ .select cs b)
    (hQ : ∀ c a w, Q (.panic c) (a.put oi.dst v) w → Q (.panic c) a w) (hk : waitsB md ops k i = true) :
    ∀ (fuel : Nat) (listed : Array Bool) (a : Act) (w : World),
      (∀ j oj, ops[j]? = some oj → j ≠ i → listed.getD j true = false → (∀ e ∈ oj.after, Region.binds md e = true → e.on ≠ i) → oi.apart ops oj = true) →
      i ∈ Region.ready md ops listed → YieldsIf P ops S oi v a → S w →
      wpAnyT P md ops Q S k fuel (listed.setIfInBounds i true) (a.put oi.dst v) w → wpAnyT P md ops Q S k (fuel + 1) listed a w := by
  intro fuel
  induction fuel with
  | zero =>
    intro listed a w _ hr hy hS H
    refine ⟨fun h => (by rw [h] at hr; cases hr), fun j hj => ?_⟩
    by_cases hji : j = i
    · subst hji; exact hy.wpOp hi hS ⟨.inr hS, H⟩
    · have := ready_mono hj hji
      rw [H.1] at this
      cases this
  | succ fuel ih =>
    intro listed a w hfree hr hy hS H
    refine ⟨fun h => (by rw [h] at hr; cases hr), fun j hj => ?_⟩
    by_cases hji : j = i
    · subst hji; exact hy.wpOp hi hS ⟨.inr hS, H⟩
    · have hjk : j ≠ k := by
        rintro rfl
        exact waits_not hk (mem_ready.1 hr).1 hj
      have h1 := H.2 j (ready_mono hj hji)
      obtain ⟨hjun, oj, hoj, hall⟩ := mem_ready.1 hj
      have hnot : ∀ e ∈ oj.after, Region.binds md e = true → e.on ≠ i := fun e he hb heq => by
        have h1 := hall e he hb
        have h0 := (mem_ready.1 hr).1
        rw [heq] at h1
        rcases Nat.lt_or_ge i listed.size with h' | h'
        · simp [h'] at h0 h1; rw [h0] at h1; cases h1
        · simp [Array.getElem?_eq_none h'] at h1
      have h2 := wpOp_putIf hoj (hfree j oj hoj hji hjun hnot) (fun cs b => hsel i oi cs b hi) (fun cs b => hsel j oj cs b hoj) hQ hy h1
      have hfree' : ∀ m om, ops[m]? = some om → m ≠ i → (listed.setIfInBounds j true).getD m true = false →
          (∀ e ∈ om.after, Region.binds md e = true → e.on ≠ i) → oi.apart ops om = true := fun m om hm hmi hun hno => by
        refine hfree m om hm hmi ?_ hno
        by_cases hjm : j = m
        · subst hjm; exact hjun
        · rw [getD_set_ne true hjm] at hun; exact hun
      refine wpOp_mono (fun a' w' h3 => ?_) h2
      have hS' : S w' := h3.2.1.resolve_left hjk
      refine ⟨.inr hS', ih (listed.setIfInBounds j true) a' w' hfree' (ready_mono hr (Ne.symm hji)) h3.1 hS' ?_⟩
      rw [Array.setIfInBounds_comm _ _ hji]
      exact h3.2.2

theorem wpAnyT_take {i k : Nat} {oi : Oper} {v : Value} {fuel : Nat} {listed : Array Bool} {a : Act} {w : World} (hi : ops[i]? = some oi)
    (hs : Region.noSelect ops = true) (hf : Region.free md ops listed i = true) (hr : (Region.ready md ops listed).contains i = true) (hk : waitsB md ops k i = true)
    (hQ : ∀ c a w, Q (.panic c) (a.put oi.dst v) w → Q (.panic c) a w) (hy : YieldsIf P ops S oi v a) (hS : S w)
    (h : wpAnyT P md ops Q S k fuel (listed.setIfInBounds i true) (a.put oi.dst v) w) : wpAnyT P md ops Q S k (fuel + 1) listed a w :=
  wpAnyT_first hi (Region.noSelect_spec hs) hQ hk fuel listed a w (Region.free_spec hi hf) (by simpa using hr) hy hS h

/-- one operation alone may come up -/
theorem wpAnyT_one {i k : Nat} {o : Oper} {fuel : Nat} {listed : Array Bool} {a : Act} {w : World} (hr : Region.ready md ops listed = [i]) (ho : ops[i]? = some o)
    (h : ∀ K' : Act → World → Prop, Shut (∀ a w, (i = k ∨ S w) → wpAnyT P md ops Q S k fuel (listed.setIfInBounds i true) a w → K' a w) → if Region.wanted o (yielded ops a.tmps) = true then Oper.wp P o a w K' Q else K' (a.put o.dst undef) w) : wpAnyT P md ops Q S k (fuel + 1) listed a w :=
  ⟨fun h0 => (by rw [hr] at h0; cases h0), fun j hj => by
    rw [hr] at hj
    obtain rfl : j = i := by simpa using hj
    exact wpOp_step ho (fun K' hK => h K' (fun a w hS hW => hK a w ⟨hS, hW⟩))⟩

theorem wpAnyT_done {k : Nat} {listed : Array Bool} {a : Act} {w : World} (hr : Region.ready md ops listed = []) (h : Q .normal a w) :
    ∀ fuel, wpAnyT P md ops Q S k fuel listed a w
  | 0 => ⟨hr, h⟩
  | _ + 1 => ⟨fun _ => h, by rw [hr]; simp⟩

theorem wp_region_T {id k : Nat} {a : Act} {w : World} (hm : P.follows .mixedOrders = true)
    (h : wpAnyT P .any ops Q S k ops.size (Array.replicate ops.size false) a w.drew) : (Code.region id ops true).wp P Q a w :=
  wp_region_any hm (wpAny_of_T k _ _ _ _ h)

end

end Nm
end Go.Proofs.YtlhmbbpkhahbeaaDoor
namespace Go.Proofs.YtlhmbbpkhahbeaaDoor
namespace Nm
open Go.RowKit Go.Shelf Go.BigFrame
attribute [local go_sem] Oper.semAt_some

theorem digV_good {b c : Nat} (hb : b ≤ 36) (h : digV 36 c < b) : digV 99 c = digV 36 c := by
  unfold digV at *
  split
  · rfl
  · rename_i h1
    rw [if_neg h1] at h
    split
    · rfl
    · rename_i h2
      rw [if_neg h2] at h
      split
      · rfl
      · rename_i h3
        rw [if_neg h3] at h
        omega
theorem digV_bad {b c : Nat} (hb : b ≤ 36) (h : b ≤ digV 36 c) : b ≤ digV 99 c := by
  unfold digV at *
  split
  · rename_i h1; rwa [if_pos h1] at h
  · rename_i h1
    rw [if_neg h1] at h
    split
    · rename_i h2; rwa [if_pos h2] at h
    · rename_i h2
      rw [if_neg h2] at h
      split
      · rename_i h3; rwa [if_pos h3] at h
      · omega
theorem getD_drop (cs : List Nat) (a k : Nat) : (cs.drop a).getD k 0 = cs.getD (a + k) 0 := by
  rw [List.getD_eq_getElem?_getD, List.getElem?_drop, List.getD_eq_getElem?_getD]
theorem parV_from {b a f : Nat} {cs : List Nat} (hf : f ≤ cs.length) (haf : a ≤ f) (h : ∀ k, a ≤ k → k < f → digV 36 (cs.getD k 0) = 0) : parV b (cs.drop f) = parV b (cs.drop a) := by
  have e : cs.drop f = (cs.drop a).drop (f - a) := by rw [List.drop_drop]; congr 1; omega
  rw [e]
  refine parV_drop b (cs.drop a) (f - a) (fun k hk => ?_) (by rw [List.length_drop]; omega)
  rw [getD_drop]
  exact h (a + k) (by omega) (by omega)
theorem parV_le {b : Nat} (hb : 1 ≤ b) (cs : List Nat) (k : Nat) : parV b (cs.take k) ≤ parV b cs := by
  have e : parV b cs = parV b (cs.take k) * b ^ ((cs.drop k).map (digV 36)).length + numOf b ((cs.drop k).map (digV 36)) := by
    conv => lhs; rw [← List.take_append_drop k cs]
    unfold parV
    rw [List.map_append]
    show List.foldl _ _ _ = _
    rw [List.foldl_append]
    exact numOf_from b _ _
  rw [e]
  have h1 := Nat.pow_pos (show 0 < b by omega) (n := ((cs.drop k).map (digV 36)).length)
  exact Nat.le_trans (Nat.le_mul_of_pos_right _ h1) (Nat.le_add_right _ _)
theorem parV_one {b f i c : Nat} {cs : List Nat} (hfi : f ≤ i) (hi : i < cs.length) (hc : cs.getD i 0 = c) : parV b ((cs.drop f).take (i + 1 - f)) = parV b ((cs.drop f).take (i - f)) * b + digV 36 c := by
  have h := parV_take (b := b) (cs := cs.drop f) (k := i - f) (c := c) (by rw [List.length_drop]; omega) (by rw [getD_drop]; rw [show f + (i - f) = i by omega]; exact hc)
  rwa [show i - f + 1 = i + 1 - f by omega] at h
theorem byte_lt (S : ByteArray) {i : Nat} (hi : i < S.size) : (bytesN S).getD i 0 < 256 := by
  rw [List.getD_eq_getElem?_getD, List.getElem?_eq_getElem (by rw [bytesN_length]; exact hi)]
  exact bytesN_lt _ _ (List.getElem_mem _)

set_option maxRecDepth 100000 in
set_option maxHeartbeats 16000000 in
theorem RParse_base (n : Int) (S : ByteArray) (w : World) (hbd : (n : Int) < 2 ∨ (¬ n < 2 ∧ 36 < n)) :
    Calls Tryd.prog 34 #[.string S, .int .i64 n] w (RetGot 0 1 w) := by
  obtain ⟨W1, hW1⟩ : ∃ W1, w.alloc (.cells #[.bool false, .slice none 0 0, .int .i64 0] 41) = W1 := ⟨_, rfl⟩
  have hb : Below w.heap.size w W1 := by rw [← hW1]; exact al1 _ _
  have hR : Blk W1 w.heap.size #[.bool false, .slice none 0 0, .int .i64 0] 41 := ⟨by rw [← hW1]; exact World.alloc_heap_new w _⟩
  have rz0 := cell_at hR.h 0 _ rfl
  have rz1 := cell_at hR.h 1 _ rfl
  have rz2 := cell_at hR.h 2 _ rfl
  have ru0 := frozen_at hR.h 0
  have ru1 := frozen_at hR.h 1
  have ru2 := frozen_at hR.h 2
  rcases hbd with hn | ⟨hn, hn'⟩
  all_goals
    go_enter Tryd.func34, Tryd.ntmps34
    go_wp2_with fail
    exact ret_cellT rfl Tryd.underlying41 got_size rfl rfl (set3 hR.h _ _ _) rfl ⟨false, none, 0, [], rfl, isZ_zero, Nat.le_refl _, Rd.nil _ _, (((hb.setCell (Nat.le_refl _) _).setCell (Nat.le_refl _) _).setCell (Nat.le_refl _) _)⟩

set_option maxRecDepth 100000 in
set_option maxHeartbeats 16000000 in
theorem RParse_empty0 (b : Nat) (S : ByteArray) (w : World) (hb1 : 2 ≤ b) (hb2 : b ≤ 36) (hS : S.size = 0) :
    Calls Tryd.prog 34 #[.string S, .int .i64 (b : Int)] w (RetGot 0 2 w) := by
  obtain ⟨W1, hW1⟩ : ∃ W1, w.alloc (.cells #[.bool false, .slice none 0 0, .int .i64 0] 41) = W1 := ⟨_, rfl⟩
  have hb : Below w.heap.size w W1 := by rw [← hW1]; exact al1 _ _
  have hR : Blk W1 w.heap.size #[.bool false, .slice none 0 0, .int .i64 0] 41 := ⟨by rw [← hW1]; exact World.alloc_heap_new w _⟩
  have rz0 := cell_at hR.h 0 _ rfl
  have rz1 := cell_at hR.h 1 _ rfl
  have rz2 := cell_at hR.h 2 _ rfl
  have ru0 := frozen_at hR.h 0
  have ru1 := frozen_at hR.h 1
  have ru2 := frozen_at hR.h 2
  have dS : decide (0 < S.size) = false := decide_eq_false (by omega)
  go_enter Tryd.func34, Tryd.ntmps34
  go_wp2_with fail
  exact ret_cellT rfl Tryd.underlying41 got_size rfl rfl (set3 hR.h _ _ _) rfl ⟨false, none, 0, [], rfl, isZ_zero, Nat.le_refl _, Rd.nil _ _, (((hb.setCell (Nat.le_refl _) _).setCell (Nat.le_refl _) _).setCell (Nat.le_refl _) _)⟩

set_option maxRecDepth 100000 in
set_option maxHeartbeats 16000000 in
theorem RParse_empty1 (b : Nat) (S : ByteArray) (w : World) (hb1 : 2 ≤ b) (hb2 : b ≤ 36) (hS : S.size = 1) (hc0 : ∀ h, (S[0]'h).toNat = 45) :
    Calls Tryd.prog 34 #[.string S, .int .i64 (b : Int)] w (RetGot 0 2 w) := by
  obtain ⟨W1, hW1⟩ : ∃ W1, w.alloc (.cells #[.bool false, .slice none 0 0, .int .i64 0] 41) = W1 := ⟨_, rfl⟩
  have hb : Below w.heap.size w W1 := by rw [← hW1]; exact al1 _ _
  have hR : Blk W1 w.heap.size #[.bool false, .slice none 0 0, .int .i64 0] 41 := ⟨by rw [← hW1]; exact World.alloc_heap_new w _⟩
  have rz0 := cell_at hR.h 0 _ rfl
  have rz1 := cell_at hR.h 1 _ rfl
  have rz2 := cell_at hR.h 2 _ rfl
  have ru0 := frozen_at hR.h 0
  have ru1 := frozen_at hR.h 1
  have ru2 := frozen_at hR.h 2
  have dS : decide (0 < S.size) = true := decide_eq_true (by omega)
  go_enter Tryd.func34, Tryd.ntmps34
  go_wp2_with fail
  exact ret_cellT rfl Tryd.underlying41 got_size rfl rfl (set3 hR.h _ _ _) rfl ⟨false, none, 0, [], rfl, isZ_zero, Nat.le_refl _, Rd.nil _ _, (((hb.setCell (Nat.le_refl _) _).setCell (Nat.le_refl _) _).setCell (Nat.le_refl _) _)⟩

set_option maxRecDepth 100000 in
set_option maxHeartbeats 16000000 in
theorem RParse_bad_f (b : Nat) (S : ByteArray) (w : World) (hb1 : 2 ≤ b) (hb2 : b ≤ 36) (c0 : Nat) (hc0 : ∀ h, (S[0]'h).toNat = c0) (hneg : ((c0 : Int) == 45) = false) (hsm : S.size < 35184372088832) (p : Nat) (hAp : 0 ≤ p) (hp : p < S.size) (hbad : b ≤ digV 36 ((bytesN S).getD p 0)) :
    Calls Tryd.prog 34 #[.string S, .int .i64 (b : Int)] w (RetGot 0 2 w) := by
  obtain ⟨W1, hW1⟩ : ∃ W1, w.alloc (.cells #[.bool false, .slice none 0 0, .int .i64 0] 41) = W1 := ⟨_, rfl⟩
  have hb : Below w.heap.size w W1 := by rw [← hW1]; exact al1 _ _
  have hR : Blk W1 w.heap.size #[.bool false, .slice none 0 0, .int .i64 0] 41 := ⟨by rw [← hW1]; exact World.alloc_heap_new w _⟩
  have rz0 := cell_at hR.h 0 _ rfl
  have rz1 := cell_at hR.h 1 _ rfl
  have rz2 := cell_at hR.h 2 _ rfl
  have ru0 := frozen_at hR.h 0
  have ru1 := frozen_at hR.h 1
  have ru2 := frozen_at hR.h 2
  have dS : decide (0 < S.size) = true := decide_eq_true (by omega)
  have dz0 : ((0 : Int) == (S.size : Int)) = false := by rw [beq_eq_false_iff_ne]; omega
  have dz1 : (0 == S.size) = false := by rw [beq_eq_false_iff_ne]; omega
  have dz2 : (S.size == 0) = false := by rw [beq_eq_false_iff_ne]; omega
  have Hbad := Lib.hid hbad
  clear hbad
  go_enter Tryd.func34, Tryd.ntmps34
  go_wp2_with fail
  go_loop [6] (fun iv => ∃ i : Nat, iv = .int .i64 (i : Int) ∧ 0 ≤ i ∧ i ≤ p) (fun iv => p + 1 - (intOf iv).toNat)
  case atStart => exact ⟨0, rfl, Nat.le_refl _, hAp⟩
  case round =>
    obtain ⟨i, rfl, hAi, hip⟩ := hrel
    have ilt : i < S.size := by omega
    have hget := getB ilt
    obtain ⟨c, hc⟩ : ∃ c, (bytesN S).getD i 0 = c := ⟨_, rfl⟩
    have hc256 : c < 256 := by rw [← hc]; exact byte_lt S ilt
    rw [hc] at hget
    have hdg := Rdigit_calls c hc256 W1
    obtain ⟨d, hd⟩ : ∃ d, digV 99 c = d := ⟨_, rfl⟩
    rw [hd] at hdg
    have hiI : (i : Int) < (S.size : Int) := by omega
    by_cases hbd : b ≤ d
    · have dI : (b : Int) ≤ (d : Int) := by omega
      clear hd hc hAi
      go_wp2_with (go_at_call 90; refine hdg.mono ?_; rintro e w6 ⟨rfl, rfl⟩)
      exact ret_cellT rfl Tryd.underlying41 got_size rfl rfl (set3 hR.h _ _ _) rfl ⟨false, none, 0, [], rfl, isZ_zero, Nat.le_refl _, Rd.nil _ _, (((hb.setCell (Nat.le_refl _) _).setCell (Nat.le_refl _) _).setCell (Nat.le_refl _) _)⟩
    · have hne : i < p := by
        rcases Nat.lt_or_ge i p with h | h
        · exact h
        · have hip' : i = p := by omega
          have h1 := Hbad.out
          rw [← hip', hc] at h1
          have := digV_bad hb2 h1
          omega
      have dI : ¬ (b : Int) ≤ (d : Int) := by omega
      clear hd hc
      go_wp2_with (go_at_call 90; refine hdg.mono ?_; rintro e w6 ⟨rfl, rfl⟩)
      go_round
      case rel => exact ⟨i + 1, by simp, by omega, by omega⟩
      case measure => simp only [intOf]; omega

set_option maxRecDepth 100000 in
set_option maxHeartbeats 16000000 in
theorem RParse_bad_t (b : Nat) (S : ByteArray) (w : World) (hb1 : 2 ≤ b) (hb2 : b ≤ 36) (c0 : Nat) (hc0 : ∀ h, (S[0]'h).toNat = c0) (hneg : ((c0 : Int) == 45) = true) (hsm : S.size < 35184372088832) (p : Nat) (hAp : 1 ≤ p) (hp : p < S.size) (hbad : b ≤ digV 36 ((bytesN S).getD p 0)) :
    Calls Tryd.prog 34 #[.string S, .int .i64 (b : Int)] w (RetGot 0 2 w) := by
  obtain ⟨W1, hW1⟩ : ∃ W1, w.alloc (.cells #[.bool false, .slice none 0 0, .int .i64 0] 41) = W1 := ⟨_, rfl⟩
  have hb : Below w.heap.size w W1 := by rw [← hW1]; exact al1 _ _
  have hR : Blk W1 w.heap.size #[.bool false, .slice none 0 0, .int .i64 0] 41 := ⟨by rw [← hW1]; exact World.alloc_heap_new w _⟩
  have rz0 := cell_at hR.h 0 _ rfl
  have rz1 := cell_at hR.h 1 _ rfl
  have rz2 := cell_at hR.h 2 _ rfl
  have ru0 := frozen_at hR.h 0
  have ru1 := frozen_at hR.h 1
  have ru2 := frozen_at hR.h 2
  have dS : decide (0 < S.size) = true := decide_eq_true (by omega)
  have dz0 : ((1 : Int) == (S.size : Int)) = false := by rw [beq_eq_false_iff_ne]; omega
  have dz1 : (1 == S.size) = false := by rw [beq_eq_false_iff_ne]; omega
  have dz2 : (S.size == 1) = false := by rw [beq_eq_false_iff_ne]; omega
  have Hbad := Lib.hid hbad
  clear hbad
  go_enter Tryd.func34, Tryd.ntmps34
  go_wp2_with fail
  go_loop [6] (fun iv => ∃ i : Nat, iv = .int .i64 (i : Int) ∧ 1 ≤ i ∧ i ≤ p) (fun iv => p + 1 - (intOf iv).toNat)
  case atStart => exact ⟨1, rfl, Nat.le_refl _, hAp⟩
  case round =>
    obtain ⟨i, rfl, hAi, hip⟩ := hrel
    have ilt : i < S.size := by omega
    have hget := getB ilt
    obtain ⟨c, hc⟩ : ∃ c, (bytesN S).getD i 0 = c := ⟨_, rfl⟩
    have hc256 : c < 256 := by rw [← hc]; exact byte_lt S ilt
    rw [hc] at hget
    have hdg := Rdigit_calls c hc256 W1
    obtain ⟨d, hd⟩ : ∃ d, digV 99 c = d := ⟨_, rfl⟩
    rw [hd] at hdg
    have hiI : (i : Int) < (S.size : Int) := by omega
    by_cases hbd : b ≤ d
    · have dI : (b : Int) ≤ (d : Int) := by omega
      clear hd hc hAi
      go_wp2_with (go_at_call 90; refine hdg.mono ?_; rintro e w6 ⟨rfl, rfl⟩)
      exact ret_cellT rfl Tryd.underlying41 got_size rfl rfl (set3 hR.h _ _ _) rfl ⟨false, none, 0, [], rfl, isZ_zero, Nat.le_refl _, Rd.nil _ _, (((hb.setCell (Nat.le_refl _) _).setCell (Nat.le_refl _) _).setCell (Nat.le_refl _) _)⟩
    · have hne : i < p := by
        rcases Nat.lt_or_ge i p with h | h
        · exact h
        · have hip' : i = p := by omega
          have h1 := Hbad.out
          rw [← hip', hc] at h1
          have := digV_bad hb2 h1
          omega
      have dI : ¬ (b : Int) ≤ (d : Int) := by omega
      clear hd hc
      go_wp2_with (go_at_call 90; refine hdg.mono ?_; rintro e w6 ⟨rfl, rfl⟩)
      go_round
      case rel => exact ⟨i + 1, by simp, by omega, by omega⟩
      case measure => simp only [intOf]; omega

set_option maxRecDepth 100000 in
set_option maxHeartbeats 16000000 in
theorem RParse_good_f (b : Nat) (S : ByteArray) (w : World) (hb1 : 2 ≤ b) (hb2 : b ≤ 36) (c0 : Nat) (hc0 : ∀ h, (S[0]'h).toNat = c0) (hneg : ((c0 : Int) == 45) = false) (hsm : S.size < 35184372088832) (hSz : 0 < S.size) (hall : ∀ k, 0 ≤ k → k < S.size → digV 36 ((bytesN S).getD k 0) < b) :
    Calls Tryd.prog 34 #[.string S, .int .i64 (b : Int)] w (RetGot (fitZ (((parV b ((bytesN S).drop 0) : Nat) : Nat) : Int)).1 (fitZ (((parV b ((bytesN S).drop 0) : Nat) : Nat) : Int)).2 w) := by
  obtain ⟨W1, hW1⟩ : ∃ W1, w.alloc (.cells #[.bool false, .slice none 0 0, .int .i64 0] 41) = W1 := ⟨_, rfl⟩
  have hb : Below w.heap.size w W1 := by rw [← hW1]; exact al1 _ _
  have hR : Blk W1 w.heap.size #[.bool false, .slice none 0 0, .int .i64 0] 41 := ⟨by rw [← hW1]; exact World.alloc_heap_new w _⟩
  have rz0 := cell_at hR.h 0 _ rfl
  have rz1 := cell_at hR.h 1 _ rfl
  have rz2 := cell_at hR.h 2 _ rfl
  have ru0 := frozen_at hR.h 0
  have ru1 := frozen_at hR.h 1
  have ru2 := frozen_at hR.h 2
  have dS : decide (0 < S.size) = true := decide_eq_true (by omega)
  have dz0 : ((0 : Int) == (S.size : Int)) = false := by rw [beq_eq_false_iff_ne]; omega
  have dz1 : (0 == S.size) = false := by rw [beq_eq_false_iff_ne]; omega
  have dz2 : (S.size == 0) = false := by rw [beq_eq_false_iff_ne]; omega
  have Hall := Lib.hid hall
  clear hall
  obtain ⟨F, hF⟩ : ∃ F, fitZ (((parV b ((bytesN S).drop 0) : Nat) : Nat) : Int) = F := ⟨_, rfl⟩
  rw [hF]
  have HF := Lib.hid hF
  clear hF
  go_enter Tryd.func34, Tryd.ntmps34
  go_wp2_with fail
  go_loop [6] (fun iv => ∃ i : Nat, iv = .int .i64 (i : Int) ∧ 0 ≤ i ∧ i ≤ S.size) (fun iv => S.size + 1 - (intOf iv).toNat)
  case atStart => exact ⟨0, rfl, Nat.le_refl _, by omega⟩
  case round =>
    obtain ⟨i, rfl, hAi, hiS⟩ := hrel
    by_cases ilt : i < S.size
    · have hget := getB ilt
      obtain ⟨c, hc⟩ : ∃ c, (bytesN S).getD i 0 = c := ⟨_, rfl⟩
      have hc256 : c < 256 := by rw [← hc]; exact byte_lt S ilt
      rw [hc] at hget
      have hgd := Hall.out i hAi ilt
      rw [hc] at hgd
      have hdg := Rdigit_calls c hc256 W1
      rw [digV_good hb2 hgd] at hdg
      obtain ⟨d, hd⟩ : ∃ d, digV 36 c = d := ⟨_, rfl⟩
      rw [hd] at hdg hgd
      have hiI : (i : Int) < (S.size : Int) := by omega
      have dI : ¬ (b : Int) ≤ (d : Int) := by omega
      clear hd hc hgd
      go_wp2_with (go_at_call 90; refine hdg.mono ?_; rintro e w6 ⟨rfl, rfl⟩)
      go_round
      case rel => exact ⟨i + 1, by simp, by omega, by omega⟩
      case measure => simp only [intOf]; omega
    · have hi0 : ¬ (i : Int) < (S.size : Int) := by omega
      go_wp2_with fail
      go_loop [5] (fun fv => ∃ f : Nat, fv = .int .i64 (f : Int) ∧ 0 ≤ f ∧ f ≤ S.size ∧ Hid (∀ k, 0 ≤ k → k < f → digV 36 ((bytesN S).getD k 0) = 0)) (fun fv => S.size + 1 - (intOf fv).toNat)
      case atStart => exact ⟨0, rfl, Nat.le_refl _, by omega, fun k h1 h2 => by omega⟩
      case round =>
        obtain ⟨f, rfl, hAf, hfS, hz⟩ := hrel
        clear hiS ilt hi0 hAi
        by_cases hgo : f < S.size ∧ (bytesN S).getD f 0 = 48
        · obtain ⟨flt, hc48⟩ := hgo
          have hget := getB flt
          rw [hc48] at hget
          have hfI : (f : Int) < (S.size : Int) := by omega
          have Hc := Lib.hid hc48
          clear hc48
          go_wp2_with fail
          go_round
          case rel =>
            refine ⟨f + 1, by simp, by omega, by omega, ?_⟩
            intro k h1 h2
            rcases Nat.lt_or_ge k f with h | h
            · exact hz.out k h1 h
            · obtain rfl : k = f := by omega
              rw [Hc.out]; rfl
          case measure => simp only [intOf]; omega
        · have hV := parV_from (b := b) (cs := bytesN S) (by rw [bytesN_length]; exact hfS) hAf hz.out
          have HV := Lib.hid hV
          clear hV
          have hfS' := hfS
          rcases (show (f < S.size ∧ ¬ (bytesN S).getD f 0 = 48) ∨ f = S.size by omega) with ⟨flt, hc48⟩ | hfe
          · have hget := getB flt
            obtain ⟨cf, hcf⟩ : ∃ c, (bytesN S).getD f 0 = c := ⟨_, rfl⟩
            rw [hcf] at hget hc48
            have hq0 : ((cf : Int) == 48) = false := by rw [beq_eq_false_iff_ne]; omega
            have hq1 : (cf == 48) = false := by rw [beq_eq_false_iff_ne]; omega
            have hfI : (f : Int) < (S.size : Int) := by omega
            clear hgo hcf hc48
            go_wp2_with fail
            have hzb : (bytesN S).length = S.size := bytesN_length S
            have HZB := Lib.hid hzb
            have bz := al1 W1 (.cells #[.bool false, .slice none 0 0] 24)
            have O1 : HoldsZ (W1.alloc (.cells #[.bool false, .slice none 0 0] 24)) W1.heap.size false none 0 [] ((0 : Nat) : Int) := ⟨⟨World.alloc_heap_new W1 _⟩, isZ_zero, Rd.nil _ _, Nat.le_refl _⟩
            have O1' := O1
            have ls1 : W1.heap.size < (W1.alloc (.cells #[.bool false, .slice none 0 0] 24)).heap.size := by rw [World.size_alloc]; omega
            clear hzb O1 hW1 rz0 rz1 rz2 ru0 ru1 ru2 hz
            go_loopw [8] (fun iv W => ∃ (i x : Nat) (s : Bool) (A' : Option Addr) (c' : Nat) (l' : List Nat), iv = .int .i64 (i : Int) ∧ f ≤ i ∧ i ≤ S.size ∧ HoldsZ W W1.heap.size s A' c' l' (x : Int) ∧ l'.length ≤ 300 ∧ Below W1.heap.size W1 W ∧ W1.heap.size < W.heap.size ∧ Hid (x = parV b (((bytesN S).drop f).take (i - f)))) (fun iv _ => S.size + 1 - (intOf iv).toNat)
            case atStart => exact ⟨f, 0, false, none, 0, [], rfl, Nat.le_refl _, hfS', O1', Nat.zero_le _, bz, ls1, by show _ = _; rw [Nat.sub_self, List.take_zero]; rfl⟩
            case round =>
              clear O1' bz ls1
              obtain ⟨i, x, s, A', c', l', rfl, hfi, hiS, hH, hl', hbl, hlt, hxv⟩ := hrel
              have hz' := hH.isz
              have Bx : IntBox wr W1.heap.size s A' c' l' := ⟨hH.blk.h, hH.rd, hH.cap⟩
              have x0 := cell_at Bx.blk 0 _ rfl
              have x1 := cell_at Bx.blk 1 _ rfl
              have hVx : Hid (parV b (((bytesN S).drop f).take (i - f)) ≤ parV b ((bytesN S).drop 0)) := by show _ ≤ _; rw [← HV.out]; exact parV_le (by omega) _ _
              by_cases ilt : i < S.size
              · have hget := getB ilt
                obtain ⟨c, hc⟩ : ∃ c, (bytesN S).getD i 0 = c := ⟨_, rfl⟩
                have hc256 : c < 256 := by rw [← hc]; exact byte_lt S ilt
                rw [hc] at hget
                have hgd := Hall.out i (by omega) ilt
                rw [hc] at hgd
                have hdg := fun W => Rdigit_calls c hc256 W
                rw [digV_good hb2 hgd] at hdg
                have hone := parV_one (b := b) (cs := bytesN S) hfi (by rw [HZB.out]; exact ilt) hc
                have hV2 : parV b (((bytesN S).drop f).take (i + 1 - f)) ≤ parV b ((bytesN S).drop 0) := by rw [← HV.out]; exact parV_le (by omega) _ _
                obtain ⟨d, hd⟩ : ∃ d, digV 36 c = d := ⟨_, rfl⟩
                rw [hd] at hdg hgd hone
                rw [← hxv.out] at hone
                obtain ⟨y, hy⟩ : ∃ y, x * b + d = y := ⟨_, rfl⟩
                rw [hy] at hone
                rw [hone] at hV2
                have Hone := Lib.hid hone
                have HV2 := Lib.hid hV2
                have hyI : (x : Int) * (b : Int) + (d : Int) = (y : Int) := by rw [← hy]; simp
                have HyI := Lib.hid hyI
                have hiI : (i : Int) < (S.size : Int) := by omega
                have hb36 : (lim ((b : Int)).natAbs).length ≤ 65536 := Nat.le_trans (length_le_of_lt (k := 1) (by rw [Int.natAbs_natCast, Nat.pow_one]; show b < 4294967296; omega)) (by decide)
                have hd36 : (lim ((d : Int)).natAbs).length ≤ 65536 := Nat.le_trans (length_le_of_lt (k := 1) (by rw [Int.natAbs_natCast, Nat.pow_one]; show d < 4294967296; omega)) (by decide)
                have hlx : (lim ((x : Int) * (b : Int)).natAbs).length ≤ 301 := by
                  refine len_mul2 (k := 300) (j := 1) ?_ ?_
                  · rw [← hz'.abs]; exact hl'
                  · exact length_le_of_lt (k := 1) (by rw [Int.natAbs_natCast, Nat.pow_one]; show b < 4294967296; omega)
                have Hlx := Lib.hid hlx
                clear hd hc hone hV2 hy hyI hlx hxv hVx hH
                go_wp2_with fail
                refine wp_region_T (S := (fun w'' => w''.cell? ⟨W1.heap.size, 0, none⟩ = some (.bool s) ∧ w''.cell? ⟨W1.heap.size, 1, none⟩ = some (.slice A' l'.length c'))) (k := 10) (by kernel_rfl) ?_
                refine wpAnyT_take (i := 0) (v := Value.agg #[.bool s, .slice A' l'.length c']) rfl (by kernel_rfl) (by kernel_rfl) (by kernel_rfl) (by kernel_rfl) (fun _ _ _ h => h) (Or.inl ⟨by rfl, fun w hSw => by (try dsimp only at hSw); go_simp⟩) ⟨x0, x1⟩ ?_
                try simp only [Act.put, List.setIfInBounds_toArray]
                refine wpAnyT_take (i := 1) (v := Value.int .i64 (b : Int)) rfl (by kernel_rfl) (by kernel_rfl) (by kernel_rfl) (by kernel_rfl) (fun _ _ _ h => h) (Or.inl ⟨by rfl, fun w hSw => by (try dsimp only at hSw); go_simp⟩) ⟨x0, x1⟩ ?_
                try simp only [Act.put]
                refine wpAnyT_take (i := 4) (v := Value.string S) rfl (by kernel_rfl) (by kernel_rfl) (by kernel_rfl) (by kernel_rfl) (fun _ _ _ h => h) (Or.inl ⟨by rfl, fun w hSw => by (try dsimp only at hSw); go_simp⟩) ⟨x0, x1⟩ ?_
                try simp only [Act.put]
                refine wpAnyT_take (i := 5) (v := Value.int .i64 (i : Int)) rfl (by kernel_rfl) (by kernel_rfl) (by kernel_rfl) (by kernel_rfl) (fun _ _ _ h => h) (Or.inl ⟨by rfl, fun w hSw => by (try dsimp only at hSw); go_simp⟩) ⟨x0, x1⟩ ?_
                try simp only [Act.put]
                refine wpAnyT_take (i := 6) (v := Value.int .u8 (c : Int)) rfl (by kernel_rfl) (by kernel_rfl) (by kernel_rfl) (by kernel_rfl) (fun _ _ _ h => h) (Or.inl ⟨by rfl, fun w hSw => by (try dsimp only at hSw); go_simp⟩) ⟨x0, x1⟩ ?_
                try simp only [Act.put]
                refine wpAnyT_one (i := 2) (by kernel_rfl) rfl (fun K hK => ?_)
                go_simp
                go_at_call 40; refine (ROf_calls (b : Int) _ (by omega) (by omega)).mono ?_; rintro e w30 ⟨s30, A30, c30, l30, rfl, z30, n30, r30, b30⟩; have q30 := (below_drew (Below.refl _ wr)).trans b30; have B30 := Bx.on q30; have k0 := cell_at B30.blk 0 _ rfl; have k1 := cell_at B30.blk 1 _ rfl
                go_wp2_with fail
                refine hK.out _ _ (Or.inr ⟨k0, k1⟩) ?_
                clear hK K
                try simp only [Act.put, List.setIfInBounds_toArray, List.set_cons_zero, List.set_cons_succ]
                refine wpAnyT_one (i := 3) (by kernel_rfl) rfl (fun K hK => ?_)
                go_simp
                go_at_call 30; have hmark := q30; refine (Times_z s s30 A' A30 c' c30 l' l30 _ _ _ B30.rd r30 B30.cap n30 hz' z30 (by omega) (z30.len_le hb36)).mono ?_; rintro e w31 ⟨s31, A31, c31, l31, rfl, z31, n31, r31, b31⟩; have q31 := q30.trans (b31.mono q30.size); have B31 := Bx.on q31; have m0 := cell_at B31.blk 0 _ rfl; have m1 := cell_at B31.blk 1 _ rfl
                go_wp2_with fail
                refine hK.out _ _ (Or.inr ⟨m0, m1⟩) ?_
                clear hK K
                try simp only [Act.put, List.setIfInBounds_toArray, List.set_cons_zero, List.set_cons_succ]
                refine wpAnyT_one (i := 7) (by kernel_rfl) rfl (fun K hK => ?_)
                go_simp
                go_at_call 90; have hmark := q31; refine (hdg _).mono ?_; rintro e w32 ⟨rfl, rfl⟩; have q32 := q31
                go_wp2_with fail
                refine hK.out _ _ (Or.inr ⟨m0, m1⟩) ?_
                clear hK K
                try simp only [Act.put, List.setIfInBounds_toArray, List.set_cons_zero, List.set_cons_succ]
                refine wpAnyT_one (i := 8) (by kernel_rfl) rfl (fun K hK => ?_)
                go_simp
                go_at_call 40; have hmark := q32; refine (ROf_calls (d : Int) _ (by omega) (by omega)).mono ?_; rintro e w33 ⟨s33, A33, c33, l33, rfl, z33, n33, r33, b33⟩; have q33 := q31.trans (b33.mono q31.size); have r31' := r31.on b33; have B33 := Bx.on q33; have o0 := cell_at B33.blk 0 _ rfl; have o1 := cell_at B33.blk 1 _ rfl
                go_wp2_with fail
                refine hK.out _ _ (Or.inr ⟨o0, o1⟩) ?_
                clear hK K
                try simp only [Act.put, List.setIfInBounds_toArray, List.set_cons_zero, List.set_cons_succ]
                refine wpAnyT_one (i := 9) (by kernel_rfl) rfl (fun K hK => ?_)
                go_simp
                go_at_call 29; have hmark := q33; refine (Sum_calls s31 s33 A31 A33 c31 c33 l31 l33 _ _ _ r31' r33 n31 n33 z31 z33 (z31.len_le (Nat.le_trans Hlx.out (by decide))) (z33.len_le hd36)).mono ?_; rintro e w34 ⟨s34, A34, c34, l34, rfl, z34, n34, r34, b34⟩; have q34 := q33.trans (b34.mono q33.size); have B34 := Bx.on q34; have v0 := cell_at B34.blk 0 _ rfl; have v1 := cell_at B34.blk 1 _ rfl; have v2 := frozen_at B34.blk 0; have v3 := frozen_at B34.blk 1
                go_wp2_with fail
                refine hK.out _ _ (Or.inr ⟨v0, v1⟩) ?_
                clear hK K
                try simp only [Act.put, List.setIfInBounds_toArray, List.set_cons_zero, List.set_cons_succ]
                refine wpAnyT_one (i := 10) (by kernel_rfl) rfl (fun K hK => ?_)
                go_simp
                refine hK.out _ _ (Or.inl rfl) ?_
                clear hK K
                try simp only [Act.put, List.setIfInBounds_toArray, List.set_cons_zero, List.set_cons_succ]
                refine wpAnyT_done (by kernel_rfl) ?_ _
                rw [HyI.out] at z34
                have hS := holds_set ⟨B34.blk⟩ (by simp) (by simp) z34 r34 n34
                have bw := (hbl.trans (q34.mono hbl.size)).setCell (p := ⟨W1.heap.size, 0, none⟩) (Nat.le_refl _) (.bool s34)
                have bw2 := bw.setCell (p := ⟨W1.heap.size, 1, none⟩) (Nat.le_refl _) (.slice A34 l34.length c34)
                have hlt2 : W1.heap.size < ((w34.setCell ⟨W1.heap.size, 0, none⟩ (.bool s34)).setCell ⟨W1.heap.size, 1, none⟩ (.slice A34 l34.length c34)).heap.size := by have := q34.size; simp [World.setCell]; omega
                obtain ⟨Y, hY⟩ : ∃ Y, (w34.setCell ⟨W1.heap.size, 0, none⟩ (.bool s34)).setCell ⟨W1.heap.size, 1, none⟩ (.slice A34 l34.length c34) = Y := ⟨_, rfl⟩
                rw [hY] at hS bw2 hlt2 ⊢
                clear hY v0 v1 v2 v3 x0 x1 k0 k1 m0 m1 o0 o1 bw
                have y0 := cell_at hS.blk.h 0 _ rfl
                have y1 := cell_at hS.blk.h 1 _ rfl
                have rq := hR.on bw2
                have rz0 := cell_at rq.h 0 _ rfl
                have rz1 := cell_at rq.h 1 _ rfl
                have rz2 := cell_at rq.h 2 _ rfl
                have ru0 := frozen_at rq.h 0
                have ru1 := frozen_at rq.h 1
                have ru2 := frozen_at rq.h 2
                by_cases hbig : 300 < l34.length
                · have hbI : (300 : Int) < (l34.length : Int) := by omega
                  have hbz : 300 < (lim y).length := by have := hS.isz.abs; rw [Int.natAbs_natCast] at this; rw [← this]; exact hbig
                  have hFF : F = (0, 3) := by rw [← HF.out]; exact fit_big (by (first | rw [Int.natAbs_neg, Int.natAbs_natCast] | rw [Int.natAbs_natCast]); exact Nat.lt_of_lt_of_le hbz (length_mono HV2.out))
                  have HFF := Lib.hid hFF
                  clear hFF hbz
                  go_wp2_with fail
                  rw [HFF.out]
                  exact ret_cellT rfl Tryd.underlying41 got_size rfl rfl (set3 rq.h _ _ _) rfl ⟨false, none, 0, [], rfl, isZ_zero, Nat.le_refl _, Rd.nil _ _, ((((hb.trans (bw2.mono hb.size)).setCell (Nat.le_refl _) _).setCell (Nat.le_refl _) _).setCell (Nat.le_refl _) _)⟩
                · have hbI : ¬ (300 : Int) < (l34.length : Int) := by omega
                  go_wp2_with fail
                  refine ⟨⟨i + 1, y, s34, A34, c34, l34, by simp, by omega, by omega, hS, by omega, bw2, hlt2, Hone.out.symm⟩, by simp only [intOf]; omega⟩
              · obtain rfl : i = S.size := by omega
                have hxe : x = parV b ((bytesN S).drop 0) := by
                  rw [hxv.out, ← HV.out, List.take_of_length_le (by rw [List.length_drop, HZB.out]; omega)]
                have hFF : F = ((x : Int), 0) := by
                  rw [← HF.out, ← hxe]; unfold fitZ
                  rw [if_pos (by (first | rw [Int.natAbs_neg, Int.natAbs_natCast] | rw [Int.natAbs_natCast]); have := hz'.abs; rw [Int.natAbs_natCast] at this; rw [← this]; exact hl')]
                have HFF := Lib.hid hFF
                have hm := fun W h => made_calls false A' c' l' W h hH.cap
                rw [hz'.val, Int.natAbs_natCast] at hm
                have hiI : ¬ (S.size : Int) < (S.size : Int) := by omega
                clear hxe hFF hxv hVx hH ilt hl'
                go_wp2_with fail
                go_region_with (go_at_call 70; refine (hm _ (Bx.rd.on (below_drew (Below.refl _ _)))).mono ?_; rintro e w40 ⟨s40, A40, c40, l40, rfl, z40, n40, r40, b40⟩; have q40 := (below_drew (Below.refl _ wr)).trans b40; have bw := hbl.trans (q40.mono hbl.size); have rq := hR.on bw; have rz0 := cell_at rq.h 0 _ rfl; have rz1 := cell_at rq.h 1 _ rfl; have rz2 := cell_at rq.h 2 _ rfl; have ru0 := frozen_at rq.h 0; have ru1 := frozen_at rq.h 1; have ru2 := frozen_at rq.h 2)
                all_goals
                  go_wp2_with fail
                  rw [HFF.out]
                  have hne := r40.ne rq.h (by intro i x h; rcases i with _ | _ | _ | i <;> simp at h)
                  exact ret_cellT rfl Tryd.underlying41 got_size rfl rfl (set3 rq.h _ _ _) rfl ⟨s40, A40, c40, l40, rfl, by simpa using z40, n40, ((r40.setNe hne).setNe hne).setNe hne, ((((hb.trans (bw.mono hb.size)).setCell (Nat.le_refl _) _).setCell (Nat.le_refl _) _).setCell (Nat.le_refl _) _)⟩
          · have hfI : ¬ (f : Int) < (S.size : Int) := by omega
            have hfI2 : ¬ f < S.size := by omega
            clear hgo hfe
            go_wp2_with fail
            have hzb : (bytesN S).length = S.size := bytesN_length S
            have HZB := Lib.hid hzb
            have bz := al1 W1 (.cells #[.bool false, .slice none 0 0] 24)
            have O1 : HoldsZ (W1.alloc (.cells #[.bool false, .slice none 0 0] 24)) W1.heap.size false none 0 [] ((0 : Nat) : Int) := ⟨⟨World.alloc_heap_new W1 _⟩, isZ_zero, Rd.nil _ _, Nat.le_refl _⟩
            have O1' := O1
            have ls1 : W1.heap.size < (W1.alloc (.cells #[.bool false, .slice none 0 0] 24)).heap.size := by rw [World.size_alloc]; omega
            clear hzb O1 hW1 rz0 rz1 rz2 ru0 ru1 ru2 hz
            go_loopw [8] (fun iv W => ∃ (i x : Nat) (s : Bool) (A' : Option Addr) (c' : Nat) (l' : List Nat), iv = .int .i64 (i : Int) ∧ f ≤ i ∧ i ≤ S.size ∧ HoldsZ W W1.heap.size s A' c' l' (x : Int) ∧ l'.length ≤ 300 ∧ Below W1.heap.size W1 W ∧ W1.heap.size < W.heap.size ∧ Hid (x = parV b (((bytesN S).drop f).take (i - f)))) (fun iv _ => S.size + 1 - (intOf iv).toNat)
            case atStart => exact ⟨f, 0, false, none, 0, [], rfl, Nat.le_refl _, hfS', O1', Nat.zero_le _, bz, ls1, by show _ = _; rw [Nat.sub_self, List.take_zero]; rfl⟩
            case round =>
              clear O1' bz ls1
              obtain ⟨i, x, s, A', c', l', rfl, hfi, hiS, hH, hl', hbl, hlt, hxv⟩ := hrel
              have hz' := hH.isz
              have Bx : IntBox wr W1.heap.size s A' c' l' := ⟨hH.blk.h, hH.rd, hH.cap⟩
              have x0 := cell_at Bx.blk 0 _ rfl
              have x1 := cell_at Bx.blk 1 _ rfl
              have hVx : Hid (parV b (((bytesN S).drop f).take (i - f)) ≤ parV b ((bytesN S).drop 0)) := by show _ ≤ _; rw [← HV.out]; exact parV_le (by omega) _ _
              by_cases ilt : i < S.size
              · exfalso; omega
              · obtain rfl : i = S.size := by omega
                have hxe : x = parV b ((bytesN S).drop 0) := by
                  rw [hxv.out, ← HV.out, List.take_of_length_le (by rw [List.length_drop, HZB.out]; omega)]
                have hFF : F = ((x : Int), 0) := by
                  rw [← HF.out, ← hxe]; unfold fitZ
                  rw [if_pos (by (first | rw [Int.natAbs_neg, Int.natAbs_natCast] | rw [Int.natAbs_natCast]); have := hz'.abs; rw [Int.natAbs_natCast] at this; rw [← this]; exact hl')]
                have HFF := Lib.hid hFF
                have hm := fun W h => made_calls false A' c' l' W h hH.cap
                rw [hz'.val, Int.natAbs_natCast] at hm
                have hiI : ¬ (S.size : Int) < (S.size : Int) := by omega
                clear hxe hFF hxv hVx hH ilt hl'
                go_wp2_with fail
                go_region_with (go_at_call 70; refine (hm _ (Bx.rd.on (below_drew (Below.refl _ _)))).mono ?_; rintro e w40 ⟨s40, A40, c40, l40, rfl, z40, n40, r40, b40⟩; have q40 := (below_drew (Below.refl _ wr)).trans b40; have bw := hbl.trans (q40.mono hbl.size); have rq := hR.on bw; have rz0 := cell_at rq.h 0 _ rfl; have rz1 := cell_at rq.h 1 _ rfl; have rz2 := cell_at rq.h 2 _ rfl; have ru0 := frozen_at rq.h 0; have ru1 := frozen_at rq.h 1; have ru2 := frozen_at rq.h 2)
                all_goals
                  go_wp2_with fail
                  rw [HFF.out]
                  have hne := r40.ne rq.h (by intro i x h; rcases i with _ | _ | _ | i <;> simp at h)
                  exact ret_cellT rfl Tryd.underlying41 got_size rfl rfl (set3 rq.h _ _ _) rfl ⟨s40, A40, c40, l40, rfl, by simpa using z40, n40, ((r40.setNe hne).setNe hne).setNe hne, ((((hb.trans (bw.mono hb.size)).setCell (Nat.le_refl _) _).setCell (Nat.le_refl _) _).setCell (Nat.le_refl _) _)⟩

set_option maxRecDepth 100000 in
set_option maxHeartbeats 16000000 in
theorem RParse_good_t (b : Nat) (S : ByteArray) (w : World) (hb1 : 2 ≤ b) (hb2 : b ≤ 36) (c0 : Nat) (hc0 : ∀ h, (S[0]'h).toNat = c0) (hneg : ((c0 : Int) == 45) = true) (hsm : S.size < 35184372088832) (hSz : 1 < S.size) (hall : ∀ k, 1 ≤ k → k < S.size → digV 36 ((bytesN S).getD k 0) < b) :
    Calls Tryd.prog 34 #[.string S, .int .i64 (b : Int)] w (RetGot (fitZ (-(((parV b ((bytesN S).drop 1) : Nat) : Nat) : Int))).1 (fitZ (-(((parV b ((bytesN S).drop 1) : Nat) : Nat) : Int))).2 w) := by
  obtain ⟨W1, hW1⟩ : ∃ W1, w.alloc (.cells #[.bool false, .slice none 0 0, .int .i64 0] 41) = W1 := ⟨_, rfl⟩
  have hb : Below w.heap.size w W1 := by rw [← hW1]; exact al1 _ _
  have hR : Blk W1 w.heap.size #[.bool false, .slice none 0 0, .int .i64 0] 41 := ⟨by rw [← hW1]; exact World.alloc_heap_new w _⟩
  have rz0 := cell_at hR.h 0 _ rfl
  have rz1 := cell_at hR.h 1 _ rfl
  have rz2 := cell_at hR.h 2 _ rfl
  have ru0 := frozen_at hR.h 0
  have ru1 := frozen_at hR.h 1
  have ru2 := frozen_at hR.h 2
  have dS : decide (0 < S.size) = true := decide_eq_true (by omega)
  have dz0 : ((1 : Int) == (S.size : Int)) = false := by rw [beq_eq_false_iff_ne]; omega
  have dz1 : (1 == S.size) = false := by rw [beq_eq_false_iff_ne]; omega
  have dz2 : (S.size == 1) = false := by rw [beq_eq_false_iff_ne]; omega
  have Hall := Lib.hid hall
  clear hall
  obtain ⟨F, hF⟩ : ∃ F, fitZ (-(((parV b ((bytesN S).drop 1) : Nat) : Nat) : Int)) = F := ⟨_, rfl⟩
  rw [hF]
  have HF := Lib.hid hF
  clear hF
  go_enter Tryd.func34, Tryd.ntmps34
  go_wp2_with fail
  go_loop [6] (fun iv => ∃ i : Nat, iv = .int .i64 (i : Int) ∧ 1 ≤ i ∧ i ≤ S.size) (fun iv => S.size + 1 - (intOf iv).toNat)
  case atStart => exact ⟨1, rfl, Nat.le_refl _, by omega⟩
  case round =>
    obtain ⟨i, rfl, hAi, hiS⟩ := hrel
    by_cases ilt : i < S.size
    · have hget := getB ilt
      obtain ⟨c, hc⟩ : ∃ c, (bytesN S).getD i 0 = c := ⟨_, rfl⟩
      have hc256 : c < 256 := by rw [← hc]; exact byte_lt S ilt
      rw [hc] at hget
      have hgd := Hall.out i hAi ilt
      rw [hc] at hgd
      have hdg := Rdigit_calls c hc256 W1
      rw [digV_good hb2 hgd] at hdg
      obtain ⟨d, hd⟩ : ∃ d, digV 36 c = d := ⟨_, rfl⟩
      rw [hd] at hdg hgd
      have hiI : (i : Int) < (S.size : Int) := by omega
      have dI : ¬ (b : Int) ≤ (d : Int) := by omega
      clear hd hc hgd
      go_wp2_with (go_at_call 90; refine hdg.mono ?_; rintro e w6 ⟨rfl, rfl⟩)
      go_round
      case rel => exact ⟨i + 1, by simp, by omega, by omega⟩
      case measure => simp only [intOf]; omega
    · have hi0 : ¬ (i : Int) < (S.size : Int) := by omega
      go_wp2_with fail
      go_loop [5] (fun fv => ∃ f : Nat, fv = .int .i64 (f : Int) ∧ 1 ≤ f ∧ f ≤ S.size ∧ Hid (∀ k, 1 ≤ k → k < f → digV 36 ((bytesN S).getD k 0) = 0)) (fun fv => S.size + 1 - (intOf fv).toNat)
      case atStart => exact ⟨1, rfl, Nat.le_refl _, by omega, fun k h1 h2 => by omega⟩
      case round =>
        obtain ⟨f, rfl, hAf, hfS, hz⟩ := hrel
        clear hiS ilt hi0 hAi
        by_cases hgo : f < S.size ∧ (bytesN S).getD f 0 = 48
        · obtain ⟨flt, hc48⟩ := hgo
          have hget := getB flt
          rw [hc48] at hget
          have hfI : (f : Int) < (S.size : Int) := by omega
          have Hc := Lib.hid hc48
          clear hc48
          go_wp2_with fail
          go_round
          case rel =>
            refine ⟨f + 1, by simp, by omega, by omega, ?_⟩
            intro k h1 h2
            rcases Nat.lt_or_ge k f with h | h
            · exact hz.out k h1 h
            · obtain rfl : k = f := by omega
              rw [Hc.out]; rfl
          case measure => simp only [intOf]; omega
        · have hV := parV_from (b := b) (cs := bytesN S) (by rw [bytesN_length]; exact hfS) hAf hz.out
          have HV := Lib.hid hV
          clear hV
          have hfS' := hfS
          rcases (show (f < S.size ∧ ¬ (bytesN S).getD f 0 = 48) ∨ f = S.size by omega) with ⟨flt, hc48⟩ | hfe
          · have hget := getB flt
            obtain ⟨cf, hcf⟩ : ∃ c, (bytesN S).getD f 0 = c := ⟨_, rfl⟩
            rw [hcf] at hget hc48
            have hq0 : ((cf : Int) == 48) = false := by rw [beq_eq_false_iff_ne]; omega
            have hq1 : (cf == 48) = false := by rw [beq_eq_false_iff_ne]; omega
            have hfI : (f : Int) < (S.size : Int) := by omega
            clear hgo hcf hc48
            go_wp2_with fail
            have hzb : (bytesN S).length = S.size := bytesN_length S
            have HZB := Lib.hid hzb
            have bz := al1 W1 (.cells #[.bool false, .slice none 0 0] 24)
            have O1 : HoldsZ (W1.alloc (.cells #[.bool false, .slice none 0 0] 24)) W1.heap.size false none 0 [] ((0 : Nat) : Int) := ⟨⟨World.alloc_heap_new W1 _⟩, isZ_zero, Rd.nil _ _, Nat.le_refl _⟩
            have O1' := O1
            have ls1 : W1.heap.size < (W1.alloc (.cells #[.bool false, .slice none 0 0] 24)).heap.size := by rw [World.size_alloc]; omega
            clear hzb O1 hW1 rz0 rz1 rz2 ru0 ru1 ru2 hz
            go_loopw [8] (fun iv W => ∃ (i x : Nat) (s : Bool) (A' : Option Addr) (c' : Nat) (l' : List Nat), iv = .int .i64 (i : Int) ∧ f ≤ i ∧ i ≤ S.size ∧ HoldsZ W W1.heap.size s A' c' l' (x : Int) ∧ l'.length ≤ 300 ∧ Below W1.heap.size W1 W ∧ W1.heap.size < W.heap.size ∧ Hid (x = parV b (((bytesN S).drop f).take (i - f)))) (fun iv _ => S.size + 1 - (intOf iv).toNat)
            case atStart => exact ⟨f, 0, false, none, 0, [], rfl, Nat.le_refl _, hfS', O1', Nat.zero_le _, bz, ls1, by show _ = _; rw [Nat.sub_self, List.take_zero]; rfl⟩
            case round =>
              clear O1' bz ls1
              obtain ⟨i, x, s, A', c', l', rfl, hfi, hiS, hH, hl', hbl, hlt, hxv⟩ := hrel
              have hz' := hH.isz
              have Bx : IntBox wr W1.heap.size s A' c' l' := ⟨hH.blk.h, hH.rd, hH.cap⟩
              have x0 := cell_at Bx.blk 0 _ rfl
              have x1 := cell_at Bx.blk 1 _ rfl
              have hVx : Hid (parV b (((bytesN S).drop f).take (i - f)) ≤ parV b ((bytesN S).drop 1)) := by show _ ≤ _; rw [← HV.out]; exact parV_le (by omega) _ _
              by_cases ilt : i < S.size
              · have hget := getB ilt
                obtain ⟨c, hc⟩ : ∃ c, (bytesN S).getD i 0 = c := ⟨_, rfl⟩
                have hc256 : c < 256 := by rw [← hc]; exact byte_lt S ilt
                rw [hc] at hget
                have hgd := Hall.out i (by omega) ilt
                rw [hc] at hgd
                have hdg := fun W => Rdigit_calls c hc256 W
                rw [digV_good hb2 hgd] at hdg
                have hone := parV_one (b := b) (cs := bytesN S) hfi (by rw [HZB.out]; exact ilt) hc
                have hV2 : parV b (((bytesN S).drop f).take (i + 1 - f)) ≤ parV b ((bytesN S).drop 1) := by rw [← HV.out]; exact parV_le (by omega) _ _
                obtain ⟨d, hd⟩ : ∃ d, digV 36 c = d := ⟨_, rfl⟩
                rw [hd] at hdg hgd hone
                rw [← hxv.out] at hone
                obtain ⟨y, hy⟩ : ∃ y, x * b + d = y := ⟨_, rfl⟩
                rw [hy] at hone
                rw [hone] at hV2
                have Hone := Lib.hid hone
                have HV2 := Lib.hid hV2
                have hyI : (x : Int) * (b : Int) + (d : Int) = (y : Int) := by rw [← hy]; simp
                have HyI := Lib.hid hyI
                have hiI : (i : Int) < (S.size : Int) := by omega
                have hb36 : (lim ((b : Int)).natAbs).length ≤ 65536 := Nat.le_trans (length_le_of_lt (k := 1) (by rw [Int.natAbs_natCast, Nat.pow_one]; show b < 4294967296; omega)) (by decide)
                have hd36 : (lim ((d : Int)).natAbs).length ≤ 65536 := Nat.le_trans (length_le_of_lt (k := 1) (by rw [Int.natAbs_natCast, Nat.pow_one]; show d < 4294967296; omega)) (by decide)
                have hlx : (lim ((x : Int) * (b : Int)).natAbs).length ≤ 301 := by
                  refine len_mul2 (k := 300) (j := 1) ?_ ?_
                  · rw [← hz'.abs]; exact hl'
                  · exact length_le_of_lt (k := 1) (by rw [Int.natAbs_natCast, Nat.pow_one]; show b < 4294967296; omega)
                have Hlx := Lib.hid hlx
                clear hd hc hone hV2 hy hyI hlx hxv hVx hH
                go_wp2_with fail
                refine wp_region_T (S := (fun w'' => w''.cell? ⟨W1.heap.size, 0, none⟩ = some (.bool s) ∧ w''.cell? ⟨W1.heap.size, 1, none⟩ = some (.slice A' l'.length c'))) (k := 10) (by kernel_rfl) ?_
                refine wpAnyT_take (i := 0) (v := Value.agg #[.bool s, .slice A' l'.length c']) rfl (by kernel_rfl) (by kernel_rfl) (by kernel_rfl) (by kernel_rfl) (fun _ _ _ h => h) (Or.inl ⟨by rfl, fun w hSw => by (try dsimp only at hSw); go_simp⟩) ⟨x0, x1⟩ ?_
                try simp only [Act.put, List.setIfInBounds_toArray]
                refine wpAnyT_take (i := 1) (v := Value.int .i64 (b : Int)) rfl (by kernel_rfl) (by kernel_rfl) (by kernel_rfl) (by kernel_rfl) (fun _ _ _ h => h) (Or.inl ⟨by rfl, fun w hSw => by (try dsimp only at hSw); go_simp⟩) ⟨x0, x1⟩ ?_
                try simp only [Act.put]
                refine wpAnyT_take (i := 4) (v := Value.string S) rfl (by kernel_rfl) (by kernel_rfl) (by kernel_rfl) (by kernel_rfl) (fun _ _ _ h => h) (Or.inl ⟨by rfl, fun w hSw => by (try dsimp only at hSw); go_simp⟩) ⟨x0, x1⟩ ?_
                try simp only [Act.put]
                refine wpAnyT_take (i := 5) (v := Value.int .i64 (i : Int)) rfl (by kernel_rfl) (by kernel_rfl) (by kernel_rfl) (by kernel_rfl) (fun _ _ _ h => h) (Or.inl ⟨by rfl, fun w hSw => by (try dsimp only at hSw); go_simp⟩) ⟨x0, x1⟩ ?_
                try simp only [Act.put]
                refine wpAnyT_take (i := 6) (v := Value.int .u8 (c : Int)) rfl (by kernel_rfl) (by kernel_rfl) (by kernel_rfl) (by kernel_rfl) (fun _ _ _ h => h) (Or.inl ⟨by rfl, fun w hSw => by (try dsimp only at hSw); go_simp⟩) ⟨x0, x1⟩ ?_
                try simp only [Act.put]
                refine wpAnyT_one (i := 2) (by kernel_rfl) rfl (fun K hK => ?_)
                go_simp
                go_at_call 40; refine (ROf_calls (b : Int) _ (by omega) (by omega)).mono ?_; rintro e w30 ⟨s30, A30, c30, l30, rfl, z30, n30, r30, b30⟩; have q30 := (below_drew (Below.refl _ wr)).trans b30; have B30 := Bx.on q30; have k0 := cell_at B30.blk 0 _ rfl; have k1 := cell_at B30.blk 1 _ rfl
                go_wp2_with fail
                refine hK.out _ _ (Or.inr ⟨k0, k1⟩) ?_
                clear hK K
                try simp only [Act.put, List.setIfInBounds_toArray, List.set_cons_zero, List.set_cons_succ]
                refine wpAnyT_one (i := 3) (by kernel_rfl) rfl (fun K hK => ?_)
                go_simp
                go_at_call 30; have hmark := q30; refine (Times_z s s30 A' A30 c' c30 l' l30 _ _ _ B30.rd r30 B30.cap n30 hz' z30 (by omega) (z30.len_le hb36)).mono ?_; rintro e w31 ⟨s31, A31, c31, l31, rfl, z31, n31, r31, b31⟩; have q31 := q30.trans (b31.mono q30.size); have B31 := Bx.on q31; have m0 := cell_at B31.blk 0 _ rfl; have m1 := cell_at B31.blk 1 _ rfl
                go_wp2_with fail
                refine hK.out _ _ (Or.inr ⟨m0, m1⟩) ?_
                clear hK K
                try simp only [Act.put, List.setIfInBounds_toArray, List.set_cons_zero, List.set_cons_succ]
                refine wpAnyT_one (i := 7) (by kernel_rfl) rfl (fun K hK => ?_)
                go_simp
                go_at_call 90; have hmark := q31; refine (hdg _).mono ?_; rintro e w32 ⟨rfl, rfl⟩; have q32 := q31
                go_wp2_with fail
                refine hK.out _ _ (Or.inr ⟨m0, m1⟩) ?_
                clear hK K
                try simp only [Act.put, List.setIfInBounds_toArray, List.set_cons_zero, List.set_cons_succ]
                refine wpAnyT_one (i := 8) (by kernel_rfl) rfl (fun K hK => ?_)
                go_simp
                go_at_call 40; have hmark := q32; refine (ROf_calls (d : Int) _ (by omega) (by omega)).mono ?_; rintro e w33 ⟨s33, A33, c33, l33, rfl, z33, n33, r33, b33⟩; have q33 := q31.trans (b33.mono q31.size); have r31' := r31.on b33; have B33 := Bx.on q33; have o0 := cell_at B33.blk 0 _ rfl; have o1 := cell_at B33.blk 1 _ rfl
                go_wp2_with fail
                refine hK.out _ _ (Or.inr ⟨o0, o1⟩) ?_
                clear hK K
                try simp only [Act.put, List.setIfInBounds_toArray, List.set_cons_zero, List.set_cons_succ]
                refine wpAnyT_one (i := 9) (by kernel_rfl) rfl (fun K hK => ?_)
                go_simp
                go_at_call 29; have hmark := q33; refine (Sum_calls s31 s33 A31 A33 c31 c33 l31 l33 _ _ _ r31' r33 n31 n33 z31 z33 (z31.len_le (Nat.le_trans Hlx.out (by decide))) (z33.len_le hd36)).mono ?_; rintro e w34 ⟨s34, A34, c34, l34, rfl, z34, n34, r34, b34⟩; have q34 := q33.trans (b34.mono q33.size); have B34 := Bx.on q34; have v0 := cell_at B34.blk 0 _ rfl; have v1 := cell_at B34.blk 1 _ rfl; have v2 := frozen_at B34.blk 0; have v3 := frozen_at B34.blk 1
                go_wp2_with fail
                refine hK.out _ _ (Or.inr ⟨v0, v1⟩) ?_
                clear hK K
                try simp only [Act.put, List.setIfInBounds_toArray, List.set_cons_zero, List.set_cons_succ]
                refine wpAnyT_one (i := 10) (by kernel_rfl) rfl (fun K hK => ?_)
                go_simp
                refine hK.out _ _ (Or.inl rfl) ?_
                clear hK K
                try simp only [Act.put, List.setIfInBounds_toArray, List.set_cons_zero, List.set_cons_succ]
                refine wpAnyT_done (by kernel_rfl) ?_ _
                rw [HyI.out] at z34
                have hS := holds_set ⟨B34.blk⟩ (by simp) (by simp) z34 r34 n34
                have bw := (hbl.trans (q34.mono hbl.size)).setCell (p := ⟨W1.heap.size, 0, none⟩) (Nat.le_refl _) (.bool s34)
                have bw2 := bw.setCell (p := ⟨W1.heap.size, 1, none⟩) (Nat.le_refl _) (.slice A34 l34.length c34)
                have hlt2 : W1.heap.size < ((w34.setCell ⟨W1.heap.size, 0, none⟩ (.bool s34)).setCell ⟨W1.heap.size, 1, none⟩ (.slice A34 l34.length c34)).heap.size := by have := q34.size; simp [World.setCell]; omega
                obtain ⟨Y, hY⟩ : ∃ Y, (w34.setCell ⟨W1.heap.size, 0, none⟩ (.bool s34)).setCell ⟨W1.heap.size, 1, none⟩ (.slice A34 l34.length c34) = Y := ⟨_, rfl⟩
                rw [hY] at hS bw2 hlt2 ⊢
                clear hY v0 v1 v2 v3 x0 x1 k0 k1 m0 m1 o0 o1 bw
                have y0 := cell_at hS.blk.h 0 _ rfl
                have y1 := cell_at hS.blk.h 1 _ rfl
                have rq := hR.on bw2
                have rz0 := cell_at rq.h 0 _ rfl
                have rz1 := cell_at rq.h 1 _ rfl
                have rz2 := cell_at rq.h 2 _ rfl
                have ru0 := frozen_at rq.h 0
                have ru1 := frozen_at rq.h 1
                have ru2 := frozen_at rq.h 2
                by_cases hbig : 300 < l34.length
                · have hbI : (300 : Int) < (l34.length : Int) := by omega
                  have hbz : 300 < (lim y).length := by have := hS.isz.abs; rw [Int.natAbs_natCast] at this; rw [← this]; exact hbig
                  have hFF : F = (0, 3) := by rw [← HF.out]; exact fit_big (by (first | rw [Int.natAbs_neg, Int.natAbs_natCast] | rw [Int.natAbs_natCast]); exact Nat.lt_of_lt_of_le hbz (length_mono HV2.out))
                  have HFF := Lib.hid hFF
                  clear hFF hbz
                  go_wp2_with fail
                  rw [HFF.out]
                  exact ret_cellT rfl Tryd.underlying41 got_size rfl rfl (set3 rq.h _ _ _) rfl ⟨false, none, 0, [], rfl, isZ_zero, Nat.le_refl _, Rd.nil _ _, ((((hb.trans (bw2.mono hb.size)).setCell (Nat.le_refl _) _).setCell (Nat.le_refl _) _).setCell (Nat.le_refl _) _)⟩
                · have hbI : ¬ (300 : Int) < (l34.length : Int) := by omega
                  go_wp2_with fail
                  refine ⟨⟨i + 1, y, s34, A34, c34, l34, by simp, by omega, by omega, hS, by omega, bw2, hlt2, Hone.out.symm⟩, by simp only [intOf]; omega⟩
              · obtain rfl : i = S.size := by omega
                have hxe : x = parV b ((bytesN S).drop 1) := by
                  rw [hxv.out, ← HV.out, List.take_of_length_le (by rw [List.length_drop, HZB.out]; omega)]
                have hFF : F = (-(x : Int), 0) := by
                  rw [← HF.out, ← hxe]; unfold fitZ
                  rw [if_pos (by (first | rw [Int.natAbs_neg, Int.natAbs_natCast] | rw [Int.natAbs_natCast]); have := hz'.abs; rw [Int.natAbs_natCast] at this; rw [← this]; exact hl')]
                have HFF := Lib.hid hFF
                have hm := fun W h => made_calls true A' c' l' W h hH.cap
                rw [hz'.val, Int.natAbs_natCast] at hm
                have hiI : ¬ (S.size : Int) < (S.size : Int) := by omega
                clear hxe hFF hxv hVx hH ilt hl'
                go_wp2_with fail
                go_region_with (go_at_call 70; refine (hm _ (Bx.rd.on (below_drew (Below.refl _ _)))).mono ?_; rintro e w40 ⟨s40, A40, c40, l40, rfl, z40, n40, r40, b40⟩; have q40 := (below_drew (Below.refl _ wr)).trans b40; have bw := hbl.trans (q40.mono hbl.size); have rq := hR.on bw; have rz0 := cell_at rq.h 0 _ rfl; have rz1 := cell_at rq.h 1 _ rfl; have rz2 := cell_at rq.h 2 _ rfl; have ru0 := frozen_at rq.h 0; have ru1 := frozen_at rq.h 1; have ru2 := frozen_at rq.h 2)
                all_goals
                  go_wp2_with fail
                  rw [HFF.out]
                  have hne := r40.ne rq.h (by intro i x h; rcases i with _ | _ | _ | i <;> simp at h)
                  exact ret_cellT rfl Tryd.underlying41 got_size rfl rfl (set3 rq.h _ _ _) rfl ⟨s40, A40, c40, l40, rfl, by simpa using z40, n40, ((r40.setNe hne).setNe hne).setNe hne, ((((hb.trans (bw.mono hb.size)).setCell (Nat.le_refl _) _).setCell (Nat.le_refl _) _).setCell (Nat.le_refl _) _)⟩
          · have hfI : ¬ (f : Int) < (S.size : Int) := by omega
            have hfI2 : ¬ f < S.size := by omega
            clear hgo hfe
            go_wp2_with fail
            have hzb : (bytesN S).length = S.size := bytesN_length S
            have HZB := Lib.hid hzb
            have bz := al1 W1 (.cells #[.bool false, .slice none 0 0] 24)
            have O1 : HoldsZ (W1.alloc (.cells #[.bool false, .slice none 0 0] 24)) W1.heap.size false none 0 [] ((0 : Nat) : Int) := ⟨⟨World.alloc_heap_new W1 _⟩, isZ_zero, Rd.nil _ _, Nat.le_refl _⟩
            have O1' := O1
            have ls1 : W1.heap.size < (W1.alloc (.cells #[.bool false, .slice none 0 0] 24)).heap.size := by rw [World.size_alloc]; omega
            clear hzb O1 hW1 rz0 rz1 rz2 ru0 ru1 ru2 hz
            go_loopw [8] (fun iv W => ∃ (i x : Nat) (s : Bool) (A' : Option Addr) (c' : Nat) (l' : List Nat), iv = .int .i64 (i : Int) ∧ f ≤ i ∧ i ≤ S.size ∧ HoldsZ W W1.heap.size s A' c' l' (x : Int) ∧ l'.length ≤ 300 ∧ Below W1.heap.size W1 W ∧ W1.heap.size < W.heap.size ∧ Hid (x = parV b (((bytesN S).drop f).take (i - f)))) (fun iv _ => S.size + 1 - (intOf iv).toNat)
            case atStart => exact ⟨f, 0, false, none, 0, [], rfl, Nat.le_refl _, hfS', O1', Nat.zero_le _, bz, ls1, by show _ = _; rw [Nat.sub_self, List.take_zero]; rfl⟩
            case round =>
              clear O1' bz ls1
              obtain ⟨i, x, s, A', c', l', rfl, hfi, hiS, hH, hl', hbl, hlt, hxv⟩ := hrel
              have hz' := hH.isz
              have Bx : IntBox wr W1.heap.size s A' c' l' := ⟨hH.blk.h, hH.rd, hH.cap⟩
              have x0 := cell_at Bx.blk 0 _ rfl
              have x1 := cell_at Bx.blk 1 _ rfl
              have hVx : Hid (parV b (((bytesN S).drop f).take (i - f)) ≤ parV b ((bytesN S).drop 1)) := by show _ ≤ _; rw [← HV.out]; exact parV_le (by omega) _ _
              by_cases ilt : i < S.size
              · exfalso; omega
              · obtain rfl : i = S.size := by omega
                have hxe : x = parV b ((bytesN S).drop 1) := by
                  rw [hxv.out, ← HV.out, List.take_of_length_le (by rw [List.length_drop, HZB.out]; omega)]
                have hFF : F = (-(x : Int), 0) := by
                  rw [← HF.out, ← hxe]; unfold fitZ
                  rw [if_pos (by (first | rw [Int.natAbs_neg, Int.natAbs_natCast] | rw [Int.natAbs_natCast]); have := hz'.abs; rw [Int.natAbs_natCast] at this; rw [← this]; exact hl')]
                have HFF := Lib.hid hFF
                have hm := fun W h => made_calls true A' c' l' W h hH.cap
                rw [hz'.val, Int.natAbs_natCast] at hm
                have hiI : ¬ (S.size : Int) < (S.size : Int) := by omega
                clear hxe hFF hxv hVx hH ilt hl'
                go_wp2_with fail
                go_region_with (go_at_call 70; refine (hm _ (Bx.rd.on (below_drew (Below.refl _ _)))).mono ?_; rintro e w40 ⟨s40, A40, c40, l40, rfl, z40, n40, r40, b40⟩; have q40 := (below_drew (Below.refl _ wr)).trans b40; have bw := hbl.trans (q40.mono hbl.size); have rq := hR.on bw; have rz0 := cell_at rq.h 0 _ rfl; have rz1 := cell_at rq.h 1 _ rfl; have rz2 := cell_at rq.h 2 _ rfl; have ru0 := frozen_at rq.h 0; have ru1 := frozen_at rq.h 1; have ru2 := frozen_at rq.h 2)
                all_goals
                  go_wp2_with fail
                  rw [HFF.out]
                  have hne := r40.ne rq.h (by intro i x h; rcases i with _ | _ | _ | i <;> simp at h)
                  exact ret_cellT rfl Tryd.underlying41 got_size rfl rfl (set3 rq.h _ _ _) rfl ⟨s40, A40, c40, l40, rfl, by simpa using z40, n40, ((r40.setNe hne).setNe hne).setNe hne, ((((hb.trans (bw.mono hb.size)).setCell (Nat.le_refl _) _).setCell (Nat.le_refl _) _).setCell (Nat.le_refl _) _)⟩


end Nm
end Go.Proofs.YtlhmbbpkhahbeaaDoor
namespace Go.Proofs.YtlhmbbpkhahbeaaDoor
namespace Nm
open Go.RowKit Go.Shelf Go.BigFrame
attribute [local go_sem] Oper.semAt_some

/-- a quotient in a block of its own, and a rest -/
def RetQF (q r : Int) (w : World) (e : Ending) (w' : World) : Prop :=
  ∃ s1 A1 c1 l1 s2 A2 c2 l2, e = .returned (.agg #[.bool s1, .slice A1 l1.length c1, .bool s2, .slice A2 l2.length c2]) ∧ IsZ s1 l1 q ∧ IsZ s2 l2 r ∧ l1.length ≤ c1 ∧ l2.length ≤ c2 ∧ Rd w' A1 l1 ∧ Rd w' A2 l2 ∧ Below w.heap.size w w' ∧ ∀ b o, A1 = some ⟨b, o, none⟩ → 0 < l1.length → w.heap.size ≤ b

set_option maxRecDepth 100000 in
set_option maxHeartbeats 4000000 in
theorem short_fresh (A : Option Addr) (c b : Nat) (l : List Nat) (w : World) (h1 : Rd w A l) (_hc1 : l.length ≤ c) (hb0 : 0 < b) (hb : b < 4294967296) (hsm : l.length ≤ 1048576) :
    Calls Tryd.prog 85 #[.slice A l.length c, .int .u32 (b : Int)] w (RetQF ((val l / b : Nat) : Int) ((val l % b : Nat) : Int) w) := by
  have hs1 := h1.small
  obtain ⟨W1, hW1⟩ : ∃ W1, w.alloc (.cells #[.bool false, .slice none 0 0, .bool false, .slice none 0 0] 32) = W1 := ⟨_, rfl⟩
  have hb1 : Below w.heap.size w W1 := by rw [← hW1]; exact (Below.refl _ w).alloc (Nat.le_refl _) _
  have hR : Blk W1 w.heap.size #[.bool false, .slice none 0 0, .bool false, .slice none 0 0] 32 := ⟨by rw [← hW1]; exact World.alloc_heap_new w _⟩
  have hmk := make_u32 (l.length : Int) (l.length : Int) l.length l.length rfl rfl (by omega) (by omega) W1
  obtain ⟨g, hg⟩ : ∃ g, W1.heap.size = g := ⟨_, rfl⟩
  have hgs : g = w.heap.size + 1 := by rw [← hg, ← hW1]; simp
  have Hgs := Lib.hid hgs
  have Hg := Lib.hid hg
  have r1 := h1.on hb1
  obtain ⟨Q, hQ⟩ : ∃ Q, val l / b = Q := ⟨_, rfl⟩
  obtain ⟨R, hRr⟩ : ∃ R, val l % b = R := ⟨_, rfl⟩
  have HQ := Lib.hid hQ
  have HR := Lib.hid hRr
  rw [hQ, hRr]
  clear hgs hQ hRr
  have hb4 : Below W1.heap.size W1 (W1.alloc (.cells (warr (List.replicate l.length 0)) 72)) := (Below.refl _ _).alloc (Nat.le_refl _) _
  have har : Arr (W1.alloc (.cells (warr (List.replicate l.length 0)) 72)) g (List.replicate l.length 0) := by rw [← hg]; exact arr_new _ _
  go_enter Tryd.func85, Tryd.ntmps85
  go_wp2_with fail
  clear hW1 hmk hg
  generalize (W1.alloc (.cells (warr (List.replicate l.length 0)) 72)) = W2 at *
  go_loopw [6, 7] (fun r i W => ∃ (k rest : Nat) (qs : List Nat), k ≤ l.length ∧ rest < b ∧ r = .int .u64 (rest : Int) ∧ i = .int .i64 ((k : Int) - 1) ∧ Hid (qs.length + k = l.length) ∧ Words qs ∧ Arr W g (List.replicate k 0 ++ qs) ∧ Below W1.heap.size W1 W ∧ Hid (val (l.drop k) = b * val qs + rest)) (fun _ i _ => (intOf i + 1).toNat)
  case atStart => exact ⟨l.length, 0, [], Nat.le_refl _, hb0, rfl, rfl, Nat.zero_add _, words_nil, by rw [List.append_nil]; exact har, hb4, by simp [Hid, val]⟩
  case round =>
    clear har hb4
    obtain ⟨k, rest, qs, hk, hrb, rfl, rfl, hql, hqw, harr, hbl, hval⟩ := hrel
    by_cases h0 : 0 < k
    · obtain ⟨k, rfl⟩ : ∃ j, k = j + 1 := ⟨k - 1, by omega⟩
      obtain ⟨bb, o, x, rfl, hcx, hx, hxb⟩ := r1.get k (by omega)
      have hbb := World.block_lt_of_cell? W1 _ hcx
      replace hcx := (hbl.cell (p := ⟨bb, o + k, none⟩) hbb).trans hcx
      obtain ⟨u, g4⟩ : ∃ u : Nat, wr.cell? ⟨g, k, none⟩ = some (.int .u32 (u : Int)) := ⟨_, arr_cell harr k (by simp; omega)⟩
      have f4 := arr_frozen harr k
      rw [show ((k + 1 : Nat) : Int) - 1 = (k : Int) by omega]
      clear h0
      obtain ⟨p, hp, hp2⟩ : ∃ p : Nat, (rest : Int) * 4294967296 = (p : Int) ∧ Hid (p = rest * 4294967296) := ⟨rest * 4294967296, by omega, rfl⟩
      have hpl : p < 18446744069414584321 := by have := hp2.out; omega
      obtain ⟨t, t1, t2, t3⟩ : ∃ t : Nat, (p : Int) + (x : Int) = (t : Int) ∧ Hid (t = rest * BB + x) ∧ t < 18446744073709551616 := ⟨p + x, by omega, by rw [hp2.out]; rfl, by omega⟩
      obtain ⟨z, z1, z2, z3⟩ : ∃ z : Nat, (t : Int) / (b : Int) = (z : Int) ∧ Hid (z = (rest * BB + x) / b) ∧ z < 4294967296 := ⟨t / b, by simp, by rw [← t2.out]; rfl, by rw [t2.out]; exact small_bound hrb hxb⟩
      obtain ⟨r, rr1, r2, r3⟩ : ∃ r : Nat, (t : Int) % (b : Int) = (r : Int) ∧ Hid (r = (rest * BB + x) % b) ∧ r < b := ⟨t % b, by simp, by rw [← t2.out]; rfl, Nat.mod_lt _ hb0⟩
      go_wp2_with fail
      rw [rr1]
      refine ⟨⟨k, r, z :: qs, by omega, r3, rfl, rfl, by have := hql.out; show (z :: qs).length + k = l.length; simp; omega, words_cons.2 ⟨z3, hqw⟩, ?_, hbl.setCell (by have := Hg.out; dsimp only; omega) _, small_step (by omega) hx.out hval.out z2.out r2.out⟩, by simp [intOf]⟩
      rw [← set_front]
      exact arr_set harr k z
    · obtain rfl : k = 0 := by omega
      have hlen : qs.length = l.length := by have := hql.out; omega
      have hrd := arr_rd (by simpa using harr : Arr wr g qs) hqw (by omega)
      have hv : val l = b * val qs + rest := by have := hval.out; rwa [List.drop_zero] at this
      have hq : val qs = Q := by rw [← HQ.out, hv, Nat.add_comm, Nat.add_mul_div_left _ _ hb0, Nat.div_eq_of_lt hrb, Nat.zero_add]
      have hr : rest = R := by rw [← HR.out, hv, Nat.mul_add_mod, Nat.mod_eq_of_lt hrb]
      have hm1 := made_fresh false (some ⟨g, 0, none⟩) l.length qs wr hrd (by omega)
      rw [hq, hlen] at hm1
      simp only [Bool.false_eq_true, if_false] at hm1
      have hrest : rest < 4294967296 := by omega
      have hm2 : ∀ W ad, Rd W (some ad) [rest] → Calls Tryd.prog 70 #[.bool false, .slice (some ad) 1 1] W (RetZ (R : Int) W) := fun W ad h => by
        have := made_calls false (some ad) 1 [rest] W h (Nat.le_refl _)
        rwa [show val [rest] = R from by rw [← hr]; show rest + 4294967296 * 0 = rest; omega, if_neg (by decide)] at this
      have hwd : Words [rest] := words_cons.2 ⟨hrest, words_nil⟩
      clear hval hv hq hlen harr hr h0
      go_wp2_with first
        | (go_at_call 70; have hmark := mk1; refine (hm2 _ _ (arr_rd (arr_new w3 [rest]) hwd (by simp))).mono ?_; rintro e w5 ⟨s5, A5, c5, l5, rfl, z5, n5, f5, b5⟩; have b34 := ((Below.refl _ w3).alloc (Nat.le_refl _) (.cells (warr [rest]) 72)).trans (b5.mono (by simp)); have bb5 := (hbl.trans (b3.mono hbl.size)).trans (b34.mono (Nat.le_trans hbl.size b3.size)); have f3' := f3.on b34; have hq5 := hR.on bb5; have e0 := cell_at hq5.h 0 _ rfl; have e1 := cell_at hq5.h 1 _ rfl; have e2 := cell_at hq5.h 2 _ rfl; have e3 := cell_at hq5.h 3 _ rfl; have u0 := frozen_at hq5.h 0; have u1 := frozen_at hq5.h 1; have u2 := frozen_at hq5.h 2; have u3 := frozen_at hq5.h 3)
        | (go_at_call 70; refine hm1.mono ?_; rintro e w3 ⟨s3, A3, c3, l3, rfl, z3, n3, f3, b3, fr3⟩; have mk1 : True := trivial)
      have nw1 := f3'.ne hq5.h (by intro i x h; rcases i with _ | _ | _ | _ | i <;> simp at h)
      have nw2 := f5.ne hq5.h (by intro i x h; rcases i with _ | _ | _ | _ | i <;> simp at h)
      have bw := hb1.trans (bb5.mono hb1.size)
      exact ret_cellS rfl Tryd.underlying32 parts_size rfl rfl (set4 hq5.h _ _ _ _) rfl ⟨s3, A3, c3, l3, s5, A5, c5, l5, rfl, z3, z5, n3, n5, (((f3'.setNe nw1).setNe nw1).setNe nw1).setNe nw1, (((f5.setNe nw2).setNe nw2).setNe nw2).setNe nw2, (((bw.setCell (Nat.le_refl _) _).setCell (Nat.le_refl _) _).setCell (Nat.le_refl _) _).setCell (Nat.le_refl _) _, fun b o e h => Nat.le_trans (Nat.le_trans hb1.size hbl.size) (fr3 b o e h)⟩


theorem told_size : (Tryd.prog.info? 50).map (·.size) = some 2 := by kernel_rfl

/-- a text of the specification, or an error -/
def RetTold (S : ByteArray) (er : Int) (w : World) (e : Ending) (w' : World) : Prop := e = .returned (.agg #[.string S, .int .i64 er]) ∧ Below w.heap.size w w'

theorem own_lt {w : World} {base n : Nat} {e : TypeId} {v : Value} {xs : List Value} (h : w.ownsRow base e 1 v n xs) : ∀ j, v.ownBlock = some j → j < w.heap.size := by
  intro j e
  rcases h.2 with ⟨rfl, rfl⟩ | ⟨g, cap, cur, rfl, hb, hg, _⟩
  · cases e
  · cases e; exact (Array.getElem?_eq_some_iff.1 hg).1
theorem rd_apart {w w' : World} {row : Option Nat} {A : Option Addr} {l : List Nat} (h : Rd w A l) (hg : w.grownBy w' row) (hne : ∀ b o, A = some ⟨b, o, none⟩ → 0 < l.length → row ≠ some b) : Rd w' A l :=
  ⟨fun i hi => by
    obtain ⟨b, o, e, hc⟩ := h.cell i hi
    refine ⟨b, o, e, (World.cell?_of_block (hg.block b (World.block_lt_of_cell? w _ hc) ?_)).trans hc⟩
    intro e'; exact hne b o e (by omega) e'.symm, h.words, h.small⟩
theorem blk_apart {w w' : World} {row : Option Nat} {g : Nat} {o : Obj} (h : w.heap[g]? = some o) (hg : w.grownBy w' row) (hne : row ≠ some g) : w'.heap[g]? = some o :=
  (hg.block g (Array.getElem?_eq_some_iff.1 h).1 (fun e => hne e.symm)).trans h
theorem rdB_on {W W' : World} {B g : Nat} {l : List Nat} (h : RdB W g l) (hb : Below B W W') (hg : g < B) : RdB W' g l := fun i hi => by
  have hc : W'.heap[g]? = W.heap[g]? := hb.block g hg
  refine ⟨(World.cell?_of_block hc).trans (h i hi).1, ?_⟩
  have := (h i hi).2
  simp only [World.frozen?] at this ⊢
  rw [hc]; exact this
theorem cell_new8 (W : World) (v : Value) (H : Nat) (hH : W.heap.size = H) : ∀ j u, ([v] : List Value)[j]? = some u → (W.alloc (.cells #[v] 5)).cell? ((⟨H, 0, none⟩ : Addr).add j) = some u := by
  intro j u hj
  subst hH
  rcases j with _ | j
  · have : (⟨W.heap.size, 0, none⟩ : Addr).add 0 = ⟨W.heap.size, 0, none⟩ := by unfold Addr.add; split <;> simp_all
    rw [this]
    have h := cell_at (World.alloc_heap_new W (.cells #[v] 5)) 0 v rfl
    simp at hj
    rw [← hj]; exact h
  · simp at hj
theorem own_set {w : World} {base n g i : Nat} {e : TypeId} {v x : Value} {xs : List Value} (h : w.ownsRow base e 1 v n xs) (hg : g < base) : (w.setCell ⟨g, i, none⟩ x).ownsRow base e 1 v n xs := by
  refine ⟨h.1, ?_⟩
  rcases h.2 with hn | ⟨g', cap, cur, rfl, h1, h2, h3⟩
  · exact .inl hn
  · exact .inr ⟨g', cap, cur, rfl, h1, (Below.heap_setCell _ _ _ g' (by dsimp only; omega)).trans h2, h3⟩
theorem take_rev {l : List Nat} {k : Nat} (hk : k < l.length) : (l.take (k + 1)).reverse = l.getD k 0 :: (l.take k).reverse := by
  rw [List.take_succ_eq_append_getElem hk, List.reverse_append, List.getD_eq_getElem?_getD, List.getElem?_eq_getElem hk]
  rfl
theorem lim_get0 {r : Nat} (h : r < 4294967296) : (lim r).getD 0 0 = r := by
  rcases Nat.eq_zero_or_pos r with h0 | h0
  · subst h0; rw [lim_zero]; rfl
  · rw [one_word h0 h]; rfl
theorem idx_digit (r : Nat) (h : r < 36) (W : World) : Sem.run Tryd.prog (Instr.index 9 (.string ⟨#[48, 49, 50, 51, 52, 53, 54, 55, 56, 57, 97, 98, 99, 100, 101, 102, 103, 104, 105, 106, 107, 108, 109, 110, 111, 112, 113, 114, 115, 116, 117, 118, 119, 120, 121, 122]⟩) (.int .u64 (r : Int))) W = .ok (.int .u8 ((chr r : Nat) : Int)) W := by
  obtain rfl | rfl | rfl | rfl | rfl | rfl | rfl | rfl | rfl | rfl | rfl | rfl | rfl | rfl | rfl | rfl | rfl | rfl | rfl | rfl | rfl | rfl | rfl | rfl | rfl | rfl | rfl | rfl | rfl | rfl | rfl | rfl | rfl | rfl | rfl | rfl := show r = 0 ∨ r = 1 ∨ r = 2 ∨ r = 3 ∨ r = 4 ∨ r = 5 ∨ r = 6 ∨ r = 7 ∨ r = 8 ∨ r = 9 ∨ r = 10 ∨ r = 11 ∨ r = 12 ∨ r = 13 ∨ r = 14 ∨ r = 15 ∨ r = 16 ∨ r = 17 ∨ r = 18 ∨ r = 19 ∨ r = 20 ∨ r = 21 ∨ r = 22 ∨ r = 23 ∨ r = 24 ∨ r = 25 ∨ r = 26 ∨ r = 27 ∨ r = 28 ∨ r = 29 ∨ r = 30 ∨ r = 31 ∨ r = 32 ∨ r = 33 ∨ r = 34 ∨ r = 35 by omega
  all_goals kernel_rfl

set_option maxRecDepth 100000 in
set_option maxHeartbeats 8000000 in
theorem RText_pos (n1 : Bool) (b : Nat) (A : Option Addr) (c : Nat) (l : List Nat) (w : World) (h1 : Rd w A l) (hc1 : l.length ≤ c) (hok : okI n1 l = true) (hb1 : 2 ≤ b) (hb2 : b ≤ 36) (hl0 : 0 < l.length) :
    Calls Tryd.prog 32 #[iv n1 A l.length c, .int .i64 (b : Int)] w (RetTold (strB (textL n1 b (val l))) 0 w) := by
  obtain ⟨i0, hi, hz0, hz1, hz2⟩ := info_parts info_u8
  have hbt := underl_bytes
  have hbb : ∀ a b, Below w.heap.size w ((w.alloc a).alloc b) := fun a b => two_below _ _
  obtain ⟨W2, hW2⟩ : ∃ W2, (w.alloc (.cells #[.bool n1, .slice A l.length c] 24)).alloc (.cells #[.string ⟨#[]⟩, .int .i64 0] 50) = W2 := ⟨_, rfl⟩
  have hb : Below w.heap.size w W2 := by rw [← hW2]; exact hbb _ _
  have B1 : IntBox W2 w.heap.size n1 A c l := ⟨by rw [← hW2]; exact (two_old w _ _ rfl).h, h1.on hb, hc1⟩
  have hR : Blk W2 (w.heap.size + 1) #[.string ⟨#[]⟩, .int .i64 0] 50 := ⟨by rw [← hW2]; exact two_blk w _ _⟩
  have hfo := Formed_is n1 A c l W2 B1.rd hc1 true hok
  have k1 := okI_isInt h1.words hok
  have hs1 := k1.small
  have x0 := cell_at B1.blk 0 _ rfl
  have x1 := cell_at B1.blk 1 _ rfl
  obtain ⟨N, hN⟩ : ∃ N, val l = N := ⟨_, rfl⟩
  have hN0 : 0 < N := by rw [← hN]; exact val_pos_of_canon k1.canon (fun e => by rw [e] at hl0; simp at hl0)
  have hmd : ∀ W, Rd W A l → Calls Tryd.prog 70 #[.bool false, .slice A l.length c] W (RetZ (N : Int) W) := fun W h => by
    have h := made_calls false A c l W h hc1
    rwa [hN, if_neg (by decide)] at h
  have hNb : Hid ((digs b N).length ≤ 9600) := Nat.le_trans (digs_length hb1 (32 * l.length) N (by rw [← hN]; exact val_bits h1.words)) (by omega)
  have hNs : Hid (∀ x, x ≤ N → (lim x).length ≤ 300) := fun x hx => Nat.le_trans (length_mono hx) (by rw [← hN, lim_val k1.canon]; exact hs1)
  have hdl36 : Hid (∀ y ∈ (digs b N).map chr, y < 256) := by
    intro y hy
    rw [List.mem_map] at hy
    obtain ⟨d, hd, rfl⟩ := hy
    have := chr_lt (Nat.lt_of_lt_of_le (digs_lt hb1 N d hd) hb2)
    omega
  have HT : Hid (textL n1 b N = (if n1 then [45] else []) ++ ((digs b N).map chr).reverse) := if_neg (by omega)
  rw [hN]
  have hz0' : ((l.length : Int) == 0) = false := by rw [beq_eq_false_iff_ne]; omega
  have hz1' : (l.length == 0) = false := by rw [beq_eq_false_iff_ne]; omega
  have hwu : IntKind.u32.wrap (b : Int) = (b : Int) := by simp [IntKind.wrap, IntKind.bits, IntKind.signed]; omega
  clear hN
  cases n1
  · go_enter Tryd.func32, Tryd.ntmps32
    go_wp2_with first
      | (go_at_call 70; refine (hmd _ ((B1.on b2).rd)).mono ?_; rintro e w3 ⟨s3, A3, c3, l3, rfl, z3, n3, r3, b3⟩)
      | (go_at_call 16; refine hfo.mono ?_; rintro e w2 ⟨rfl, b2⟩; have v0 := cell_at (B1.on b2).blk 0 _ rfl; have v1 := cell_at (B1.on b2).blk 1 _ rfl)
    have bV := b2.trans (b3.mono b2.size)
    have B1V := B1.on bV
    have hRV := hR.on bV
    have bs := al1 w3 (.cells #[.bool s3, .slice A3 l3.length c3] 24)
    have H0 : HoldsZ (w3.alloc (.cells #[.bool s3, .slice A3 l3.length c3] 24)) w3.heap.size s3 A3 c3 l3 (N : Int) := ⟨⟨World.alloc_heap_new w3 _⟩, z3, r3.on bs, n3⟩
    clear hfo hmd b2 b3 r3 z3 hW2 v0 v1 x0 x1 hR B1
    go_loopw [5] (fun ov W => ∃ (ds : List Nat) (x : Nat) (s : Bool) (A' : Option Addr) (c' : Nat) (l' : List Nat), HoldsZ W w3.heap.size s A' c' l' (x : Int) ∧ x ≤ N ∧ W.ownsRow (w3.heap.size + 1) 5 1 ov ds.length (bvals ds) ∧ Below w3.heap.size w3 W ∧ w3.heap.size < W.heap.size ∧ Hid (ds ++ (digs b x).map chr = (digs b N).map chr) ∧ Hid (∀ p o, A' = some ⟨p, o, none⟩ → 0 < l'.length → ov.ownBlock ≠ some p)) (fun _ W => cellVal w3.heap.size W)
    case atStart => exact ⟨[], N, s3, A3, c3, l3, H0, Nat.le_refl _, World.ownsRow_nil _ _ _ _, bs, by simp, List.nil_append _, fun _ _ _ _ h => by cases h⟩
    case round =>
      clear H0 bs
      obtain ⟨ds, x, s, A', c', l', hH, hxN, hown, hbl, hlt, hds, hap⟩ := hrel
      have y0 := cell_at hH.blk.h 0 _ rfl
      have y1 := cell_at hH.blk.h 1 _ rfl
      have hl3 : l'.length ≤ 300 := hH.isz.len_le (by rw [Int.natAbs_natCast]; exact hNs.out x hxN)
      by_cases hx : 0 < x
      · have hxl : 0 < l'.length := by rw [hH.isz.abs, Int.natAbs_natCast]; exact lim_length_pos hx
        have hxI : (0 : Int) < (l'.length : Int) := by omega
        have hsh := short_fresh A' c' b l' wr hH.rd hH.cap (by omega) (by omega) (by omega)
        have hdp := digs_pos hb1 hx
        rw [hH.isz.val, Int.natAbs_natCast] at hsh
        have hqx : x / b < x := Nat.div_lt_self hx hb1
        have hrb : x % b < b := Nat.mod_lt _ (by omega)
        obtain ⟨q, hq⟩ : ∃ q, x / b = q := ⟨_, rfl⟩
        obtain ⟨r, hr⟩ : ∃ q, x % b = q := ⟨_, rfl⟩
        rw [hq, hr] at hsh hdp
        rw [hq] at hqx
        rw [hr] at hrb
        have hr36 : r < 36 := by omega
        have hix := idx_digit r hr36
        have hzl := chr_lt hr36
        obtain ⟨z, hz⟩ : ∃ z, chr r = z := ⟨_, rfl⟩
        have hds2 := hds.out
        rw [hdp, List.map_cons, hz] at hds2
        rw [hz] at hix hzl
        have Hds2 : Hid ((ds ++ [z]) ++ (digs b q).map chr = (digs b N).map chr) := by show _ = _; rw [List.append_assoc]; exact hds2
        have hdl : ds.length < 10000 := by
          have := congrArg List.length hds2
          rw [List.length_append, List.length_map] at this
          have h2 := hNb.out
          omega
        have Hr := Lib.hid hH
        have Hqx := Lib.hid hqx
        have hob := own_base8 hown
        have hol := own_lt hown
        clear hq hr hz hds2 hdp hqx hds hH
        go_wp2_with (go_at_call 85; refine hsh.mono ?_; rintro e w5 ⟨s5, A5, c5, l5, s6, A6, c6, l6, rfl, z5, z6, n5, n6, r5, r6, b5, fr5⟩; have bP := al1 w5 (.cells #[.bool s5, .slice A5 l5.length c5, .bool s6, .slice A6 l6.length c6] 32); have hP := World.alloc_heap_new w5 (.cells #[.bool s5, .slice A5 l5.length c5, .bool s6, .slice A6 l6.length c6] 32))
        obtain ⟨X, hX⟩ : ∃ X, w5.alloc (.cells #[.bool s5, .slice A5 l5.length c5, .bool s6, .slice A6 l6.length c6] 32) = X := ⟨_, rfl⟩
        have hXs : X.heap.size = w5.heap.size + 1 := by rw [← hX]; simp
        rw [hX] at hP bP ⊢
        clear hX
        have hl6 : l6.getD 0 0 = r := by rw [z6.abs, Int.natAbs_natCast]; exact lim_get0 (by omega)
        refine (limb_calls A6 c6 0 r l6 X (r6.on bP) n6 hl6).mono ?_
        rintro e w' ⟨rfl, rfl⟩
        have hlen5 := b5.size
        have hownX := own_on hown (b5.trans (bP.mono b5.size))
        have hbX := hbl.trans ((b5.trans (bP.mono b5.size)).mono hbl.size)
        have hXs2 := hbX.size
        have bO := al1 X (.cells #[.int .u8 (z : Int)] 5)
        have hGX := (Hr.out.on b5).on bP
        have r5X := (r5.on bP).on bO
        have hPO := (bO.block w5.heap.size (by omega)).trans hP
        have hGO := (hGX.on bO).blk.h
        clear y0 y1 hl6 hP
        go_wp2_with (at_builtin; (refine wpList_append_own_at _ rfl _ _ 106 rfl (w3.heap.size + 1) 5 i0 (.int .u8 0) 1 1 hbt hi hz0 hz1 hz2 rfl (by decide) _ _ _ rfl (hownX.alloc _) ⟨w5.heap.size + 1, 0, none⟩ 1 1 [.int .u8 (z : Int)] rfl rfl (cell_new8 X _ _ hXs) (by simp [Value.oneCell']) (by unfold maxLen; omega) (by omega) (by simp; omega) ?_); intro v' w6 hown6 hg6 _ hat6; have hP6 := blk_apart hPO hg6 (fun e => by have := hol _ e; omega); have hG6 := blk_apart hGO hg6 (fun e => by have := hob _ e; omega); have p0 := cell_at hP6 0 _ rfl; have p1 := cell_at hP6 1 _ rfl; have q0 := cell_at hG6 0 _ rfl; have q1 := cell_at hG6 1 _ rfl; have q2 := frozen_at hG6 0; have q3 := frozen_at hG6 1)
        have r56 := rd_apart r5X hg6 (fun p o e h e' => by have h1 := fr5 p o e h; have h2 := hol p e'; omega)
        have hS := holds_set ⟨hG6⟩ (by simp) (by simp) z5 r56 n5
        have hb6 := (hbX.alloc hbX.size (.cells #[.int .u8 (z : Int)] 5)).grown hg6 (by simp; omega) (fun j e => by have := hob j e; omega)
        refine ⟨⟨ds ++ [z], q, s5, A5, c5, l5, hS, by have := Hqx.out; omega, ?_, (hb6.setCell (Nat.le_refl _) _).setCell (Nat.le_refl _) _, ?_, Hds2, ?_⟩, ?_⟩
        · rw [List.length_append, bvals_append]
          exact own_set (own_set hown6 (Nat.lt_succ_self _)) (Nat.lt_succ_self _)
        · have := (Array.getElem?_eq_some_iff.1 hG6).1
          simpa [World.setCell] using this
        · intro p o e h
          obtain ⟨p', o', e', hc'⟩ := r5.cell 0 h
          rw [e] at e'
          cases e'
          have h1 := World.block_lt_of_cell? w5 _ hc'
          have h2 := fr5 p o e h
          have h3 : (X.alloc (.cells #[.int .u8 (z : Int)] 5)).heap.size = w5.heap.size + 2 := by simp [hXs]
          have h1' : p < w5.heap.size := h1
          rcases hat6 with hh | hh
          · rw [hh]; intro e'; have := hol p e'; omega
          · rw [hh, h3]; intro e'; cases e'; omega
        · rw [cellVal_eq hS, cellVal_eq Hr.out, Int.natAbs_natCast, Int.natAbs_natCast]
          exact Hqx.out
      · obtain rfl : x = 0 := by omega
        have hl0' : l'.length = 0 := by rw [hH.isz.abs]; exact congrArg List.length lim_zero
        have hlI : ¬ (0 : Int) < (l'.length : Int) := by omega
        have hlN : ¬ 0 < l'.length := by omega
        have hE := hds.out
        rw [digs_zero, List.map_nil, List.append_nil] at hE
        have hd0 : 0 < ds.length := by rw [hE, List.length_map, digs_pos hb1 hN0]; exact Nat.succ_pos _
        have hdl : ds.length < 10000 := by rw [hE, List.length_map]; have := hNb.out; omega
        have hlt36 : Hid (∀ y ∈ ds, y < 256) := by rw [hE]; exact hdl36.out
        have hTx := HT.out
        rw [← hE] at hTx
        have HTx := Lib.hid hTx
        obtain ⟨g, co, rfl, -, -, hbg, hgl, hRB⟩ := own_bytes hown hd0
        have B1w := B1V.on hbl
        have hRw := hRV.on hbl
        have z0 := cell_at B1w.blk 0 _ rfl
        have z1 := cell_at B1w.blk 1 _ rfl
        have hds0 : ((ds.length : Int) - 1) = ((ds.length : Int) - 1) := rfl
        clear hE hds hl0' hTx hown hap hdl36 HT
        obtain ⟨V, rfl⟩ : ∃ V : World, V = wr := ⟨_, rfl⟩
        go_wp2_with fail
        go_loopw [8, 9] (fun ov iv W => ∃ (k : Nat) (es : List Nat), iv = .int .i64 ((k : Int) - 1) ∧ k ≤ ds.length ∧ es.length + k ≤ ds.length + 1 ∧ W.ownsRow V.heap.size 5 1 ov es.length (bvals es) ∧ Below V.heap.size V W ∧ Hid (es ++ (ds.take k).reverse = ([] : List Nat) ++ ds.reverse)) (fun _ iv _ => (intOf iv + 1).toNat)
        case atStart => exact ⟨ds.length, ([] : List Nat), rfl, Nat.le_refl _, by simp <;> omega, World.ownsRow_nil _ _ _ _, Below.refl _ _, by show _ = _; rw [List.take_length]⟩
        case round =>
          obtain ⟨k, es, rfl, hk, hkl, hown2, hbl2, htx⟩ := hrel
          have hRB2 := rdB_on hRB hbl2 hgl
          by_cases h0 : 0 < k
          · obtain ⟨k, rfl⟩ : ∃ j, k = j + 1 := ⟨k - 1, by omega⟩
            rw [show ((k + 1 : Nat) : Int) - 1 = (k : Int) by omega]
            obtain ⟨hc1, hc2⟩ := hRB2 k (by omega)
            have htr := take_rev (l := ds) (k := k) (by omega)
            obtain ⟨z, hz⟩ : ∃ z, ds.getD k 0 = z := ⟨_, rfl⟩
            rw [hz] at hc1 htr
            have htx2 := htx.out
            rw [htr] at htx2
            have Htx2 : Hid ((es ++ [z]) ++ (ds.take k).reverse = ([] : List Nat) ++ ds.reverse) := by show _ = _; rw [List.append_assoc]; exact htx2
            have hob2 := own_base8 hown2
            have hkI : (k : Int) < (ds.length : Int) := by omega
            clear hz htr htx2 htx h0 hRB2
            go_wp2_with (at_builtin; (refine wpList_append_own_at _ rfl _ _ 106 rfl V.heap.size 5 i0 (.int .u8 0) 1 1 hbt hi hz0 hz1 hz2 rfl (by decide) _ _ _ rfl (hown2.alloc _) ⟨wr.heap.size, 0, none⟩ 1 1 [.int .u8 (z : Int)] rfl rfl (cell_new8 wr _ _ rfl) (by simp [Value.oneCell']) (by unfold maxLen; omega) (by omega) (by have := hbl2.size; simp; omega) ?_); intro v' w7 hown7 hg7 _ _)
            refine ⟨⟨k, es ++ [z], rfl, by omega, by simp; omega, ?_, (hbl2.alloc hbl2.size _).grown hg7 (by have := hbl2.size; simp; omega) (fun j e => hob2 j e), Htx2⟩, by simp only [intOf]; omega⟩
            rw [List.length_append, bvals_append]; exact hown7
          · obtain rfl : k = 0 := by omega
            have ht := htx.out
            rw [List.take_zero, List.reverse_nil, List.append_nil] at ht
            have hel : 0 < es.length := by rw [ht, List.length_append, List.length_reverse]; omega
            obtain ⟨g2, co2, rfl, -, -, -, -, hRB3⟩ := own_bytes hown2 hel
            have hcv := conv_bytes wr g2 co2 es hRB3 (by
              rw [ht]; intro y hy
              rcases List.mem_append.1 hy with h | h
              · simp at h; try omega
              · exact hlt36.out y (List.mem_reverse.1 h))
            have hq := hRw.on (hbl2)
            have rz0 := cell_at hq.h 0 _ rfl
            have rz1 := cell_at hq.h 1 _ rfl
            have ru0 := frozen_at hq.h 0
            have ru1 := frozen_at hq.h 1
            have Ht := Lib.hid ht
            clear ht htx hkl hel h0
            go_wp2_with fail
            have bw := bV.trans ((hbl.trans (hbl2.mono hbl.size)).mono bV.size)
            exact ret_cellS rfl Tryd.underlying50 told_size rfl rfl (set_blk (set_blk hq.h 0 _) 1 _) rfl ⟨by rw [HTx.out, Ht.out]; rfl, ((hb.trans (bw.mono hb.size)).setCell (by dsimp only; omega) _).setCell (by dsimp only; omega) _⟩
  · go_enter Tryd.func32, Tryd.ntmps32
    go_wp2_with first
      | (go_at_call 70; refine (hmd _ ((B1.on b2).rd)).mono ?_; rintro e w3 ⟨s3, A3, c3, l3, rfl, z3, n3, r3, b3⟩)
      | (go_at_call 16; refine hfo.mono ?_; rintro e w2 ⟨rfl, b2⟩; have v0 := cell_at (B1.on b2).blk 0 _ rfl; have v1 := cell_at (B1.on b2).blk 1 _ rfl)
    have bV := b2.trans (b3.mono b2.size)
    have B1V := B1.on bV
    have hRV := hR.on bV
    have bs := al1 w3 (.cells #[.bool s3, .slice A3 l3.length c3] 24)
    have H0 : HoldsZ (w3.alloc (.cells #[.bool s3, .slice A3 l3.length c3] 24)) w3.heap.size s3 A3 c3 l3 (N : Int) := ⟨⟨World.alloc_heap_new w3 _⟩, z3, r3.on bs, n3⟩
    clear hfo hmd b2 b3 r3 z3 hW2 v0 v1 x0 x1 hR B1
    go_loopw [5] (fun ov W => ∃ (ds : List Nat) (x : Nat) (s : Bool) (A' : Option Addr) (c' : Nat) (l' : List Nat), HoldsZ W w3.heap.size s A' c' l' (x : Int) ∧ x ≤ N ∧ W.ownsRow (w3.heap.size + 1) 5 1 ov ds.length (bvals ds) ∧ Below w3.heap.size w3 W ∧ w3.heap.size < W.heap.size ∧ Hid (ds ++ (digs b x).map chr = (digs b N).map chr) ∧ Hid (∀ p o, A' = some ⟨p, o, none⟩ → 0 < l'.length → ov.ownBlock ≠ some p)) (fun _ W => cellVal w3.heap.size W)
    case atStart => exact ⟨[], N, s3, A3, c3, l3, H0, Nat.le_refl _, World.ownsRow_nil _ _ _ _, bs, by simp, List.nil_append _, fun _ _ _ _ h => by cases h⟩
    case round =>
      clear H0 bs
      obtain ⟨ds, x, s, A', c', l', hH, hxN, hown, hbl, hlt, hds, hap⟩ := hrel
      have y0 := cell_at hH.blk.h 0 _ rfl
      have y1 := cell_at hH.blk.h 1 _ rfl
      have hl3 : l'.length ≤ 300 := hH.isz.len_le (by rw [Int.natAbs_natCast]; exact hNs.out x hxN)
      by_cases hx : 0 < x
      · have hxl : 0 < l'.length := by rw [hH.isz.abs, Int.natAbs_natCast]; exact lim_length_pos hx
        have hxI : (0 : Int) < (l'.length : Int) := by omega
        have hsh := short_fresh A' c' b l' wr hH.rd hH.cap (by omega) (by omega) (by omega)
        have hdp := digs_pos hb1 hx
        rw [hH.isz.val, Int.natAbs_natCast] at hsh
        have hqx : x / b < x := Nat.div_lt_self hx hb1
        have hrb : x % b < b := Nat.mod_lt _ (by omega)
        obtain ⟨q, hq⟩ : ∃ q, x / b = q := ⟨_, rfl⟩
        obtain ⟨r, hr⟩ : ∃ q, x % b = q := ⟨_, rfl⟩
        rw [hq, hr] at hsh hdp
        rw [hq] at hqx
        rw [hr] at hrb
        have hr36 : r < 36 := by omega
        have hix := idx_digit r hr36
        have hzl := chr_lt hr36
        obtain ⟨z, hz⟩ : ∃ z, chr r = z := ⟨_, rfl⟩
        have hds2 := hds.out
        rw [hdp, List.map_cons, hz] at hds2
        rw [hz] at hix hzl
        have Hds2 : Hid ((ds ++ [z]) ++ (digs b q).map chr = (digs b N).map chr) := by show _ = _; rw [List.append_assoc]; exact hds2
        have hdl : ds.length < 10000 := by
          have := congrArg List.length hds2
          rw [List.length_append, List.length_map] at this
          have h2 := hNb.out
          omega
        have Hr := Lib.hid hH
        have Hqx := Lib.hid hqx
        have hob := own_base8 hown
        have hol := own_lt hown
        clear hq hr hz hds2 hdp hqx hds hH
        go_wp2_with (go_at_call 85; refine hsh.mono ?_; rintro e w5 ⟨s5, A5, c5, l5, s6, A6, c6, l6, rfl, z5, z6, n5, n6, r5, r6, b5, fr5⟩; have bP := al1 w5 (.cells #[.bool s5, .slice A5 l5.length c5, .bool s6, .slice A6 l6.length c6] 32); have hP := World.alloc_heap_new w5 (.cells #[.bool s5, .slice A5 l5.length c5, .bool s6, .slice A6 l6.length c6] 32))
        obtain ⟨X, hX⟩ : ∃ X, w5.alloc (.cells #[.bool s5, .slice A5 l5.length c5, .bool s6, .slice A6 l6.length c6] 32) = X := ⟨_, rfl⟩
        have hXs : X.heap.size = w5.heap.size + 1 := by rw [← hX]; simp
        rw [hX] at hP bP ⊢
        clear hX
        have hl6 : l6.getD 0 0 = r := by rw [z6.abs, Int.natAbs_natCast]; exact lim_get0 (by omega)
        refine (limb_calls A6 c6 0 r l6 X (r6.on bP) n6 hl6).mono ?_
        rintro e w' ⟨rfl, rfl⟩
        have hlen5 := b5.size
        have hownX := own_on hown (b5.trans (bP.mono b5.size))
        have hbX := hbl.trans ((b5.trans (bP.mono b5.size)).mono hbl.size)
        have hXs2 := hbX.size
        have bO := al1 X (.cells #[.int .u8 (z : Int)] 5)
        have hGX := (Hr.out.on b5).on bP
        have r5X := (r5.on bP).on bO
        have hPO := (bO.block w5.heap.size (by omega)).trans hP
        have hGO := (hGX.on bO).blk.h
        clear y0 y1 hl6 hP
        go_wp2_with (at_builtin; (refine wpList_append_own_at _ rfl _ _ 106 rfl (w3.heap.size + 1) 5 i0 (.int .u8 0) 1 1 hbt hi hz0 hz1 hz2 rfl (by decide) _ _ _ rfl (hownX.alloc _) ⟨w5.heap.size + 1, 0, none⟩ 1 1 [.int .u8 (z : Int)] rfl rfl (cell_new8 X _ _ hXs) (by simp [Value.oneCell']) (by unfold maxLen; omega) (by omega) (by simp; omega) ?_); intro v' w6 hown6 hg6 _ hat6; have hP6 := blk_apart hPO hg6 (fun e => by have := hol _ e; omega); have hG6 := blk_apart hGO hg6 (fun e => by have := hob _ e; omega); have p0 := cell_at hP6 0 _ rfl; have p1 := cell_at hP6 1 _ rfl; have q0 := cell_at hG6 0 _ rfl; have q1 := cell_at hG6 1 _ rfl; have q2 := frozen_at hG6 0; have q3 := frozen_at hG6 1)
        have r56 := rd_apart r5X hg6 (fun p o e h e' => by have h1 := fr5 p o e h; have h2 := hol p e'; omega)
        have hS := holds_set ⟨hG6⟩ (by simp) (by simp) z5 r56 n5
        have hb6 := (hbX.alloc hbX.size (.cells #[.int .u8 (z : Int)] 5)).grown hg6 (by simp; omega) (fun j e => by have := hob j e; omega)
        refine ⟨⟨ds ++ [z], q, s5, A5, c5, l5, hS, by have := Hqx.out; omega, ?_, (hb6.setCell (Nat.le_refl _) _).setCell (Nat.le_refl _) _, ?_, Hds2, ?_⟩, ?_⟩
        · rw [List.length_append, bvals_append]
          exact own_set (own_set hown6 (Nat.lt_succ_self _)) (Nat.lt_succ_self _)
        · have := (Array.getElem?_eq_some_iff.1 hG6).1
          simpa [World.setCell] using this
        · intro p o e h
          obtain ⟨p', o', e', hc'⟩ := r5.cell 0 h
          rw [e] at e'
          cases e'
          have h1 := World.block_lt_of_cell? w5 _ hc'
          have h2 := fr5 p o e h
          have h3 : (X.alloc (.cells #[.int .u8 (z : Int)] 5)).heap.size = w5.heap.size + 2 := by simp [hXs]
          have h1' : p < w5.heap.size := h1
          rcases hat6 with hh | hh
          · rw [hh]; intro e'; have := hol p e'; omega
          · rw [hh, h3]; intro e'; cases e'; omega
        · rw [cellVal_eq hS, cellVal_eq Hr.out, Int.natAbs_natCast, Int.natAbs_natCast]
          exact Hqx.out
      · obtain rfl : x = 0 := by omega
        have hl0' : l'.length = 0 := by rw [hH.isz.abs]; exact congrArg List.length lim_zero
        have hlI : ¬ (0 : Int) < (l'.length : Int) := by omega
        have hlN : ¬ 0 < l'.length := by omega
        have hE := hds.out
        rw [digs_zero, List.map_nil, List.append_nil] at hE
        have hd0 : 0 < ds.length := by rw [hE, List.length_map, digs_pos hb1 hN0]; exact Nat.succ_pos _
        have hdl : ds.length < 10000 := by rw [hE, List.length_map]; have := hNb.out; omega
        have hlt36 : Hid (∀ y ∈ ds, y < 256) := by rw [hE]; exact hdl36.out
        have hTx := HT.out
        rw [← hE] at hTx
        have HTx := Lib.hid hTx
        obtain ⟨g, co, rfl, -, -, hbg, hgl, hRB⟩ := own_bytes hown hd0
        have B1w := B1V.on hbl
        have hRw := hRV.on hbl
        have z0 := cell_at B1w.blk 0 _ rfl
        have z1 := cell_at B1w.blk 1 _ rfl
        have hds0 : ((ds.length : Int) - 1) = ((ds.length : Int) - 1) := rfl
        clear hE hds hl0' hTx hown hap hdl36 HT
        obtain ⟨V, rfl⟩ : ∃ V : World, V = wr := ⟨_, rfl⟩
        go_wp2_with (at_builtin; (refine wpList_append_own_at _ rfl _ _ 106 rfl V.heap.size 5 i0 (.int .u8 0) 1 1 hbt hi hz0 hz1 hz2 rfl (by decide) _ _ _ rfl ((World.ownsRow_nil V V.heap.size 5 1).alloc _) ⟨V.heap.size, 0, none⟩ 1 1 [.int .u8 45] rfl rfl (cell_new8 V _ _ rfl) (by simp [Value.oneCell']) (by unfold maxLen; omega) (by omega) (by simp) ?_); intro v' w7 hown7 hg7 _ _)
        have hb7 := (al1 V (.cells #[.int .u8 45] 5)).grown hg7 (by simp) (fun j e => by cases e)
        go_loopw [8, 9] (fun ov iv W => ∃ (k : Nat) (es : List Nat), iv = .int .i64 ((k : Int) - 1) ∧ k ≤ ds.length ∧ es.length + k ≤ ds.length + 1 ∧ W.ownsRow V.heap.size 5 1 ov es.length (bvals es) ∧ Below V.heap.size V W ∧ Hid (es ++ (ds.take k).reverse = [45] ++ ds.reverse)) (fun _ iv _ => (intOf iv + 1).toNat)
        case atStart => exact ⟨ds.length, [45], rfl, Nat.le_refl _, by simp <;> omega, by exact hown7, hb7, by show _ = _; rw [List.take_length]⟩
        case round =>
          obtain ⟨k, es, rfl, hk, hkl, hown2, hbl2, htx⟩ := hrel
          have hRB2 := rdB_on hRB hbl2 hgl
          by_cases h0 : 0 < k
          · obtain ⟨k, rfl⟩ : ∃ j, k = j + 1 := ⟨k - 1, by omega⟩
            rw [show ((k + 1 : Nat) : Int) - 1 = (k : Int) by omega]
            obtain ⟨hc1, hc2⟩ := hRB2 k (by omega)
            have htr := take_rev (l := ds) (k := k) (by omega)
            obtain ⟨z, hz⟩ : ∃ z, ds.getD k 0 = z := ⟨_, rfl⟩
            rw [hz] at hc1 htr
            have htx2 := htx.out
            rw [htr] at htx2
            have Htx2 : Hid ((es ++ [z]) ++ (ds.take k).reverse = [45] ++ ds.reverse) := by show _ = _; rw [List.append_assoc]; exact htx2
            have hob2 := own_base8 hown2
            have hkI : (k : Int) < (ds.length : Int) := by omega
            clear hz htr htx2 htx h0 hRB2
            go_wp2_with (at_builtin; (refine wpList_append_own_at _ rfl _ _ 106 rfl V.heap.size 5 i0 (.int .u8 0) 1 1 hbt hi hz0 hz1 hz2 rfl (by decide) _ _ _ rfl (hown2.alloc _) ⟨wr.heap.size, 0, none⟩ 1 1 [.int .u8 (z : Int)] rfl rfl (cell_new8 wr _ _ rfl) (by simp [Value.oneCell']) (by unfold maxLen; omega) (by omega) (by have := hbl2.size; simp; omega) ?_); intro v' w7 hown7 hg7 _ _)
            refine ⟨⟨k, es ++ [z], rfl, by omega, by simp; omega, ?_, (hbl2.alloc hbl2.size _).grown hg7 (by have := hbl2.size; simp; omega) (fun j e => hob2 j e), Htx2⟩, by simp only [intOf]; omega⟩
            rw [List.length_append, bvals_append]; exact hown7
          · obtain rfl : k = 0 := by omega
            have ht := htx.out
            rw [List.take_zero, List.reverse_nil, List.append_nil] at ht
            have hel : 0 < es.length := by rw [ht, List.length_append, List.length_reverse]; omega
            obtain ⟨g2, co2, rfl, -, -, -, -, hRB3⟩ := own_bytes hown2 hel
            have hcv := conv_bytes wr g2 co2 es hRB3 (by
              rw [ht]; intro y hy
              rcases List.mem_append.1 hy with h | h
              · simp at h; try omega
              · exact hlt36.out y (List.mem_reverse.1 h))
            have hq := hRw.on (hbl2)
            have rz0 := cell_at hq.h 0 _ rfl
            have rz1 := cell_at hq.h 1 _ rfl
            have ru0 := frozen_at hq.h 0
            have ru1 := frozen_at hq.h 1
            have Ht := Lib.hid ht
            clear ht htx hkl hel h0
            go_wp2_with fail
            have bw := bV.trans ((hbl.trans (hbl2.mono hbl.size)).mono bV.size)
            exact ret_cellS rfl Tryd.underlying50 told_size rfl rfl (set_blk (set_blk hq.h 0 _) 1 _) rfl ⟨by rw [HTx.out, Ht.out]; rfl, ((hb.trans (bw.mono hb.size)).setCell (by dsimp only; omega) _).setCell (by dsimp only; omega) _⟩

end Nm
end Go.Proofs.YtlhmbbpkhahbeaaDoor
namespace Go.Proofs.YtlhmbbpkhahbeaaDoor
namespace Nm
open Go.RowKit Go.Shelf Go.BigFrame
attribute [local go_sem] Oper.semAt_some

set_option maxRecDepth 100000 in
set_option maxHeartbeats 2000000 in
theorem RText_bad (n1 : Bool) (n : Int) (A : Option Addr) (c : Nat) (l : List Nat) (w : World) (h1 : Rd w A l) (hc1 : l.length ≤ c) (hbad : okI n1 l = false ∨ (okI n1 l = true ∧ (n < 2 ∨ (¬ n < 2 ∧ 36 < n)))) :
    Calls Tryd.prog 32 #[iv n1 A l.length c, .int .i64 n] w (RetTold ⟨#[]⟩ 1 w) := by
  obtain ⟨W2, hW2⟩ : ∃ W2, (w.alloc (.cells #[.bool n1, .slice A l.length c] 24)).alloc (.cells #[.string ⟨#[]⟩, .int .i64 0] 50) = W2 := ⟨_, rfl⟩
  have hb : Below w.heap.size w W2 := by rw [← hW2]; exact two_below _ _
  have B1 : IntBox W2 w.heap.size n1 A c l := ⟨by rw [← hW2]; exact (two_old w _ _ rfl).h, h1.on hb, hc1⟩
  have hR : Blk W2 (w.heap.size + 1) #[.string ⟨#[]⟩, .int .i64 0] 50 := ⟨by rw [← hW2]; exact two_blk w _ _⟩
  have hfo := Formed_calls n1 A c l W2 B1.rd hc1
  have x0 := cell_at B1.blk 0 _ rfl
  have x1 := cell_at B1.blk 1 _ rfl
  rcases hbad with hk | ⟨hk, hn | ⟨hn, hn'⟩⟩
  all_goals
    rw [hk] at hfo
    clear hk
    go_enter Tryd.func32, Tryd.ntmps32
    go_wp2_with (go_at_call 16; refine hfo.mono ?_; rintro e w4 ⟨rfl, b4⟩; have rq := hR.on b4; have rz0 := cell_at rq.h 0 _ rfl; have rz1 := cell_at rq.h 1 _ rfl; have ru0 := frozen_at rq.h 0; have ru1 := frozen_at rq.h 1)
    exact ret_cellS rfl Tryd.underlying50 told_size rfl rfl (set_blk (set_blk rq.h 0 _) 1 _) rfl ⟨rfl, ((hb.trans (b4.mono hb.size)).setCell (by dsimp only; omega) _).setCell (by dsimp only; omega) _⟩

set_option maxRecDepth 100000 in
set_option maxHeartbeats 2000000 in
theorem RText_zero (n1 : Bool) (b : Nat) (A : Option Addr) (c : Nat) (l : List Nat) (w : World) (h1 : Rd w A l) (hc1 : l.length ≤ c) (hok : okI n1 l = true) (hb1 : 2 ≤ b) (hb2 : b ≤ 36) (hl0 : l.length = 0) :
    Calls Tryd.prog 32 #[iv n1 A l.length c, .int .i64 (b : Int)] w (RetTold (strB [48]) 0 w) := by
  obtain ⟨W2, hW2⟩ : ∃ W2, (w.alloc (.cells #[.bool n1, .slice A l.length c] 24)).alloc (.cells #[.string ⟨#[]⟩, .int .i64 0] 50) = W2 := ⟨_, rfl⟩
  have hb : Below w.heap.size w W2 := by rw [← hW2]; exact two_below _ _
  have B1 : IntBox W2 w.heap.size n1 A c l := ⟨by rw [← hW2]; exact (two_old w _ _ rfl).h, h1.on hb, hc1⟩
  have hR : Blk W2 (w.heap.size + 1) #[.string ⟨#[]⟩, .int .i64 0] 50 := ⟨by rw [← hW2]; exact two_blk w _ _⟩
  have hfo := Formed_is n1 A c l W2 B1.rd hc1 true hok
  have x0 := cell_at B1.blk 0 _ rfl
  have x1 := cell_at B1.blk 1 _ rfl
  have z1 : ((l.length : Int) == 0) = true := by rw [hl0]; rfl
  have z2 : (l.length == 0) = true := by rw [hl0]; rfl
  clear hl0 hok
  go_enter Tryd.func32, Tryd.ntmps32
  go_wp2_with (go_at_call 16; refine hfo.mono ?_; rintro e w4 ⟨rfl, b4⟩; have rq := hR.on b4; have rz0 := cell_at rq.h 0 _ rfl; have rz1 := cell_at rq.h 1 _ rfl; have ru0 := frozen_at rq.h 0; have ru1 := frozen_at rq.h 1; have B4 := B1.on b4; have v0 := cell_at B4.blk 0 _ rfl; have v1 := cell_at B4.blk 1 _ rfl)
  exact ret_cellS rfl Tryd.underlying50 told_size rfl rfl (set_blk (set_blk rq.h 0 _) 1 _) rfl ⟨rfl, ((hb.trans (b4.mono hb.size)).setCell (by dsimp only; omega) _).setCell (by dsimp only; omega) _⟩

theorem RText_calls (n1 : Bool) (n : Int) (A : Option Addr) (c : Nat) (l : List Nat) (w : World) (h1 : Rd w A l) (hc1 : l.length ≤ c) :
    Calls Tryd.prog 32 #[iv n1 A l.length c, .int .i64 n] w (RetTold (strB (textR n1 l n).1) (textR n1 l n).2 w) := by
  unfold textR
  by_cases hok : okI n1 l = true
  · by_cases hn : 2 ≤ n ∧ n ≤ 36
    · rw [hok, decide_eq_true hn.1, decide_eq_true hn.2, Bool.and_self, Bool.and_self, if_pos rfl]
      obtain ⟨b, rfl⟩ : ∃ m : Nat, n = (m : Int) := ⟨n.toNat, by omega⟩
      rw [Int.toNat_natCast]
      by_cases hl : l.length = 0
      · have : val l = 0 := by rw [List.length_eq_zero_iff.1 hl]; rfl
        rw [this]
        exact RText_zero n1 b A c l w h1 hc1 hok (by omega) (by omega) hl
      · exact RText_pos n1 b A c l w h1 hc1 hok (by omega) (by omega) (by omega)
    · have : (okI n1 l && (decide (2 ≤ n) && decide (n ≤ 36))) = false := by
        rw [hok, Bool.true_and, Bool.and_eq_false_iff]
        rcases Decidable.not_and_iff_not_or_not.1 hn with h | h
        · exact .inl (decide_eq_false h)
        · exact .inr (decide_eq_false h)
      rw [this, if_neg (by decide)]
      exact RText_bad n1 n A c l w h1 hc1 (.inr ⟨hok, by omega⟩)
  · have hk : okI n1 l = false := by simpa using hok
    rw [hk, Bool.false_and, if_neg (by decide)]
    exact RText_bad n1 n A c l w h1 hc1 (.inl hk)

end Nm
end Go.Proofs.YtlhmbbpkhahbeaaDoor
namespace Go.Proofs.YtlhmbbpkhahbeaaDoor
namespace Nm
open Go.RowKit Go.Shelf Go.BigFrame
attribute [local go_sem] Oper.semAt_some

theorem root_init {a n : Nat} (hn : 1 ≤ n) : a < (0 + 2 ^ (blen a / n + 2)) ^ n := by
  rw [Nat.zero_add, ← Nat.pow_mul]
  refine Nat.lt_of_lt_of_le (blen_lt a) (Nat.pow_le_pow_right (by decide) ?_)
  have h1 := Nat.div_add_mod (blen a) n
  have h2 := Nat.mod_lt (blen a) hn
  rw [Nat.add_mul, Nat.mul_comm (blen a / n)]
  omega
theorem root_end {a n r : Nat} (_hn : 1 ≤ n) (h1 : r ^ n ≤ a) (h2 : a < (r + 2 ^ 0) ^ n) : IsRoot a n r := by
  refine ⟨h1, fun y hy => ?_⟩
  rcases Nat.lt_or_ge r y with h | h
  · exfalso
    have := Nat.pow_le_pow_left (show r + 2 ^ 0 ≤ y by rw [Nat.pow_zero]; omega) n
    omega
  · exact h

theorem arr_new_set (W : World) (l : List Nat) (q P : Nat) : Arr (W.alloc (.cells ((warr l).setIfInBounds q (.int .u32 (P : Int))) 72)) W.heap.size (l.set q P) := by
  refine ⟨_, World.alloc_heap_new W _, ?_⟩
  rw [Array.toList_setIfInBounds, List.length_set]
  simp [warr, wvals, List.map_set, List.take_of_length_le]
theorem val_one {k q i P : Nat} (hq : q = k / 32) (hi : i = k % 32) (hP : 2 ^ i = P) : val ((List.replicate (q + 1) 0).set q P) = 2 ^ k := by
  have h := val_set (l := List.replicate (q + 1) 0) (j := q) (x := 0) (p := P) (by simp) (by simp [List.getD_eq_getElem?_getD])
  rw [Nat.zero_add, val_replicate, Nat.zero_add] at h
  rw [h, ← hP, show BB = 2 ^ 32 from rfl, ← Nat.pow_mul, ← Nat.pow_add]
  congr 1
  omega
theorem larger_v (A1 A2 : Option Addr) (c1 c2 : Nat) (l1 l2 : List Nat) (w : World) (h1 : Rd w A1 l1) (h2 : Rd w A2 l2) (hc1 : l1.length ≤ c1) (hc2 : l2.length ≤ c2) (k1 : Canon l1) (k2 : Canon l2) (v : Int) (hv : cmpZ (val l1) (val l2) = v) :
    Calls Tryd.prog 73 #[.slice A1 l1.length c1, .slice A2 l2.length c2] w fun e w' => e = .returned (.int .i64 v) ∧ Below w.heap.size w w' := by
  subst hv
  refine (larger_calls A1 A2 c1 c2 l1 l2 w h1 h2 hc1 hc2 k1 k2).mono ?_
  rintro e w' ⟨h, n, rfl⟩
  exact ⟨h, below_drewN (Below.refl _ _) _⟩
theorem pow_sz {r n a : Nat} (h : r ^ n ≤ a) (la : (lim a).length ≤ 300) : ∀ i, i ≤ n → (lim ((r : Int) ^ i).natAbs).length ≤ 32768 := by
  intro i hi
  rw [Int.natAbs_pow, Int.natAbs_natCast]
  rcases Nat.eq_zero_or_pos r with h0 | h0
  · have : r ^ i ≤ 1 := by
      rw [h0]
      rcases Nat.eq_zero_or_pos i with hz | hz
      · rw [hz, Nat.pow_zero]; exact Nat.le_refl _
      · rw [Nat.zero_pow hz]; omega
    exact Nat.le_trans (length_le_of_lt (k := 1) (Nat.lt_of_le_of_lt this (by decide))) (by decide)
  · exact Nat.le_trans (length_mono (Nat.le_trans (Nat.pow_le_pow_right h0 hi) h)) (by omega)
theorem fit_neg {r a : Nat} (h : r ≤ a) (la : (lim a).length ≤ 300) : fitZ (-(r : Int)) = (-(r : Int), 0) := by
  unfold fitZ
  rw [if_pos]
  rw [Int.natAbs_neg, Int.natAbs_natCast]
  exact Nat.le_trans (length_mono h) la
theorem fit_neg' {r a : Nat} (h : r + 1 ≤ a) (la : (lim a).length ≤ 300) : fitZ (-((r : Int) + 1)) = (-((r : Int) + 1), 0) := fit_neg (r := r + 1) h la
theorem base_le {r n a : Nat} (hn : 1 ≤ n) (h : r ^ n ≤ a) : r ≤ a := Nat.le_trans (le_pow_self r hn) h

set_option maxRecDepth 100000 in
set_option maxHeartbeats 16000000 in
theorem RRoot_ok (n1 : Bool) (n : Nat) (A : Option Addr) (c : Nat) (l : List Nat) (w : World) (h1 : Rd w A l) (hc1 : l.length ≤ c) (hok : okI n1 l = true) (hn1 : 1 ≤ n) (hn : n ≤ 100) (hneg : (n1 && n % 2 == 0) = false) :
    Calls Tryd.prog 25 #[iv n1 A l.length c, .int .i64 (n : Int)] w (RetGot (if n1 = true then -(ceilN (val l) n : Int) else (rootN (val l) n : Int)) 0 w) := by
  have hb2 : ∀ a b, Below w.heap.size w ((w.alloc a).alloc b) := fun a b => ((Below.refl _ w).alloc (Nat.le_refl _) _).alloc (by simp) _
  obtain ⟨W2, hW2⟩ : ∃ W2, (w.alloc (.cells #[.bool n1, .slice A l.length c] 24)).alloc (.cells #[.bool false, .slice none 0 0, .int .i64 0] 41) = W2 := ⟨_, rfl⟩
  have hb : Below w.heap.size w W2 := by rw [← hW2]; exact hb2 _ _
  have B1 : IntBox W2 w.heap.size n1 A c l := ⟨by rw [← hW2]; exact (two_old w _ _ rfl).h, h1.on hb, hc1⟩
  have hR : Blk W2 (w.heap.size + 1) #[.bool false, .slice none 0 0, .int .i64 0] 41 := ⟨by rw [← hW2]; exact two_blk w _ _⟩
  have hfo := Formed_is n1 A c l W2 B1.rd hc1 true hok
  have k1 := okI_isInt h1.words hok
  have hs1 := k1.small
  have hdg := fun W h => Digits_calls n1 A c l W h hc1 (by omega)
  have x0 := cell_at B1.blk 0 _ rfl
  have x1 := cell_at B1.blk 1 _ rfl
  obtain ⟨a, ha⟩ : ∃ a, val l = a := ⟨_, rfl⟩
  rw [ha] at hdg ⊢
  have hmd : ∀ W, Rd W A l → Calls Tryd.prog 70 #[.bool false, .slice A l.length c] W (RetZ (a : Int) W) := fun W h => by
    have h := made_calls false A c l W h hc1
    rwa [ha, if_neg (by decide)] at h
  have la : (lim a).length ≤ 300 := by rw [← ha, lim_val k1.canon]; exact hs1
  have HI := Lib.hid (root_init (a := a) hn1)
  obtain ⟨D, hD⟩ : ∃ D, blen a = D := ⟨_, rfl⟩
  have hD9 : D ≤ 9600 := by
    have h2 := val_lt h1.words
    rw [pow_BB, ha] at h2
    rw [← hD]; exact Nat.le_trans (blen_lt_of h2) (by omega)
  rw [hD] at hdg HI
  obtain ⟨K, hK⟩ : ∃ K, D / n + 2 = K := ⟨_, rfl⟩
  rw [hK] at HI
  have hKn : (D : Int) / (n : Int) + 1 = (K : Int) - 1 := by
    have : (D : Int) / (n : Int) = ((D / n : Nat) : Int) := rfl
    omega
  have hKn' : (D : Int).tdiv (n : Int) + 1 = (K : Int) - 1 := by rw [Int.tdiv_eq_ediv_of_nonneg (by omega)]; exact hKn
  have hK9 : K ≤ 9602 := by have := Nat.div_le_self D n; omega
  have Ha := Lib.hid ha
  clear ha hD hK
  cases n1
  · go_enter Tryd.func25, Tryd.ntmps25
    go_wp2_with first
      | (go_at_call 71; refine (hdg _ ((B1.on b3').rd)).mono ?_; rintro e w5 ⟨rfl, b5⟩)
      | (go_at_call 70; refine (hmd _ ((B1.on b2).rd)).mono ?_; rintro e w3 ⟨s3, A3, c3, l3, rfl, z3, n3, r3, b3⟩; have b3'' := b2.trans (b3.mono b2.size); have b3' := b3''.trans ((two_below (w := w3) (.cells #[.bool s3, .slice A3 l3.length c3] 24) (.cells #[.bool false, .slice none 0 0] 24)).mono b3''.size); have y0 := cell_at (B1.on b3').blk 0 _ rfl; have y1 := cell_at (B1.on b3').blk 1 _ rfl)
      | (go_at_call 16; refine hfo.mono ?_; rintro e w2 ⟨rfl, b2⟩; have v0 := cell_at (B1.on b2).blk 0 _ rfl; have v1 := cell_at (B1.on b2).blk 1 _ rfl)
    have s5 : (w3.heap.size + 1) < w5.heap.size := Nat.lt_of_lt_of_le (Nat.lt_of_lt_of_eq (Nat.lt_succ_self _) (by simp)) b5.size
    have hsz3 := b3''.size
    obtain ⟨V, hV⟩ : ∃ V, w3.alloc (.cells #[.bool s3, .slice A3 l3.length c3] 24) = V := ⟨_, rfl⟩
    have bv := al1 w3 (.cells #[.bool s3, .slice A3 l3.length c3] 24)
    have S1 : IntBox V w3.heap.size s3 A3 c3 l3 := ⟨by rw [← hV]; exact World.alloc_heap_new w3 _, by rw [← hV]; exact r3.on bv, n3⟩
    have hVs : V.heap.size = w3.heap.size + 1 := by rw [← hV]; simp
    have bV := b3''.trans (bv.mono b3''.size)
    have O1 : HoldsZ ((w3.alloc (.cells #[.bool s3, .slice A3 l3.length c3] 24)).alloc (.cells #[.bool false, .slice none 0 0] 24)) (w3.heap.size + 1) false none 0 [] (0 : Nat) := ⟨⟨two_blk w3 _ _⟩, isZ_zero, Rd.nil _ _, Nat.le_refl _⟩
    have O5 := O1.on b5
    have bv5 := (al1 (w3.alloc (.cells #[.bool s3, .slice A3 l3.length c3] 24)) (.cells #[.bool false, .slice none 0 0] 24)).trans (b5.mono (al1 _ _).size)
    rw [hV] at bv5 bV
    have B1V := B1.on bV
    have hRV := hR.on bV
    have hz3 := z3

    clear hV bv b3' b5 O1 b3'' b3 b2 x0 x1 B1 hR hfo hdg hmd y0 y1 v0 v1 r3 hKn hKn' hsz3
    go_loopw [7] (fun i W => ∃ (j r : Nat) (s30 : Bool) (A30 : Option Addr) (c30 : Nat) (l30 : List Nat), i = .int .i64 ((j : Int) - 1) ∧ j ≤ K ∧ HoldsZ W (w3.heap.size + 1) s30 A30 c30 l30 (r : Int) ∧ Hid (r ^ n ≤ a) ∧ Hid (a < (r + 2 ^ j) ^ n) ∧ Below V.heap.size V W ∧ w3.heap.size + 1 < W.heap.size) (fun i _ => (intOf i + 1).toNat)
    case atStart => exact ⟨K, 0, false, none, 0, [], rfl, Nat.le_refl _, O5, by show _ ≤ _; rw [Nat.zero_pow hn1]; exact Nat.zero_le _, HI, bv5, s5⟩
    case round =>
      clear O5 bv5 s5
      obtain ⟨j, r, s30, A30, c30, l30, rfl, hj, hH, hlo, hhi, hbl, hlt⟩ := hrel
      have bb := bV.trans (hbl.mono bV.size)
      have x0 := cell_at hH.blk.h 0 _ rfl
      have x1 := cell_at hH.blk.h 1 _ rfl
      have u0 := frozen_at hH.blk.h 0
      have u1 := frozen_at hH.blk.h 1
      by_cases h0 : 0 < j
      · obtain ⟨k, rfl⟩ : ∃ k, j = k + 1 := ⟨j - 1, by omega⟩
        rw [show ((k + 1 : Nat) : Int) - 1 = (k : Int) by omega]
        obtain ⟨q, j1, j2⟩ : ∃ q : Nat, (k : Int) / 32 = (q : Int) ∧ Hid (q = k / 32) := ⟨k / 32, by omega, rfl⟩
        obtain ⟨i, i1, i2, i3⟩ : ∃ i : Nat, (k : Int) % 32 = (i : Int) ∧ Hid (i = k % 32) ∧ i < 32 := ⟨k % 32, by omega, rfl, by omega⟩
        have j4 : (k : Int).tdiv 32 = (q : Int) := by rw [Int.tdiv_eq_ediv_of_nonneg (by omega)]; exact j1
        have i4 : (k : Int).tmod 32 = (i : Int) := by rw [Int.tmod_eq_emod_of_nonneg (by omega)]; exact i1
        have hq9 : q ≤ 301 := by have := j2.out; omega
        have hp2 : 2 ^ i < 4294967296 := Nat.lt_of_lt_of_le (Nat.pow_lt_pow_right (by decide) i3) (by decide)
        obtain ⟨P, hP⟩ : ∃ P : Nat, 2 ^ i = P := ⟨_, rfl⟩
        have hPz : ((2 : Int) ^ i) = (P : Int) := by rw [← hP]; simp
        rw [hP] at hp2
        have p1 : (2 : Int) ^ i % 4294967296 = (P : Int) := by rw [hPz]; omega
        have HP := Lib.hid hP
        have hmk := make_u32 ((q : Int) + 1) ((q : Int) + 1) (q + 1) (q + 1) rfl rfl (Nat.le_refl _) (by omega) wr
        have har := arr_new wr (List.replicate (q + 1) 0)
        obtain ⟨u, g4⟩ : ∃ u : Nat, (wr.alloc (.cells (warr (List.replicate (q + 1) 0)) 72)).cell? ⟨wr.heap.size, q, none⟩ = some (.int .u32 (u : Int)) := ⟨_, arr_cell har q (by simp)⟩
        have f4 := arr_frozen har q
        clear hP hPz h0
        go_wp2_with fail
        obtain ⟨T, hT⟩ : ∃ T, 2 ^ k = T := ⟨_, rfl⟩
        have har2 := arr_new_set wr (List.replicate (q + 1) 0) q P
        have hv1 := val_one j2.out i2.out HP.out
        rw [hT] at hv1
        have bX := al1 wr (.cells ((warr (List.replicate (q + 1) 0)).setIfInBounds q (.int .u32 (P : Int))) 72)
        obtain ⟨X, hX⟩ : ∃ X, wr.alloc (.cells ((warr (List.replicate (q + 1) 0)).setIfInBounds q (.int .u32 (P : Int))) 72) = X := ⟨_, rfl⟩
        rw [hX] at har2 bX ⊢
        have rX := arr_rd har2 (words_set (words_replicate _) _ _ hp2) (by simp; omega)
        have hlo1 : ((List.replicate (q + 1) 0).set q P).length = q + 1 := by rw [List.length_set, List.length_replicate]
        have hm1 : ∀ W, Rd W (some ⟨wr.heap.size, 0, none⟩) ((List.replicate (q + 1) 0).set q P) → Calls Tryd.prog 70 #[.bool false, .slice (some ⟨wr.heap.size, 0, none⟩) (q + 1) (q + 1)] W (RetZ (T : Int) W) := fun W h => by
          have h := made_calls false (some ⟨wr.heap.size, 0, none⟩) (q + 1) _ W h (by rw [hlo1]; exact Nat.le_refl _)
          rwa [hv1, if_neg (by decide), hlo1] at h
        have hH2 := hH.on bX
        have z30 := hH2.isz
        have B30 : IntBox X (w3.heap.size + 1) s30 A30 c30 l30 := ⟨hH2.blk.h, hH2.rd, hH2.cap⟩
        have bvX := hbl.trans (bX.mono hbl.size)
        have hltX := Nat.lt_of_lt_of_le hlt bX.size
        have hra := base_le hn1 hlo.out
        have tr : (lim ((r : Int)).natAbs).length ≤ 302 := by rw [Int.natAbs_natCast]; exact Nat.le_trans (length_mono hra) (by omega)
        have tT : (lim ((T : Int)).natAbs).length ≤ 302 := by
          rw [Int.natAbs_natCast]
          exact len_of_bits (m := k + 1) (by rw [← hT]; exact Nat.pow_lt_pow_right (by decide) (Nat.lt_succ_self k)) (by omega)
        have TS := Lib.hid (len_add tr tT)
        have Ttr := Lib.hid tr
        have TtT := Lib.hid tT
        have HT := Lib.hid hT
        clear hX hlo1 hv1 hT tr tT hra g4 f4 hmk har har2 hp2 x0 x1 u0 u1 hH hH2 i1 i4 p1 j1 j4
        have y30a : X.cell? ⟨w3.heap.size + 1, 0, none⟩ = some (.bool s30) := cell_at B30.blk 0 _ rfl
        have y30b : X.cell? ⟨w3.heap.size + 1, 1, none⟩ = some (.slice A30 l30.length c30) := cell_at B30.blk 1 _ rfl
        go_region_held3 (fun w'' => w''.cell? ⟨w3.heap.size + 1, 0, none⟩ = some (.bool s30) ∧ w''.cell? ⟨w3.heap.size + 1, 1, none⟩ = some (.slice A30 l30.length c30)) ((first | (with_reducible exact ⟨y30a, y30b⟩) | exact ⟨y30a, y30b⟩ | exact ⟨cell_al _ y30a, cell_al _ y30b⟩ | (have qS := (q51.setCell (p := ⟨_, 0, none⟩) hG51 (.bool s21)).setCell (p := ⟨_, 1, none⟩) hG51 (.slice A21 l21.length c21); exact ⟨cell_at (B30.on qS).blk 0 _ rfl, cell_at (B30.on qS).blk 1 _ rfl⟩)))
          ((first
            | (go_at_call 29; have hmark := q50; refine (Sum_calls s30 s20 A30 A20 c30 c20 l30 l20 _ _ _ (by first | exact B30.rd.on q50 | exact B30.rd.on (below_al q50 _)) (by first | exact r20 | exact r20.on (below_al (Below.refl _ w50) _)) B30.cap n20 z30 z20 (z30.len_le (Nat.le_trans Ttr.out (by decide))) (z20.len_le (Nat.le_trans TtT.out (by decide)))).mono ?_; rintro e w51 ⟨s21, A21, c21, l21, rfl, z21, n21, r21, b51⟩; clear y30a y30b; have q51 : Below X.heap.size X w51 := (by first | exact q50.trans (b51.mono q50.size) | exact (below_al q50 _).trans (b51.mono (below_al q50 _).size)); (first | (have N51 := (b51.block _ m50).trans N50; have m51 := Nat.lt_of_lt_of_le m50 b51.size; have hG51 := hG50) | (have N51 : w51.heap[w50.heap.size]? = some (.cells #[.bool false, .slice none 0 0] 24 (0, 0)) := (b51.block w50.heap.size (Nat.lt_of_lt_of_eq (Nat.lt_succ_self _) (World.size_alloc w50 _).symm)).trans (World.alloc_heap_new w50 _); have m51 : w50.heap.size < w51.heap.size := Nat.lt_of_lt_of_le (Nat.lt_of_lt_of_eq (Nat.lt_succ_self _) (World.size_alloc w50 _).symm) b51.size; have hG51 : X.heap.size ≤ w50.heap.size := q50.size) | skip); replace r20 := (by first | exact r20.on b51 | exact (r20.on (below_al (Below.refl _ w50) _)).on b51); (try (have n0 := cell_at N51 0 _ rfl; have n1 := cell_at N51 1 _ rfl; have fz0 := frozen_at N51 0; have fz1 := frozen_at N51 1)); have y30a : w51.cell? ⟨w3.heap.size + 1, 0, none⟩ = some (.bool s30) := cell_at (B30.on q51).blk 0 _ rfl; have y30b : w51.cell? ⟨w3.heap.size + 1, 1, none⟩ = some (.slice A30 l30.length c30) := cell_at (B30.on q51).blk 1 _ rfl)
            | (go_at_call 70; refine (hm1 _ (by first | exact rX.on (below_drew (Below.refl _ X)) | exact rX.on (below_al (below_drew (Below.refl _ X)) _))).mono ?_; rintro e w50 ⟨s20, A20, c20, l20, rfl, z20, n20, r20, b50⟩; clear y30a y30b; have q50 : Below X.heap.size X w50 := (by first | exact (below_drew (Below.refl _ X)).trans b50 | exact (below_al (below_drew (Below.refl _ X)) _).trans (b50.mono (below_al (below_drew (Below.refl _ X)) _).size) | exact (below_al (Below.refl _ X) _).trans (b50.mono (below_al (Below.refl _ X) _).size)); (try (have N50 : w50.heap[X.heap.size]? = some (.cells #[.bool false, .slice none 0 0] 24 (0, 0)) := (b50.block X.heap.size (Nat.lt_of_lt_of_eq (Nat.lt_succ_self _) (World.size_alloc X.drew _).symm)).trans (World.alloc_heap_new X.drew _); have m50 : X.heap.size < w50.heap.size := Nat.lt_of_lt_of_le (Nat.lt_of_lt_of_eq (Nat.lt_succ_self _) (World.size_alloc X.drew _).symm) b50.size; have hG50 : X.heap.size ≤ X.heap.size := Nat.le_refl _)); have y30a : w50.cell? ⟨w3.heap.size + 1, 0, none⟩ = some (.bool s30) := cell_at (B30.on q50).blk 0 _ rfl; have y30b : w50.cell? ⟨w3.heap.size + 1, 1, none⟩ = some (.slice A30 l30.length c30) := cell_at (B30.on q50).blk 1 _ rfl)))
        · obtain ⟨bx, B21⟩ := one_box w51 s21 A21 c21 l21 r21 n21
          have qE := q51.trans (bx.mono q51.size)
          obtain ⟨Y, hY⟩ : ∃ Y, w51.alloc (.cells #[.bool s21, .slice A21 l21.length c21] 24) = Y := ⟨_, rfl⟩
          rw [hY] at B21 qE ⊢
          have bvY := bvX.trans (qE.mono bvX.size)
          have S1Y := S1.on bvY
          have B30Y := B30.on qE
          have hltY := Nat.lt_of_lt_of_le hltX qE.size
          clear hY y30a y30b
          obtain rfl : s21 = false := by rw [z21.sgn]; exact decide_eq_false (by omega)
          obtain ⟨R, hR'⟩ : ∃ R, r + T = R := ⟨_, rfl⟩
          have z21' : IsZ false l21 (R : Int) := by rw [← hR', Int.natCast_add]; exact z21
          have hab := fun W' h1 h2 => above_calls A21 A3 c21 c3 l21 l3 R a n W' h1 h2 B21.cap n3 z21' s3 hz3.canon (by rw [hz3.val, Int.natAbs_natCast]) hn1 hn (z21.len_le (Nat.le_trans TS.out (by decide))) (hz3.len_le (by rw [Int.natAbs_natCast]; omega))
          have y0 := cell_at B21.blk 0 _ rfl
          have y1 := cell_at B21.blk 1 _ rfl
          have y2 := cell_at S1Y.blk 0 _ rfl
          have y3 := cell_at S1Y.blk 1 _ rfl
          by_cases hov : a < R ^ n
          · rw [decide_eq_true hov] at hab
            have Hov := Lib.hid hov
            have HR' := Lib.hid hR'
            clear hov hR'
            go_wp2_with (go_at_call 72; refine (hab _ B21.rd S1Y.rd).mono ?_; rintro e w60 ⟨rfl, b60⟩; have B21w := B21.on b60; have B30w := B30Y.on b60; have bw := bvY.trans (b60.mono bvY.size); clear y0 y1 y2 y3; have y0 := cell_at B21w.blk 0 _ rfl; have y1 := cell_at B21w.blk 1 _ rfl; have y4 := cell_at B30w.blk 0 _ rfl; have y5 := cell_at B30w.blk 1 _ rfl; have y6 := frozen_at B30w.blk 0; have y7 := frozen_at B30w.blk 1; have hltw := Nat.lt_of_lt_of_le hltY b60.size)
            exact ⟨⟨k, r, s30, A30, c30, l30, rfl, by omega, ⟨⟨B30w.blk⟩, z30, B30w.rd, B30w.cap⟩, hlo, by show _ < _; rw [HT.out, HR'.out]; exact Hov.out, bw, hltw⟩, by simp only [intOf]; omega⟩
          · rw [decide_eq_false hov] at hab
            have Hov := Lib.hid hov
            have HR' := Lib.hid hR'
            clear hov hR'
            go_wp2_with (go_at_call 72; refine (hab _ B21.rd S1Y.rd).mono ?_; rintro e w60 ⟨rfl, b60⟩; have B21w := B21.on b60; have B30w := B30Y.on b60; have bw := bvY.trans (b60.mono bvY.size); clear y0 y1 y2 y3; have y0 := cell_at B21w.blk 0 _ rfl; have y1 := cell_at B21w.blk 1 _ rfl; have y4 := cell_at B30w.blk 0 _ rfl; have y5 := cell_at B30w.blk 1 _ rfl; have y6 := frozen_at B30w.blk 0; have y7 := frozen_at B30w.blk 1; have hltw := Nat.lt_of_lt_of_le hltY b60.size)
            have hS := holds_set ⟨B30w.blk⟩ (by simp) (by simp) z21' B21w.rd B21w.cap
            exact ⟨⟨k, R, false, A21, c21, l21, rfl, by omega, hS, by have := Hov.out; show _ ≤ _; omega, by show _ < _; rw [← HR'.out, ← HT.out]; have := hhi.out; rwa [Nat.pow_succ, Nat.mul_two, ← Nat.add_assoc] at this, (bw.setCell (by dsimp only; omega) _).setCell (by dsimp only; omega) _, by simpa [World.setCell] using hltw⟩, by simp only [intOf]; omega⟩
        · have B21 : IntBox ((w51.setCell ⟨w50.heap.size, 0, none⟩ (.bool s21)).setCell ⟨w50.heap.size, 1, none⟩ (.slice A21 l21.length c21)) w50.heap.size s21 A21 c21 l21 := ⟨set_blk (set_blk N51 0 _) 1 _, rd_sets r21 ⟨N51⟩ _ _, n21⟩
          have qE := (q51.setCell (p := ⟨w50.heap.size, 0, none⟩) q50.size (.bool s21)).setCell (p := ⟨w50.heap.size, 1, none⟩) q50.size (.slice A21 l21.length c21)
          obtain ⟨Y, hY⟩ : ∃ Y, (w51.setCell ⟨w50.heap.size, 0, none⟩ (.bool s21)).setCell ⟨w50.heap.size, 1, none⟩ (.slice A21 l21.length c21) = Y := ⟨_, rfl⟩
          rw [hY] at B21 qE ⊢
          have bvY := bvX.trans (qE.mono bvX.size)
          have S1Y := S1.on bvY
          have B30Y := B30.on qE
          have hltY := Nat.lt_of_lt_of_le hltX qE.size
          clear hY y30a y30b
          obtain rfl : s21 = false := by rw [z21.sgn]; exact decide_eq_false (by omega)
          obtain ⟨R, hR'⟩ : ∃ R, r + T = R := ⟨_, rfl⟩
          have z21' : IsZ false l21 (R : Int) := by rw [← hR', Int.natCast_add]; exact z21
          have hab := fun W' h1 h2 => above_calls A21 A3 c21 c3 l21 l3 R a n W' h1 h2 B21.cap n3 z21' s3 hz3.canon (by rw [hz3.val, Int.natAbs_natCast]) hn1 hn (z21.len_le (Nat.le_trans TS.out (by decide))) (hz3.len_le (by rw [Int.natAbs_natCast]; omega))
          have y0 := cell_at B21.blk 0 _ rfl
          have y1 := cell_at B21.blk 1 _ rfl
          have y2 := cell_at S1Y.blk 0 _ rfl
          have y3 := cell_at S1Y.blk 1 _ rfl
          by_cases hov : a < R ^ n
          · rw [decide_eq_true hov] at hab
            have Hov := Lib.hid hov
            have HR' := Lib.hid hR'
            clear hov hR'
            go_wp2_with (go_at_call 72; refine (hab _ B21.rd S1Y.rd).mono ?_; rintro e w60 ⟨rfl, b60⟩; have B21w := B21.on b60; have B30w := B30Y.on b60; have bw := bvY.trans (b60.mono bvY.size); clear y0 y1 y2 y3; have y0 := cell_at B21w.blk 0 _ rfl; have y1 := cell_at B21w.blk 1 _ rfl; have y4 := cell_at B30w.blk 0 _ rfl; have y5 := cell_at B30w.blk 1 _ rfl; have y6 := frozen_at B30w.blk 0; have y7 := frozen_at B30w.blk 1; have hltw := Nat.lt_of_lt_of_le hltY b60.size)
            exact ⟨⟨k, r, s30, A30, c30, l30, rfl, by omega, ⟨⟨B30w.blk⟩, z30, B30w.rd, B30w.cap⟩, hlo, by show _ < _; rw [HT.out, HR'.out]; exact Hov.out, bw, hltw⟩, by simp only [intOf]; omega⟩
          · rw [decide_eq_false hov] at hab
            have Hov := Lib.hid hov
            have HR' := Lib.hid hR'
            clear hov hR'
            go_wp2_with (go_at_call 72; refine (hab _ B21.rd S1Y.rd).mono ?_; rintro e w60 ⟨rfl, b60⟩; have B21w := B21.on b60; have B30w := B30Y.on b60; have bw := bvY.trans (b60.mono bvY.size); clear y0 y1 y2 y3; have y0 := cell_at B21w.blk 0 _ rfl; have y1 := cell_at B21w.blk 1 _ rfl; have y4 := cell_at B30w.blk 0 _ rfl; have y5 := cell_at B30w.blk 1 _ rfl; have y6 := frozen_at B30w.blk 0; have y7 := frozen_at B30w.blk 1; have hltw := Nat.lt_of_lt_of_le hltY b60.size)
            have hS := holds_set ⟨B30w.blk⟩ (by simp) (by simp) z21' B21w.rd B21w.cap
            exact ⟨⟨k, R, false, A21, c21, l21, rfl, by omega, hS, by have := Hov.out; show _ ≤ _; omega, by show _ < _; rw [← HR'.out, ← HT.out]; have := hhi.out; rwa [Nat.pow_succ, Nat.mul_two, ← Nat.add_assoc] at this, (bw.setCell (by dsimp only; omega) _).setCell (by dsimp only; omega) _, by simpa [World.setCell] using hltw⟩, by simp only [intOf]; omega⟩
        · have B21 : IntBox ((w51.setCell ⟨X.heap.size, 0, none⟩ (.bool s21)).setCell ⟨X.heap.size, 1, none⟩ (.slice A21 l21.length c21)) X.heap.size s21 A21 c21 l21 := ⟨set_blk (set_blk N51 0 _) 1 _, rd_sets r21 ⟨N51⟩ _ _, n21⟩
          have qE := (q51.setCell (p := ⟨X.heap.size, 0, none⟩) (Nat.le_refl _) (.bool s21)).setCell (p := ⟨X.heap.size, 1, none⟩) (Nat.le_refl _) (.slice A21 l21.length c21)
          obtain ⟨Y, hY⟩ : ∃ Y, (w51.setCell ⟨X.heap.size, 0, none⟩ (.bool s21)).setCell ⟨X.heap.size, 1, none⟩ (.slice A21 l21.length c21) = Y := ⟨_, rfl⟩
          rw [hY] at B21 qE ⊢
          have bvY := bvX.trans (qE.mono bvX.size)
          have S1Y := S1.on bvY
          have B30Y := B30.on qE
          have hltY := Nat.lt_of_lt_of_le hltX qE.size
          clear hY y30a y30b
          obtain rfl : s21 = false := by rw [z21.sgn]; exact decide_eq_false (by omega)
          obtain ⟨R, hR'⟩ : ∃ R, r + T = R := ⟨_, rfl⟩
          have z21' : IsZ false l21 (R : Int) := by rw [← hR', Int.natCast_add]; exact z21
          have hab := fun W' h1 h2 => above_calls A21 A3 c21 c3 l21 l3 R a n W' h1 h2 B21.cap n3 z21' s3 hz3.canon (by rw [hz3.val, Int.natAbs_natCast]) hn1 hn (z21.len_le (Nat.le_trans TS.out (by decide))) (hz3.len_le (by rw [Int.natAbs_natCast]; omega))
          have y0 := cell_at B21.blk 0 _ rfl
          have y1 := cell_at B21.blk 1 _ rfl
          have y2 := cell_at S1Y.blk 0 _ rfl
          have y3 := cell_at S1Y.blk 1 _ rfl
          by_cases hov : a < R ^ n
          · rw [decide_eq_true hov] at hab
            have Hov := Lib.hid hov
            have HR' := Lib.hid hR'
            clear hov hR'
            go_wp2_with (go_at_call 72; refine (hab _ B21.rd S1Y.rd).mono ?_; rintro e w60 ⟨rfl, b60⟩; have B21w := B21.on b60; have B30w := B30Y.on b60; have bw := bvY.trans (b60.mono bvY.size); clear y0 y1 y2 y3; have y0 := cell_at B21w.blk 0 _ rfl; have y1 := cell_at B21w.blk 1 _ rfl; have y4 := cell_at B30w.blk 0 _ rfl; have y5 := cell_at B30w.blk 1 _ rfl; have y6 := frozen_at B30w.blk 0; have y7 := frozen_at B30w.blk 1; have hltw := Nat.lt_of_lt_of_le hltY b60.size)
            exact ⟨⟨k, r, s30, A30, c30, l30, rfl, by omega, ⟨⟨B30w.blk⟩, z30, B30w.rd, B30w.cap⟩, hlo, by show _ < _; rw [HT.out, HR'.out]; exact Hov.out, bw, hltw⟩, by simp only [intOf]; omega⟩
          · rw [decide_eq_false hov] at hab
            have Hov := Lib.hid hov
            have HR' := Lib.hid hR'
            clear hov hR'
            go_wp2_with (go_at_call 72; refine (hab _ B21.rd S1Y.rd).mono ?_; rintro e w60 ⟨rfl, b60⟩; have B21w := B21.on b60; have B30w := B30Y.on b60; have bw := bvY.trans (b60.mono bvY.size); clear y0 y1 y2 y3; have y0 := cell_at B21w.blk 0 _ rfl; have y1 := cell_at B21w.blk 1 _ rfl; have y4 := cell_at B30w.blk 0 _ rfl; have y5 := cell_at B30w.blk 1 _ rfl; have y6 := frozen_at B30w.blk 0; have y7 := frozen_at B30w.blk 1; have hltw := Nat.lt_of_lt_of_le hltY b60.size)
            have hS := holds_set ⟨B30w.blk⟩ (by simp) (by simp) z21' B21w.rd B21w.cap
            exact ⟨⟨k, R, false, A21, c21, l21, rfl, by omega, hS, by have := Hov.out; show _ ≤ _; omega, by show _ < _; rw [← HR'.out, ← HT.out]; have := hhi.out; rwa [Nat.pow_succ, Nat.mul_two, ← Nat.add_assoc] at this, (bw.setCell (by dsimp only; omega) _).setCell (by dsimp only; omega) _, by simpa [World.setCell] using hltw⟩, by simp only [intOf]; omega⟩
      · obtain rfl : j = 0 := by omega
        have hroot := root_end hn1 hlo.out hhi.out
        have hrn := rootN_of hn1 hroot
        have z30 := hH.isz
        have hf : fitZ (r : Int) = ((r : Int), 0) := by unfold fitZ; rw [if_pos (by rw [Int.natAbs_natCast]; exact Nat.le_trans (length_mono (base_le hn1 hlo.out)) la)]
        have Hrn := Lib.hid hrn
        have Hf := Lib.hid hf
        have B1w := B1V.on hbl
        have y0 := cell_at B1w.blk 0 _ rfl
        have y1 := cell_at B1w.blk 1 _ rfl
        have hn0 : ¬ (0 : Int) ≤ ((0 : Nat) : Int) - 1 := by omega
        clear hroot hrn hf hlo hhi h0 u0 u1
        go_wp2_with (go_at_call 75; refine (fit_calls s30 A30 c30 l30 (r : Int) _ hH.rd hH.cap z30).mono ?_; rintro e w6 ⟨s6, A6, c6, l6, rfl, z6, n6, r6, b6⟩; rw [Hf.out] at z6 ⊢; have bq := hbl.trans (b6.mono hbl.size); have rq := hRV.on bq; have rz0 := cell_at rq.h 0 _ rfl; have rz1 := cell_at rq.h 1 _ rfl; have rz2 := cell_at rq.h 2 _ rfl; have ru0 := frozen_at rq.h 0; have ru1 := frozen_at rq.h 1; have ru2 := frozen_at rq.h 2)
        rw [Hrn.out]
        have hne := r6.ne rq.h (by intro i x h; rcases i with _ | _ | _ | i <;> simp at h)
        have bw := bV.trans (bq.mono bV.size)
        exact ret_cellT rfl Tryd.underlying41 got_size rfl rfl (set3 rq.h _ _ _) rfl ⟨s6, A6, c6, l6, rfl, z6, n6, ((r6.setNe hne).setNe hne).setNe hne, (((hb.trans (bw.mono hb.size)).setCell (by dsimp only; omega) _).setCell (by dsimp only; omega) _).setCell (by dsimp only; omega) _⟩
  · have hfld : ∀ (W : World) (s : Bool) (B : Option Addr) (m d : Nat), Sem.run Tryd.prog (Instr.field 24 (iv s B m d) 1) W = .ok (.slice B m d) W := fun _ _ _ _ _ => by kernel_rfl
    have hp0 : ((n : Int) % 2 == 0) = false := by rw [Bool.true_and] at hneg; rw [beq_eq_false_iff_ne] at hneg ⊢; omega
    have hp1 : ((n : Int).tmod 2 == 0) = false := by rw [Int.tmod_eq_emod_of_nonneg (by omega)]; exact hp0
    have hp2' : (n % 2 == 0) = false := by simpa using hneg
    clear hneg
    go_enter Tryd.func25, Tryd.ntmps25
    go_wp2_with first
      | (go_at_call 71; refine (hdg _ ((B1.on b3').rd)).mono ?_; rintro e w5 ⟨rfl, b5⟩)
      | (go_at_call 70; refine (hmd _ ((B1.on b2).rd)).mono ?_; rintro e w3 ⟨s3, A3, c3, l3, rfl, z3, n3, r3, b3⟩; have b3'' := b2.trans (b3.mono b2.size); have b3' := b3''.trans ((two_below (w := w3) (.cells #[.bool s3, .slice A3 l3.length c3] 24) (.cells #[.bool false, .slice none 0 0] 24)).mono b3''.size); have y0 := cell_at (B1.on b3').blk 0 _ rfl; have y1 := cell_at (B1.on b3').blk 1 _ rfl)
      | (go_at_call 16; refine hfo.mono ?_; rintro e w2 ⟨rfl, b2⟩; have v0 := cell_at (B1.on b2).blk 0 _ rfl; have v1 := cell_at (B1.on b2).blk 1 _ rfl)
    have s5 : (w3.heap.size + 1) < w5.heap.size := Nat.lt_of_lt_of_le (Nat.lt_of_lt_of_eq (Nat.lt_succ_self _) (by simp)) b5.size
    have hsz3 := b3''.size
    obtain ⟨V, hV⟩ : ∃ V, w3.alloc (.cells #[.bool s3, .slice A3 l3.length c3] 24) = V := ⟨_, rfl⟩
    have bv := al1 w3 (.cells #[.bool s3, .slice A3 l3.length c3] 24)
    have S1 : IntBox V w3.heap.size s3 A3 c3 l3 := ⟨by rw [← hV]; exact World.alloc_heap_new w3 _, by rw [← hV]; exact r3.on bv, n3⟩
    have hVs : V.heap.size = w3.heap.size + 1 := by rw [← hV]; simp
    have bV := b3''.trans (bv.mono b3''.size)
    have O1 : HoldsZ ((w3.alloc (.cells #[.bool s3, .slice A3 l3.length c3] 24)).alloc (.cells #[.bool false, .slice none 0 0] 24)) (w3.heap.size + 1) false none 0 [] (0 : Nat) := ⟨⟨two_blk w3 _ _⟩, isZ_zero, Rd.nil _ _, Nat.le_refl _⟩
    have O5 := O1.on b5
    have bv5 := (al1 (w3.alloc (.cells #[.bool s3, .slice A3 l3.length c3] 24)) (.cells #[.bool false, .slice none 0 0] 24)).trans (b5.mono (al1 _ _).size)
    rw [hV] at bv5 bV
    have B1V := B1.on bV
    have hRV := hR.on bV
    have hz3 := z3

    clear hV bv b3' b5 O1 b3'' b3 b2 x0 x1 B1 hR hfo hdg hmd y0 y1 v0 v1 r3 hKn hKn' hsz3
    go_loopw [7] (fun i W => ∃ (j r : Nat) (s30 : Bool) (A30 : Option Addr) (c30 : Nat) (l30 : List Nat), i = .int .i64 ((j : Int) - 1) ∧ j ≤ K ∧ HoldsZ W (w3.heap.size + 1) s30 A30 c30 l30 (r : Int) ∧ Hid (r ^ n ≤ a) ∧ Hid (a < (r + 2 ^ j) ^ n) ∧ Below V.heap.size V W ∧ w3.heap.size + 1 < W.heap.size) (fun i _ => (intOf i + 1).toNat)
    case atStart => exact ⟨K, 0, false, none, 0, [], rfl, Nat.le_refl _, O5, by show _ ≤ _; rw [Nat.zero_pow hn1]; exact Nat.zero_le _, HI, bv5, s5⟩
    case round =>
      clear O5 bv5 s5
      obtain ⟨j, r, s30, A30, c30, l30, rfl, hj, hH, hlo, hhi, hbl, hlt⟩ := hrel
      have bb := bV.trans (hbl.mono bV.size)
      have x0 := cell_at hH.blk.h 0 _ rfl
      have x1 := cell_at hH.blk.h 1 _ rfl
      have u0 := frozen_at hH.blk.h 0
      have u1 := frozen_at hH.blk.h 1
      by_cases h0 : 0 < j
      · obtain ⟨k, rfl⟩ : ∃ k, j = k + 1 := ⟨j - 1, by omega⟩
        rw [show ((k + 1 : Nat) : Int) - 1 = (k : Int) by omega]
        obtain ⟨q, j1, j2⟩ : ∃ q : Nat, (k : Int) / 32 = (q : Int) ∧ Hid (q = k / 32) := ⟨k / 32, by omega, rfl⟩
        obtain ⟨i, i1, i2, i3⟩ : ∃ i : Nat, (k : Int) % 32 = (i : Int) ∧ Hid (i = k % 32) ∧ i < 32 := ⟨k % 32, by omega, rfl, by omega⟩
        have j4 : (k : Int).tdiv 32 = (q : Int) := by rw [Int.tdiv_eq_ediv_of_nonneg (by omega)]; exact j1
        have i4 : (k : Int).tmod 32 = (i : Int) := by rw [Int.tmod_eq_emod_of_nonneg (by omega)]; exact i1
        have hq9 : q ≤ 301 := by have := j2.out; omega
        have hp2 : 2 ^ i < 4294967296 := Nat.lt_of_lt_of_le (Nat.pow_lt_pow_right (by decide) i3) (by decide)
        obtain ⟨P, hP⟩ : ∃ P : Nat, 2 ^ i = P := ⟨_, rfl⟩
        have hPz : ((2 : Int) ^ i) = (P : Int) := by rw [← hP]; simp
        rw [hP] at hp2
        have p1 : (2 : Int) ^ i % 4294967296 = (P : Int) := by rw [hPz]; omega
        have HP := Lib.hid hP
        have hmk := make_u32 ((q : Int) + 1) ((q : Int) + 1) (q + 1) (q + 1) rfl rfl (Nat.le_refl _) (by omega) wr
        have har := arr_new wr (List.replicate (q + 1) 0)
        obtain ⟨u, g4⟩ : ∃ u : Nat, (wr.alloc (.cells (warr (List.replicate (q + 1) 0)) 72)).cell? ⟨wr.heap.size, q, none⟩ = some (.int .u32 (u : Int)) := ⟨_, arr_cell har q (by simp)⟩
        have f4 := arr_frozen har q
        clear hP hPz h0
        go_wp2_with fail
        obtain ⟨T, hT⟩ : ∃ T, 2 ^ k = T := ⟨_, rfl⟩
        have har2 := arr_new_set wr (List.replicate (q + 1) 0) q P
        have hv1 := val_one j2.out i2.out HP.out
        rw [hT] at hv1
        have bX := al1 wr (.cells ((warr (List.replicate (q + 1) 0)).setIfInBounds q (.int .u32 (P : Int))) 72)
        obtain ⟨X, hX⟩ : ∃ X, wr.alloc (.cells ((warr (List.replicate (q + 1) 0)).setIfInBounds q (.int .u32 (P : Int))) 72) = X := ⟨_, rfl⟩
        rw [hX] at har2 bX ⊢
        have rX := arr_rd har2 (words_set (words_replicate _) _ _ hp2) (by simp; omega)
        have hlo1 : ((List.replicate (q + 1) 0).set q P).length = q + 1 := by rw [List.length_set, List.length_replicate]
        have hm1 : ∀ W, Rd W (some ⟨wr.heap.size, 0, none⟩) ((List.replicate (q + 1) 0).set q P) → Calls Tryd.prog 70 #[.bool false, .slice (some ⟨wr.heap.size, 0, none⟩) (q + 1) (q + 1)] W (RetZ (T : Int) W) := fun W h => by
          have h := made_calls false (some ⟨wr.heap.size, 0, none⟩) (q + 1) _ W h (by rw [hlo1]; exact Nat.le_refl _)
          rwa [hv1, if_neg (by decide), hlo1] at h
        have hH2 := hH.on bX
        have z30 := hH2.isz
        have B30 : IntBox X (w3.heap.size + 1) s30 A30 c30 l30 := ⟨hH2.blk.h, hH2.rd, hH2.cap⟩
        have bvX := hbl.trans (bX.mono hbl.size)
        have hltX := Nat.lt_of_lt_of_le hlt bX.size
        have hra := base_le hn1 hlo.out
        have tr : (lim ((r : Int)).natAbs).length ≤ 302 := by rw [Int.natAbs_natCast]; exact Nat.le_trans (length_mono hra) (by omega)
        have tT : (lim ((T : Int)).natAbs).length ≤ 302 := by
          rw [Int.natAbs_natCast]
          exact len_of_bits (m := k + 1) (by rw [← hT]; exact Nat.pow_lt_pow_right (by decide) (Nat.lt_succ_self k)) (by omega)
        have TS := Lib.hid (len_add tr tT)
        have Ttr := Lib.hid tr
        have TtT := Lib.hid tT
        have HT := Lib.hid hT
        clear hX hlo1 hv1 hT tr tT hra g4 f4 hmk har har2 hp2 x0 x1 u0 u1 hH hH2 i1 i4 p1 j1 j4
        have y30a : X.cell? ⟨w3.heap.size + 1, 0, none⟩ = some (.bool s30) := cell_at B30.blk 0 _ rfl
        have y30b : X.cell? ⟨w3.heap.size + 1, 1, none⟩ = some (.slice A30 l30.length c30) := cell_at B30.blk 1 _ rfl
        go_region_held3 (fun w'' => w''.cell? ⟨w3.heap.size + 1, 0, none⟩ = some (.bool s30) ∧ w''.cell? ⟨w3.heap.size + 1, 1, none⟩ = some (.slice A30 l30.length c30)) ((first | (with_reducible exact ⟨y30a, y30b⟩) | exact ⟨y30a, y30b⟩ | exact ⟨cell_al _ y30a, cell_al _ y30b⟩ | (have qS := (q51.setCell (p := ⟨_, 0, none⟩) hG51 (.bool s21)).setCell (p := ⟨_, 1, none⟩) hG51 (.slice A21 l21.length c21); exact ⟨cell_at (B30.on qS).blk 0 _ rfl, cell_at (B30.on qS).blk 1 _ rfl⟩)))
          ((first
            | (go_at_call 29; have hmark := q50; refine (Sum_calls s30 s20 A30 A20 c30 c20 l30 l20 _ _ _ (by first | exact B30.rd.on q50 | exact B30.rd.on (below_al q50 _)) (by first | exact r20 | exact r20.on (below_al (Below.refl _ w50) _)) B30.cap n20 z30 z20 (z30.len_le (Nat.le_trans Ttr.out (by decide))) (z20.len_le (Nat.le_trans TtT.out (by decide)))).mono ?_; rintro e w51 ⟨s21, A21, c21, l21, rfl, z21, n21, r21, b51⟩; clear y30a y30b; have q51 : Below X.heap.size X w51 := (by first | exact q50.trans (b51.mono q50.size) | exact (below_al q50 _).trans (b51.mono (below_al q50 _).size)); (first | (have N51 := (b51.block _ m50).trans N50; have m51 := Nat.lt_of_lt_of_le m50 b51.size; have hG51 := hG50) | (have N51 : w51.heap[w50.heap.size]? = some (.cells #[.bool false, .slice none 0 0] 24 (0, 0)) := (b51.block w50.heap.size (Nat.lt_of_lt_of_eq (Nat.lt_succ_self _) (World.size_alloc w50 _).symm)).trans (World.alloc_heap_new w50 _); have m51 : w50.heap.size < w51.heap.size := Nat.lt_of_lt_of_le (Nat.lt_of_lt_of_eq (Nat.lt_succ_self _) (World.size_alloc w50 _).symm) b51.size; have hG51 : X.heap.size ≤ w50.heap.size := q50.size) | skip); replace r20 := (by first | exact r20.on b51 | exact (r20.on (below_al (Below.refl _ w50) _)).on b51); (try (have n0 := cell_at N51 0 _ rfl; have n1 := cell_at N51 1 _ rfl; have fz0 := frozen_at N51 0; have fz1 := frozen_at N51 1)); have y30a : w51.cell? ⟨w3.heap.size + 1, 0, none⟩ = some (.bool s30) := cell_at (B30.on q51).blk 0 _ rfl; have y30b : w51.cell? ⟨w3.heap.size + 1, 1, none⟩ = some (.slice A30 l30.length c30) := cell_at (B30.on q51).blk 1 _ rfl)
            | (go_at_call 70; refine (hm1 _ (by first | exact rX.on (below_drew (Below.refl _ X)) | exact rX.on (below_al (below_drew (Below.refl _ X)) _))).mono ?_; rintro e w50 ⟨s20, A20, c20, l20, rfl, z20, n20, r20, b50⟩; clear y30a y30b; have q50 : Below X.heap.size X w50 := (by first | exact (below_drew (Below.refl _ X)).trans b50 | exact (below_al (below_drew (Below.refl _ X)) _).trans (b50.mono (below_al (below_drew (Below.refl _ X)) _).size) | exact (below_al (Below.refl _ X) _).trans (b50.mono (below_al (Below.refl _ X) _).size)); (try (have N50 : w50.heap[X.heap.size]? = some (.cells #[.bool false, .slice none 0 0] 24 (0, 0)) := (b50.block X.heap.size (Nat.lt_of_lt_of_eq (Nat.lt_succ_self _) (World.size_alloc X.drew _).symm)).trans (World.alloc_heap_new X.drew _); have m50 : X.heap.size < w50.heap.size := Nat.lt_of_lt_of_le (Nat.lt_of_lt_of_eq (Nat.lt_succ_self _) (World.size_alloc X.drew _).symm) b50.size; have hG50 : X.heap.size ≤ X.heap.size := Nat.le_refl _)); have y30a : w50.cell? ⟨w3.heap.size + 1, 0, none⟩ = some (.bool s30) := cell_at (B30.on q50).blk 0 _ rfl; have y30b : w50.cell? ⟨w3.heap.size + 1, 1, none⟩ = some (.slice A30 l30.length c30) := cell_at (B30.on q50).blk 1 _ rfl)))
        · obtain ⟨bx, B21⟩ := one_box w51 s21 A21 c21 l21 r21 n21
          have qE := q51.trans (bx.mono q51.size)
          obtain ⟨Y, hY⟩ : ∃ Y, w51.alloc (.cells #[.bool s21, .slice A21 l21.length c21] 24) = Y := ⟨_, rfl⟩
          rw [hY] at B21 qE ⊢
          have bvY := bvX.trans (qE.mono bvX.size)
          have S1Y := S1.on bvY
          have B30Y := B30.on qE
          have hltY := Nat.lt_of_lt_of_le hltX qE.size
          clear hY y30a y30b
          obtain rfl : s21 = false := by rw [z21.sgn]; exact decide_eq_false (by omega)
          obtain ⟨R, hR'⟩ : ∃ R, r + T = R := ⟨_, rfl⟩
          have z21' : IsZ false l21 (R : Int) := by rw [← hR', Int.natCast_add]; exact z21
          have hab := fun W' h1 h2 => above_calls A21 A3 c21 c3 l21 l3 R a n W' h1 h2 B21.cap n3 z21' s3 hz3.canon (by rw [hz3.val, Int.natAbs_natCast]) hn1 hn (z21.len_le (Nat.le_trans TS.out (by decide))) (hz3.len_le (by rw [Int.natAbs_natCast]; omega))
          have y0 := cell_at B21.blk 0 _ rfl
          have y1 := cell_at B21.blk 1 _ rfl
          have y2 := cell_at S1Y.blk 0 _ rfl
          have y3 := cell_at S1Y.blk 1 _ rfl
          by_cases hov : a < R ^ n
          · rw [decide_eq_true hov] at hab
            have Hov := Lib.hid hov
            have HR' := Lib.hid hR'
            clear hov hR'
            go_wp2_with (go_at_call 72; refine (hab _ B21.rd S1Y.rd).mono ?_; rintro e w60 ⟨rfl, b60⟩; have B21w := B21.on b60; have B30w := B30Y.on b60; have bw := bvY.trans (b60.mono bvY.size); clear y0 y1 y2 y3; have y0 := cell_at B21w.blk 0 _ rfl; have y1 := cell_at B21w.blk 1 _ rfl; have y4 := cell_at B30w.blk 0 _ rfl; have y5 := cell_at B30w.blk 1 _ rfl; have y6 := frozen_at B30w.blk 0; have y7 := frozen_at B30w.blk 1; have hltw := Nat.lt_of_lt_of_le hltY b60.size)
            exact ⟨⟨k, r, s30, A30, c30, l30, rfl, by omega, ⟨⟨B30w.blk⟩, z30, B30w.rd, B30w.cap⟩, hlo, by show _ < _; rw [HT.out, HR'.out]; exact Hov.out, bw, hltw⟩, by simp only [intOf]; omega⟩
          · rw [decide_eq_false hov] at hab
            have Hov := Lib.hid hov
            have HR' := Lib.hid hR'
            clear hov hR'
            go_wp2_with (go_at_call 72; refine (hab _ B21.rd S1Y.rd).mono ?_; rintro e w60 ⟨rfl, b60⟩; have B21w := B21.on b60; have B30w := B30Y.on b60; have bw := bvY.trans (b60.mono bvY.size); clear y0 y1 y2 y3; have y0 := cell_at B21w.blk 0 _ rfl; have y1 := cell_at B21w.blk 1 _ rfl; have y4 := cell_at B30w.blk 0 _ rfl; have y5 := cell_at B30w.blk 1 _ rfl; have y6 := frozen_at B30w.blk 0; have y7 := frozen_at B30w.blk 1; have hltw := Nat.lt_of_lt_of_le hltY b60.size)
            have hS := holds_set ⟨B30w.blk⟩ (by simp) (by simp) z21' B21w.rd B21w.cap
            exact ⟨⟨k, R, false, A21, c21, l21, rfl, by omega, hS, by have := Hov.out; show _ ≤ _; omega, by show _ < _; rw [← HR'.out, ← HT.out]; have := hhi.out; rwa [Nat.pow_succ, Nat.mul_two, ← Nat.add_assoc] at this, (bw.setCell (by dsimp only; omega) _).setCell (by dsimp only; omega) _, by simpa [World.setCell] using hltw⟩, by simp only [intOf]; omega⟩
        · have B21 : IntBox ((w51.setCell ⟨w50.heap.size, 0, none⟩ (.bool s21)).setCell ⟨w50.heap.size, 1, none⟩ (.slice A21 l21.length c21)) w50.heap.size s21 A21 c21 l21 := ⟨set_blk (set_blk N51 0 _) 1 _, rd_sets r21 ⟨N51⟩ _ _, n21⟩
          have qE := (q51.setCell (p := ⟨w50.heap.size, 0, none⟩) q50.size (.bool s21)).setCell (p := ⟨w50.heap.size, 1, none⟩) q50.size (.slice A21 l21.length c21)
          obtain ⟨Y, hY⟩ : ∃ Y, (w51.setCell ⟨w50.heap.size, 0, none⟩ (.bool s21)).setCell ⟨w50.heap.size, 1, none⟩ (.slice A21 l21.length c21) = Y := ⟨_, rfl⟩
          rw [hY] at B21 qE ⊢
          have bvY := bvX.trans (qE.mono bvX.size)
          have S1Y := S1.on bvY
          have B30Y := B30.on qE
          have hltY := Nat.lt_of_lt_of_le hltX qE.size
          clear hY y30a y30b
          obtain rfl : s21 = false := by rw [z21.sgn]; exact decide_eq_false (by omega)
          obtain ⟨R, hR'⟩ : ∃ R, r + T = R := ⟨_, rfl⟩
          have z21' : IsZ false l21 (R : Int) := by rw [← hR', Int.natCast_add]; exact z21
          have hab := fun W' h1 h2 => above_calls A21 A3 c21 c3 l21 l3 R a n W' h1 h2 B21.cap n3 z21' s3 hz3.canon (by rw [hz3.val, Int.natAbs_natCast]) hn1 hn (z21.len_le (Nat.le_trans TS.out (by decide))) (hz3.len_le (by rw [Int.natAbs_natCast]; omega))
          have y0 := cell_at B21.blk 0 _ rfl
          have y1 := cell_at B21.blk 1 _ rfl
          have y2 := cell_at S1Y.blk 0 _ rfl
          have y3 := cell_at S1Y.blk 1 _ rfl
          by_cases hov : a < R ^ n
          · rw [decide_eq_true hov] at hab
            have Hov := Lib.hid hov
            have HR' := Lib.hid hR'
            clear hov hR'
            go_wp2_with (go_at_call 72; refine (hab _ B21.rd S1Y.rd).mono ?_; rintro e w60 ⟨rfl, b60⟩; have B21w := B21.on b60; have B30w := B30Y.on b60; have bw := bvY.trans (b60.mono bvY.size); clear y0 y1 y2 y3; have y0 := cell_at B21w.blk 0 _ rfl; have y1 := cell_at B21w.blk 1 _ rfl; have y4 := cell_at B30w.blk 0 _ rfl; have y5 := cell_at B30w.blk 1 _ rfl; have y6 := frozen_at B30w.blk 0; have y7 := frozen_at B30w.blk 1; have hltw := Nat.lt_of_lt_of_le hltY b60.size)
            exact ⟨⟨k, r, s30, A30, c30, l30, rfl, by omega, ⟨⟨B30w.blk⟩, z30, B30w.rd, B30w.cap⟩, hlo, by show _ < _; rw [HT.out, HR'.out]; exact Hov.out, bw, hltw⟩, by simp only [intOf]; omega⟩
          · rw [decide_eq_false hov] at hab
            have Hov := Lib.hid hov
            have HR' := Lib.hid hR'
            clear hov hR'
            go_wp2_with (go_at_call 72; refine (hab _ B21.rd S1Y.rd).mono ?_; rintro e w60 ⟨rfl, b60⟩; have B21w := B21.on b60; have B30w := B30Y.on b60; have bw := bvY.trans (b60.mono bvY.size); clear y0 y1 y2 y3; have y0 := cell_at B21w.blk 0 _ rfl; have y1 := cell_at B21w.blk 1 _ rfl; have y4 := cell_at B30w.blk 0 _ rfl; have y5 := cell_at B30w.blk 1 _ rfl; have y6 := frozen_at B30w.blk 0; have y7 := frozen_at B30w.blk 1; have hltw := Nat.lt_of_lt_of_le hltY b60.size)
            have hS := holds_set ⟨B30w.blk⟩ (by simp) (by simp) z21' B21w.rd B21w.cap
            exact ⟨⟨k, R, false, A21, c21, l21, rfl, by omega, hS, by have := Hov.out; show _ ≤ _; omega, by show _ < _; rw [← HR'.out, ← HT.out]; have := hhi.out; rwa [Nat.pow_succ, Nat.mul_two, ← Nat.add_assoc] at this, (bw.setCell (by dsimp only; omega) _).setCell (by dsimp only; omega) _, by simpa [World.setCell] using hltw⟩, by simp only [intOf]; omega⟩
        · have B21 : IntBox ((w51.setCell ⟨X.heap.size, 0, none⟩ (.bool s21)).setCell ⟨X.heap.size, 1, none⟩ (.slice A21 l21.length c21)) X.heap.size s21 A21 c21 l21 := ⟨set_blk (set_blk N51 0 _) 1 _, rd_sets r21 ⟨N51⟩ _ _, n21⟩
          have qE := (q51.setCell (p := ⟨X.heap.size, 0, none⟩) (Nat.le_refl _) (.bool s21)).setCell (p := ⟨X.heap.size, 1, none⟩) (Nat.le_refl _) (.slice A21 l21.length c21)
          obtain ⟨Y, hY⟩ : ∃ Y, (w51.setCell ⟨X.heap.size, 0, none⟩ (.bool s21)).setCell ⟨X.heap.size, 1, none⟩ (.slice A21 l21.length c21) = Y := ⟨_, rfl⟩
          rw [hY] at B21 qE ⊢
          have bvY := bvX.trans (qE.mono bvX.size)
          have S1Y := S1.on bvY
          have B30Y := B30.on qE
          have hltY := Nat.lt_of_lt_of_le hltX qE.size
          clear hY y30a y30b
          obtain rfl : s21 = false := by rw [z21.sgn]; exact decide_eq_false (by omega)
          obtain ⟨R, hR'⟩ : ∃ R, r + T = R := ⟨_, rfl⟩
          have z21' : IsZ false l21 (R : Int) := by rw [← hR', Int.natCast_add]; exact z21
          have hab := fun W' h1 h2 => above_calls A21 A3 c21 c3 l21 l3 R a n W' h1 h2 B21.cap n3 z21' s3 hz3.canon (by rw [hz3.val, Int.natAbs_natCast]) hn1 hn (z21.len_le (Nat.le_trans TS.out (by decide))) (hz3.len_le (by rw [Int.natAbs_natCast]; omega))
          have y0 := cell_at B21.blk 0 _ rfl
          have y1 := cell_at B21.blk 1 _ rfl
          have y2 := cell_at S1Y.blk 0 _ rfl
          have y3 := cell_at S1Y.blk 1 _ rfl
          by_cases hov : a < R ^ n
          · rw [decide_eq_true hov] at hab
            have Hov := Lib.hid hov
            have HR' := Lib.hid hR'
            clear hov hR'
            go_wp2_with (go_at_call 72; refine (hab _ B21.rd S1Y.rd).mono ?_; rintro e w60 ⟨rfl, b60⟩; have B21w := B21.on b60; have B30w := B30Y.on b60; have bw := bvY.trans (b60.mono bvY.size); clear y0 y1 y2 y3; have y0 := cell_at B21w.blk 0 _ rfl; have y1 := cell_at B21w.blk 1 _ rfl; have y4 := cell_at B30w.blk 0 _ rfl; have y5 := cell_at B30w.blk 1 _ rfl; have y6 := frozen_at B30w.blk 0; have y7 := frozen_at B30w.blk 1; have hltw := Nat.lt_of_lt_of_le hltY b60.size)
            exact ⟨⟨k, r, s30, A30, c30, l30, rfl, by omega, ⟨⟨B30w.blk⟩, z30, B30w.rd, B30w.cap⟩, hlo, by show _ < _; rw [HT.out, HR'.out]; exact Hov.out, bw, hltw⟩, by simp only [intOf]; omega⟩
          · rw [decide_eq_false hov] at hab
            have Hov := Lib.hid hov
            have HR' := Lib.hid hR'
            clear hov hR'
            go_wp2_with (go_at_call 72; refine (hab _ B21.rd S1Y.rd).mono ?_; rintro e w60 ⟨rfl, b60⟩; have B21w := B21.on b60; have B30w := B30Y.on b60; have bw := bvY.trans (b60.mono bvY.size); clear y0 y1 y2 y3; have y0 := cell_at B21w.blk 0 _ rfl; have y1 := cell_at B21w.blk 1 _ rfl; have y4 := cell_at B30w.blk 0 _ rfl; have y5 := cell_at B30w.blk 1 _ rfl; have y6 := frozen_at B30w.blk 0; have y7 := frozen_at B30w.blk 1; have hltw := Nat.lt_of_lt_of_le hltY b60.size)
            have hS := holds_set ⟨B30w.blk⟩ (by simp) (by simp) z21' B21w.rd B21w.cap
            exact ⟨⟨k, R, false, A21, c21, l21, rfl, by omega, hS, by have := Hov.out; show _ ≤ _; omega, by show _ < _; rw [← HR'.out, ← HT.out]; have := hhi.out; rwa [Nat.pow_succ, Nat.mul_two, ← Nat.add_assoc] at this, (bw.setCell (by dsimp only; omega) _).setCell (by dsimp only; omega) _, by simpa [World.setCell] using hltw⟩, by simp only [intOf]; omega⟩
      · obtain rfl : j = 0 := by omega
        have hroot := root_end hn1 hlo.out hhi.out
        have Hrn := Lib.hid (rootN_of hn1 hroot)
        have z30 := hH.isz
        have B1w := B1V.on hbl
        have y0 := cell_at B1w.blk 0 _ rfl
        have y1 := cell_at B1w.blk 1 _ rfl
        have hn0 : ¬ (0 : Int) ≤ ((0 : Nat) : Int) - 1 := by omega
        have Hsz := Lib.hid (pow_sz hlo.out la)
        have hle := hlo.out
        have hba := base_le hn1 hlo.out
        have B30 : IntBox wr (w3.heap.size + 1) s30 A30 c30 l30 := ⟨hH.blk.h, hH.rd, hH.cap⟩
        clear hroot hlo hhi h0 u0 u1
        clear y0 y1
        have y30a : wr.cell? ⟨w3.heap.size + 1, 0, none⟩ = some (.bool s30) := cell_at B30.blk 0 _ rfl
        have y30b : wr.cell? ⟨w3.heap.size + 1, 1, none⟩ = some (.slice A30 l30.length c30) := cell_at B30.blk 1 _ rfl
        have yQQa : wr.cell? ⟨w.heap.size, 0, none⟩ = some (.bool true) := cell_at B1w.blk 0 _ rfl
        have yQQb : wr.cell? ⟨w.heap.size, 1, none⟩ = some (.slice A l.length c) := cell_at B1w.blk 1 _ rfl
        have hcv : ∀ v, cmpZ ((r ^ n : Nat) : Int) (a : Int) = v → ∀ A7 c7 l7 W, IsZ (decide ((r : Int) ^ n < 0)) l7 ((r : Int) ^ n) → Rd W A7 l7 → Rd W A l → l7.length ≤ c7 → Calls Tryd.prog 73 #[.slice A7 l7.length c7, .slice A l.length c] W fun e w' => e = .returned (.int .i64 v) ∧ Below W.heap.size W w' := fun v hv A7 c7 l7 W z7 h7 h1 n7 => larger_v A7 A c7 c l7 l W h7 h1 n7 hc1 z7.canon k1.canon v (by rw [Ha.out, z7.val, Int.natAbs_pow, Int.natAbs_natCast]; exact hv)
        by_cases heq : r ^ n = a
        · have HC := hcv 0 (by rw [heq]; unfold cmpZ; rw [if_neg (by omega), if_neg (by omega)])
          clear hcv
          go_wp2_with fail
          go_region_held3 (fun w'' => w''.cell? ⟨w3.heap.size + 1, 0, none⟩ = some (.bool s30) ∧ w''.cell? ⟨w3.heap.size + 1, 1, none⟩ = some (.slice A30 l30.length c30) ∧ w''.cell? ⟨w.heap.size, 0, none⟩ = some (.bool true) ∧ w''.cell? ⟨w.heap.size, 1, none⟩ = some (.slice A l.length c)) ((first | (with_reducible exact ⟨y30a, y30b, yQQa, yQQb⟩) | exact ⟨y30a, y30b, yQQa, yQQb⟩))
              ((first
                | (go_at_call 73; have hmark := q30; refine (HC A7 c7 l7 w30 z7' r7 (B1w.rd.on q30) n7).mono ?_; rintro e w31 ⟨rfl, b31⟩; clear y30a y30b yQQa yQQb; have q31 := q30.trans (b31.mono q30.size); have y30a : w31.cell? ⟨w3.heap.size + 1, 0, none⟩ = some (.bool s30) := cell_at (B30.on q31).blk 0 _ rfl; have y30b : w31.cell? ⟨w3.heap.size + 1, 1, none⟩ = some (.slice A30 l30.length c30) := cell_at (B30.on q31).blk 1 _ rfl; have yQQa : w31.cell? ⟨w.heap.size, 0, none⟩ = some (.bool true) := cell_at (B1w.on q31).blk 0 _ rfl; have yQQb : w31.cell? ⟨w.heap.size, 1, none⟩ = some (.slice A l.length c) := cell_at (B1w.on q31).blk 1 _ rfl)
                | (go_at_call 74; refine (RPower_calls s30 A30 c30 l30 (r : Int) n _ (B30.rd.on (below_drew (Below.refl _ wr))) B30.cap z30 hn (z30.len_le (by rw [Int.natAbs_natCast]; exact Nat.le_trans (length_mono hba) (by omega))) Hsz.out).mono ?_; rintro e w30 ⟨s7, A7, c7, l7, rfl, z7, n7, r7, b30⟩; clear y30a y30b yQQa yQQb; have q30 := (below_drew (Below.refl _ wr)).trans b30; have z7' := z7; rw [z7.sgn] at z7'; have y30a : w30.cell? ⟨w3.heap.size + 1, 0, none⟩ = some (.bool s30) := cell_at (B30.on q30).blk 0 _ rfl; have y30b : w30.cell? ⟨w3.heap.size + 1, 1, none⟩ = some (.slice A30 l30.length c30) := cell_at (B30.on q30).blk 1 _ rfl; have yQQa : w30.cell? ⟨w.heap.size, 0, none⟩ = some (.bool true) := cell_at (B1w.on q30).blk 0 _ rfl; have yQQb : w30.cell? ⟨w.heap.size, 1, none⟩ = some (.slice A l.length c) := cell_at (B1w.on q30).blk 1 _ rfl)))
          have bvq := hbl.trans (q31.mono hbl.size)
          replace B30 := B30.on q31
          clear y30a y30b yQQa yQQb
          have y0 := cell_at B30.blk 0 _ rfl
          have y1 := cell_at B30.blk 1 _ rfl
          have Hf : Hid (fitZ (-(r : Int)) = (-(r : Int), 0)) := fit_neg hba la
          go_wp2_with first
            | (go_at_call 75; have hmark := hS; refine (fit_calls s8 A8 c8 l8 (-(r : Int)) _ hS.rd hS.cap z8).mono ?_; rintro e w6 ⟨s6, A6, c6, l6, rfl, z6, n6, r6, b6⟩; rw [Hf.out] at z6 ⊢; have bq := bS.trans (b6.mono bS.size); have rq := hRV.on bq; have rz0 := cell_at rq.h 0 _ rfl; have rz1 := cell_at rq.h 1 _ rfl; have rz2 := cell_at rq.h 2 _ rfl; have ru0 := frozen_at rq.h 0; have ru1 := frozen_at rq.h 1; have ru2 := frozen_at rq.h 2)
            | (go_at_call 38; refine (Minus_calls s30 A30 c30 l30 (r : Int) _ B30.rd B30.cap z30).mono ?_; rintro e w40 ⟨s8, A8, c8, l8, rfl, z8, n8, r8, b40⟩; have B40 := B30.on b40; have v0 := cell_at B40.blk 0 _ rfl; have v1 := cell_at B40.blk 1 _ rfl; have v2 := frozen_at B40.blk 0; have v3 := frozen_at B40.blk 1; have hS := holds_set ⟨B40.blk⟩ (by simp) (by simp) z8 r8 n8; have bS := ((bvq.trans (b40.mono bvq.size)).setCell (p := ⟨w3.heap.size + 1, 0, none⟩) (by dsimp only; omega) (.bool s8)).setCell (p := ⟨w3.heap.size + 1, 1, none⟩) (by dsimp only; omega) (.slice A8 l8.length c8); have v4 := cell_at hS.blk.h 0 _ rfl; have v5 := cell_at hS.blk.h 1 _ rfl)
          rw [show ceilN a n = r from by unfold ceilN; rw [Hrn.out, if_neg (by omega)]]
          have hne := r6.ne rq.h (by intro i x h; rcases i with _ | _ | _ | i <;> simp at h)
          have bw := bV.trans (bq.mono bV.size)
          exact ret_cellT rfl Tryd.underlying41 got_size rfl rfl (set3 rq.h _ _ _) rfl ⟨s6, A6, c6, l6, rfl, z6, n6, ((r6.setNe hne).setNe hne).setNe hne, (((hb.trans (bw.mono hb.size)).setCell (by dsimp only; omega) _).setCell (by dsimp only; omega) _).setCell (by dsimp only; omega) _⟩
        · have hlt2 : r ^ n < a := by omega
          have hba2 : r + 1 ≤ a := by have := le_pow_self r hn1; omega
          clear hle
          have HC := hcv (-1) (by unfold cmpZ; rw [if_pos (by omega)])
          clear hcv
          go_wp2_with fail
          go_region_held3 (fun w'' => w''.cell? ⟨w3.heap.size + 1, 0, none⟩ = some (.bool s30) ∧ w''.cell? ⟨w3.heap.size + 1, 1, none⟩ = some (.slice A30 l30.length c30) ∧ w''.cell? ⟨w.heap.size, 0, none⟩ = some (.bool true) ∧ w''.cell? ⟨w.heap.size, 1, none⟩ = some (.slice A l.length c)) ((first | (with_reducible exact ⟨y30a, y30b, yQQa, yQQb⟩) | exact ⟨y30a, y30b, yQQa, yQQb⟩))
              ((first
                | (go_at_call 73; have hmark := q30; refine (HC A7 c7 l7 w30 z7' r7 (B1w.rd.on q30) n7).mono ?_; rintro e w31 ⟨rfl, b31⟩; clear y30a y30b yQQa yQQb; have q31 := q30.trans (b31.mono q30.size); have y30a : w31.cell? ⟨w3.heap.size + 1, 0, none⟩ = some (.bool s30) := cell_at (B30.on q31).blk 0 _ rfl; have y30b : w31.cell? ⟨w3.heap.size + 1, 1, none⟩ = some (.slice A30 l30.length c30) := cell_at (B30.on q31).blk 1 _ rfl; have yQQa : w31.cell? ⟨w.heap.size, 0, none⟩ = some (.bool true) := cell_at (B1w.on q31).blk 0 _ rfl; have yQQb : w31.cell? ⟨w.heap.size, 1, none⟩ = some (.slice A l.length c) := cell_at (B1w.on q31).blk 1 _ rfl)
                | (go_at_call 74; refine (RPower_calls s30 A30 c30 l30 (r : Int) n _ (B30.rd.on (below_drew (Below.refl _ wr))) B30.cap z30 hn (z30.len_le (by rw [Int.natAbs_natCast]; exact Nat.le_trans (length_mono hba) (by omega))) Hsz.out).mono ?_; rintro e w30 ⟨s7, A7, c7, l7, rfl, z7, n7, r7, b30⟩; clear y30a y30b yQQa yQQb; have q30 := (below_drew (Below.refl _ wr)).trans b30; have z7' := z7; rw [z7.sgn] at z7'; have y30a : w30.cell? ⟨w3.heap.size + 1, 0, none⟩ = some (.bool s30) := cell_at (B30.on q30).blk 0 _ rfl; have y30b : w30.cell? ⟨w3.heap.size + 1, 1, none⟩ = some (.slice A30 l30.length c30) := cell_at (B30.on q30).blk 1 _ rfl; have yQQa : w30.cell? ⟨w.heap.size, 0, none⟩ = some (.bool true) := cell_at (B1w.on q30).blk 0 _ rfl; have yQQb : w30.cell? ⟨w.heap.size, 1, none⟩ = some (.slice A l.length c) := cell_at (B1w.on q30).blk 1 _ rfl)))
          have bvq := hbl.trans (q31.mono hbl.size)
          replace B30 := B30.on q31
          clear y30a y30b yQQa yQQb
          have y0 := cell_at B30.blk 0 _ rfl
          have y1 := cell_at B30.blk 1 _ rfl
          have Hf : Hid (fitZ (-((r : Int) + 1)) = (-((r : Int) + 1), 0)) := fit_neg' (by omega) la
          have hltq := Nat.lt_of_lt_of_le hlt q31.size
          go_wp2_with fail
          go_region_with (first
            | (go_at_call 29; have hmark := B31; refine (Sum_calls s30 s31 A30 A31 c30 c31 l30 l31 (r : Int) 1 _ B31.rd r31 B31.cap n31 z30 z31 (z30.len_le (by rw [Int.natAbs_natCast]; exact Nat.le_trans (length_mono hba) (by omega))) (z31.len_le (Nat.le_trans (length_le_of_lt (k := 1) (by decide)) (by decide)))).mono ?_; rintro e w33 ⟨s33, A33, c33, l33, rfl, z33, n33, r33, b33⟩; have B33 := B31.on b33; have bv33 := bv32.trans (b33.mono bv32.size); have v0 := cell_at B33.blk 0 _ rfl; have v1 := cell_at B33.blk 1 _ rfl; have v2 := frozen_at B33.blk 0; have v3 := frozen_at B33.blk 1)
            | (go_at_call 40; refine (ROf_calls 1 _ (by decide) (by decide)).mono ?_; rintro e w32 ⟨s31, A31, c31, l31, rfl, z31, n31, r31, b32⟩; have B31 := B30.on ((below_drew (Below.refl _ _)).trans b32); have bv32 := bvq.trans (((below_drew (Below.refl _ _)).trans b32).mono bvq.size); have y2 := cell_at B31.blk 0 _ rfl; have y3 := cell_at B31.blk 1 _ rfl))
          all_goals
            have hT := holds_set ⟨B33.blk⟩ (by simp) (by simp) z33 r33 n33
            have bT := (bv33.setCell (p := ⟨w3.heap.size + 1, 0, none⟩) (by dsimp only; omega) (.bool s33)).setCell (p := ⟨w3.heap.size + 1, 1, none⟩) (by dsimp only; omega) (.slice A33 l33.length c33)
            obtain ⟨Z, hZ⟩ : ∃ Z, (w33.setCell ⟨w3.heap.size + 1, 0, none⟩ (.bool s33)).setCell ⟨w3.heap.size + 1, 1, none⟩ (.slice A33 l33.length c33) = Z := ⟨_, rfl⟩
            rw [hZ] at hT bT ⊢
            clear hZ y0 y1 v0 v1 v2 v3
            have B34 : IntBox Z (w3.heap.size + 1) s33 A33 c33 l33 := ⟨hT.blk.h, hT.rd, hT.cap⟩
            have y0 := cell_at B34.blk 0 _ rfl
            have y1 := cell_at B34.blk 1 _ rfl
            go_wp2_with first
              | (go_at_call 75; have hmark := hS; refine (fit_calls s8 A8 c8 l8 (-((r : Int) + 1)) _ hS.rd hS.cap z8).mono ?_; rintro e w6 ⟨s6, A6, c6, l6, rfl, z6, n6, r6, b6⟩; rw [Hf.out] at z6 ⊢; have bq := bS.trans (b6.mono bS.size); have rq := hRV.on bq; have rz0 := cell_at rq.h 0 _ rfl; have rz1 := cell_at rq.h 1 _ rfl; have rz2 := cell_at rq.h 2 _ rfl; have ru0 := frozen_at rq.h 0; have ru1 := frozen_at rq.h 1; have ru2 := frozen_at rq.h 2)
              | (go_at_call 38; refine (Minus_calls s33 A33 c33 l33 ((r : Int) + 1) _ B34.rd B34.cap z33).mono ?_; rintro e w40 ⟨s8, A8, c8, l8, rfl, z8, n8, r8, b40⟩; have B40 := B34.on b40; have v0 := cell_at B40.blk 0 _ rfl; have v1 := cell_at B40.blk 1 _ rfl; have v2 := frozen_at B40.blk 0; have v3 := frozen_at B40.blk 1; have hS := holds_set ⟨B40.blk⟩ (by simp) (by simp) z8 r8 n8; have bS := ((bT.trans (b40.mono bT.size)).setCell (p := ⟨w3.heap.size + 1, 0, none⟩) (by dsimp only; omega) (.bool s8)).setCell (p := ⟨w3.heap.size + 1, 1, none⟩) (by dsimp only; omega) (.slice A8 l8.length c8); have v4 := cell_at hS.blk.h 0 _ rfl; have v5 := cell_at hS.blk.h 1 _ rfl)
            rw [show ((ceilN a n : Nat) : Int) = (r : Int) + 1 from by unfold ceilN; rw [Hrn.out, if_pos (by omega)]; rfl]
            have hne := r6.ne rq.h (by intro i x h; rcases i with _ | _ | _ | i <;> simp at h)
            have bw := bV.trans (bq.mono bV.size)
            exact ret_cellT rfl Tryd.underlying41 got_size rfl rfl (set3 rq.h _ _ _) rfl ⟨s6, A6, c6, l6, rfl, z6, n6, ((r6.setNe hne).setNe hne).setNe hne, (((hb.trans (bw.mono hb.size)).setCell (by dsimp only; omega) _).setCell (by dsimp only; omega) _).setCell (by dsimp only; omega) _⟩

end Nm
end Go.Proofs.YtlhmbbpkhahbeaaDoor
namespace Go.Proofs.YtlhmbbpkhahbeaaDoor
namespace Nm
open Go.RowKit Go.Shelf Go.BigFrame
attribute [local go_sem] Oper.semAt_some

set_option maxRecDepth 100000 in
set_option maxHeartbeats 2000000 in
theorem RRoot_bad (n1 : Bool) (n : Int) (A : Option Addr) (c : Nat) (l : List Nat) (w : World) (h1 : Rd w A l) (hc1 : l.length ≤ c) (hbad : okI n1 l = false ∨ (okI n1 l = true ∧ (n < 1 ∨ (¬ n < 1 ∧ 100 < n)))) :
    Calls Tryd.prog 25 #[iv n1 A l.length c, .int .i64 n] w (RetGot 0 1 w) := by
  have hb2 : ∀ a b, Below w.heap.size w ((w.alloc a).alloc b) := fun a b => ((Below.refl _ w).alloc (Nat.le_refl _) _).alloc (by simp) _
  obtain ⟨W2, hW2⟩ : ∃ W2, (w.alloc (.cells #[.bool n1, .slice A l.length c] 24)).alloc (.cells #[.bool false, .slice none 0 0, .int .i64 0] 41) = W2 := ⟨_, rfl⟩
  have hb : Below w.heap.size w W2 := by rw [← hW2]; exact hb2 _ _
  have B1 : IntBox W2 w.heap.size n1 A c l := ⟨by rw [← hW2]; exact (two_old w _ _ rfl).h, h1.on hb, hc1⟩
  have hR : Blk W2 (w.heap.size + 1) #[.bool false, .slice none 0 0, .int .i64 0] 41 := ⟨by rw [← hW2]; exact two_blk w _ _⟩
  have hfo := Formed_calls n1 A c l W2 B1.rd hc1
  have x0 := cell_at B1.blk 0 _ rfl
  have x1 := cell_at B1.blk 1 _ rfl
  rcases hbad with hk | ⟨hk, hn | ⟨hn, hn'⟩⟩
  all_goals
    rw [hk] at hfo
    clear hk
    go_enter Tryd.func25, Tryd.ntmps25
    go_wp2_with (go_at_call 16; refine hfo.mono ?_; rintro e w4 ⟨rfl, b4⟩; have rq := hR.on b4; have rz0 := cell_at rq.h 0 _ rfl; have rz1 := cell_at rq.h 1 _ rfl; have rz2 := cell_at rq.h 2 _ rfl; have ru0 := frozen_at rq.h 0; have ru1 := frozen_at rq.h 1; have ru2 := frozen_at rq.h 2)
    exact ret_cellT rfl Tryd.underlying41 got_size rfl rfl (set3 rq.h _ _ _) rfl ⟨false, none, 0, [], rfl, isZ_zero, Nat.le_refl _, Rd.nil _ _, (((hb.trans (b4.mono hb.size)).setCell (by dsimp only; omega) _).setCell (by dsimp only; omega) _).setCell (by dsimp only; omega) _⟩

set_option maxRecDepth 100000 in
set_option maxHeartbeats 2000000 in
theorem RRoot_none (n : Int) (A : Option Addr) (c : Nat) (l : List Nat) (w : World) (h1 : Rd w A l) (hc1 : l.length ≤ c) (hk : okI true l = true) (hn1 : 1 ≤ n) (hn : n ≤ 100) (he : n % 2 = 0) :
    Calls Tryd.prog 25 #[iv true A l.length c, .int .i64 n] w (RetGot 0 5 w) := by
  have hb2 : ∀ a b, Below w.heap.size w ((w.alloc a).alloc b) := fun a b => ((Below.refl _ w).alloc (Nat.le_refl _) _).alloc (by simp) _
  obtain ⟨W2, hW2⟩ : ∃ W2, (w.alloc (.cells #[.bool true, .slice A l.length c] 24)).alloc (.cells #[.bool false, .slice none 0 0, .int .i64 0] 41) = W2 := ⟨_, rfl⟩
  have hb : Below w.heap.size w W2 := by rw [← hW2]; exact hb2 _ _
  have B1 : IntBox W2 w.heap.size true A c l := ⟨by rw [← hW2]; exact (two_old w _ _ rfl).h, h1.on hb, hc1⟩
  have hR : Blk W2 (w.heap.size + 1) #[.bool false, .slice none 0 0, .int .i64 0] 41 := ⟨by rw [← hW2]; exact two_blk w _ _⟩
  have hfo := Formed_is true A c l W2 B1.rd hc1 true hk
  have x0 := cell_at B1.blk 0 _ rfl
  have x1 := cell_at B1.blk 1 _ rfl
  have hp0 : (n % 2 == 0) = true := by rw [he]; rfl
  have hp1 : (n.tmod 2 == 0) = true := by rw [Int.tmod_eq_emod_of_nonneg (by omega)]; exact hp0
  clear hk he
  go_enter Tryd.func25, Tryd.ntmps25
  go_wp2_with (go_at_call 16; refine hfo.mono ?_; rintro e w4 ⟨rfl, b4⟩; have rq := hR.on b4; have rz0 := cell_at rq.h 0 _ rfl; have rz1 := cell_at rq.h 1 _ rfl; have rz2 := cell_at rq.h 2 _ rfl; have ru0 := frozen_at rq.h 0; have ru1 := frozen_at rq.h 1; have ru2 := frozen_at rq.h 2; have B4 := B1.on b4; have v0 := cell_at B4.blk 0 _ rfl; have v1 := cell_at B4.blk 1 _ rfl)
  exact ret_cellT rfl Tryd.underlying41 got_size rfl rfl (set3 rq.h _ _ _) rfl ⟨false, none, 0, [], rfl, isZ_zero, Nat.le_refl _, Rd.nil _ _, (((hb.trans (b4.mono hb.size)).setCell (by dsimp only; omega) _).setCell (by dsimp only; omega) _).setCell (by dsimp only; omega) _⟩

theorem RRoot_calls (n1 : Bool) (n : Int) (A : Option Addr) (c : Nat) (l : List Nat) (w : World) (h1 : Rd w A l) (hc1 : l.length ≤ c) :
    Calls Tryd.prog 25 #[iv n1 A l.length c, .int .i64 n] w (RetGot (rootR n1 l n).1 (rootR n1 l n).2 w) := by
  unfold rootR
  by_cases hok : okI n1 l = true
  · rw [if_pos hok]
    by_cases hn : 1 ≤ n ∧ n ≤ 100
    · rw [if_pos hn]
      by_cases hp : (!n1 || (n % 2 == 1)) = true
      · rw [if_pos hp]
        obtain ⟨m, rfl⟩ : ∃ m : Nat, n = (m : Int) := ⟨n.toNat, by omega⟩
        rw [Int.toNat_natCast]
        refine RRoot_ok n1 m A c l w h1 hc1 hok (by omega) (by omega) ?_
        cases n1
        · rfl
        · rw [Bool.true_and, beq_eq_false_iff_ne]
          rw [Bool.not_true, Bool.false_or, beq_iff_eq] at hp
          omega
      · rw [if_neg hp]
        cases n1
        · exact absurd rfl hp
        · rw [Bool.not_true, Bool.false_or, beq_iff_eq] at hp
          exact RRoot_none n A c l w h1 hc1 hok hn.1 hn.2 (by omega)
    · rw [if_neg hn]
      exact RRoot_bad n1 n A c l w h1 hc1 (.inr ⟨hok, by omega⟩)
  · rw [if_neg hok]
    exact RRoot_bad n1 n A c l w h1 hc1 (.inl (by simpa using hok))

theorem few_one (m : Nat) (g : Nat) (n1 : Bool) (A1 : Option Addr) (c1 : Nat) (l1 : List Nat) (w : World) (hg : w.heap[g]? = some (.cells #[.bool n1, .slice A1 l1.length c1] 24 (0, 0))) (h1 : Rd w A1 l1) (hc1 : l1.length ≤ c1) (b : Bool) (hb : decide (l1.length ≤ m) = b) :
    Calls Tryd.prog 15 #[.int .i64 (m : Int), .slice (some ⟨g, 0, none⟩) 1 1] w fun e w' => e = .returned (.bool b) ∧ w = w' := by
  have := few_calls m g [⟨n1, A1, c1, l1⟩] w ⟨?_, ?_, ?_⟩ (by simp)
  · rw [← hb]
    simpa using this
  · intro k hk
    obtain rfl : k = 0 := by simp at hk; omega
    exact cell_at hg 0 _ rfl
  · intro k hk
    obtain rfl : k = 0 := by simp at hk; omega
    exact cell_at hg 1 _ rfl
  · intro k hk
    obtain rfl : k = 0 := by simp at hk; omega
    exact ⟨h1, hc1⟩

set_option maxRecDepth 100000 in
set_option maxHeartbeats 16000000 in
theorem NumPowers_calls (s1 : Bool) (A1 : Option Addr) (c1 : Nat) (l1 : List Nat) (n m : Int) (w : World) (h1 : Rd w A1 l1) (hc1 : l1.length ≤ c1) (_ : -9223372036854775808 ≤ n) (_ : n < 9223372036854775808) (_ : -9223372036854775808 ≤ m) (_ : m < 9223372036854775808) (hd : DigW w) :
    Calls Tryd.prog 4 #[iv s1 A1 l1.length c1, .int .i64 n, .int .i64 m] w fun e w' => e = .returned (.bool true) ∧ Below w.heap.size w w' := by
  obtain ⟨hbw, B1⟩ := one_box w s1 A1 c1 l1 h1 hc1
  obtain ⟨W, hW⟩ : ∃ W, w.alloc (.cells #[.bool s1, .slice A1 l1.length c1] 24) = W := ⟨_, rfl⟩
  rw [hW] at hbw B1
  have hsz0 : w.heap.size < W.heap.size := by rw [← hW]; simp
  have x0 := cell_at B1.blk 0 _ rfl
  have x1 := cell_at B1.blk 1 _ rfl
  have hal : ∀ o, Below W.heap.size W (W.alloc o) := fun o => (Below.refl _ W).alloc (Nat.le_refl _) _
  obtain ⟨b30, h30⟩ : ∃ b, decide (l1.length ≤ 30) = b := ⟨_, rfl⟩
  have f30 := few_one 30 W.heap.size s1 A1 c1 l1 _ (World.alloc_heap_new W (.cells #[.bool s1, .slice A1 l1.length c1] 24)) (B1.rd.on (hal _)) hc1 _ h30
  have K1 := fun W' h => Pow_calls s1 n A1 c1 l1 W' h hc1
  have K2 := fun W' h => Root_calls s1 m A1 c1 l1 W' h hc1
  have R1 := fun W' h => RPow_calls s1 n A1 c1 l1 W' h hc1
  have R2 := fun W' h => RRoot_calls s1 m A1 c1 l1 W' h hc1
  obtain ⟨⟨p, ep⟩, hp⟩ : ∃ P, powR s1 l1 n = P := ⟨_, rfl⟩
  obtain ⟨⟨r, er⟩, hr⟩ : ∃ P, rootR s1 l1 m = P := ⟨_, rfl⟩
  rw [hp] at K1 R1
  rw [hr] at K2 R2
  have hdW := hd.on hbw
  clear h30 hp hr
  cases b30
  · go_enter Tryd.func4, Tryd.ntmps4
    go_wp2_with first
      | (go_at_call 17; have hmark := by9; refine (sane_calls _ (hdW.on by9)).mono ?_; rintro e w10 ⟨rfl, b10⟩; have by10 := by9.trans (b10.mono by9.size); replace B1 := B1.on b10; clear b10)
      | (go_at_call 15; refine f30.mono ?_; rintro e w4 ⟨rfl, rfl⟩; have by9 := hal (.cells #[.bool s1, .slice A1 l1.length c1] 24); replace B1 := B1.on by9)
    go_ret
    exact ⟨rfl, hbw.trans (by10.mono hbw.size)⟩
  · go_enter Tryd.func4, Tryd.ntmps4
    go_wp2_with first
      | (go_at_call 22; have hmark := by10; refine (K2 _ B1.rd).mono ?_; rintro e w11 ⟨s9, A9, c9, l9, rfl, z9, n9, r9, b11⟩; obtain ⟨bx11, B9⟩ := one_box w11 s9 A9 c9 l9 r9 n9; have by11 := (by10.trans (b11.mono by10.size)).trans (bx11.mono (by10.trans (b11.mono by10.size)).size); replace B1 := (B1.on b11).on bx11; replace B7 := (B7.on b11).on bx11; clear bx11 b11; clear u1a u1b)
      | (go_at_call 21; have hmark := by9; refine (K1 _ B1.rd).mono ?_; rintro e w10 ⟨s7, A7, c7, l7, rfl, z7, n7, r7, b10⟩; obtain ⟨bx10, B7⟩ := one_box w10 s7 A7 c7 l7 r7 n7; have by10 := (by9.trans (b10.mono by9.size)).trans (bx10.mono (by9.trans (b10.mono by9.size)).size); replace B1 := (B1.on b10).on bx10; clear bx10 b10; clear u1a u1b; have u1a := cell_at B1.blk 0 _ rfl; have u1b := cell_at B1.blk 1 _ rfl)
      | (go_at_call 15; refine f30.mono ?_; rintro e w4 ⟨rfl, rfl⟩; have by9 := hal (.cells #[.bool s1, .slice A1 l1.length c1] 24); replace B1 := B1.on by9; have u1a := cell_at B1.blk 0 _ rfl; have u1b := cell_at B1.blk 1 _ rfl)
    clear x0 x1
    obtain ⟨X, hX⟩ : ∃ X, w11.alloc (.cells #[.bool s9, .slice A9 l9.length c9] 24) = X := ⟨_, rfl⟩
    rw [hX] at B1 B7 B9 by11 ⊢
    clear hX
    have y7a : X.cell? ⟨w10.heap.size, 0, none⟩ = some (.bool s7) := cell_at B7.blk 0 _ rfl
    have y7b : X.cell? ⟨w10.heap.size, 1, none⟩ = some (.slice A7 l7.length c7) := cell_at B7.blk 1 _ rfl
    have y1a : X.cell? ⟨w.heap.size, 0, none⟩ = some (.bool s1) := cell_at B1.blk 0 _ rfl
    have y1b : X.cell? ⟨w.heap.size, 1, none⟩ = some (.slice A1 l1.length c1) := cell_at B1.blk 1 _ rfl
    have y9a : X.cell? ⟨w11.heap.size, 0, none⟩ = some (.bool s9) := cell_at B9.blk 0 _ rfl
    have y9b : X.cell? ⟨w11.heap.size, 1, none⟩ = some (.slice A9 l9.length c9) := cell_at B9.blk 1 _ rfl
    go_region_held3 (fun w'' => w''.cell? ⟨w10.heap.size, 0, none⟩ = some (.bool s7) ∧ w''.cell? ⟨w10.heap.size, 1, none⟩ = some (.slice A7 l7.length c7) ∧ w''.cell? ⟨w.heap.size, 0, none⟩ = some (.bool s1) ∧ w''.cell? ⟨w.heap.size, 1, none⟩ = some (.slice A1 l1.length c1) ∧ w''.cell? ⟨w11.heap.size, 0, none⟩ = some (.bool s9) ∧ w''.cell? ⟨w11.heap.size, 1, none⟩ = some (.slice A9 l9.length c9)) ((first | (with_reducible exact ⟨y7a, y7b, y1a, y1b, y9a, y9b⟩) | exact ⟨y7a, y7b, y1a, y1b, y9a, y9b⟩))
        ((first
          | (go_at_call 23; have hmark := q33; refine (got_calls s9 A9 c9 l9 s21 A21 c21 l21 r er w33 (B9.rd.on q33) r21 n9 n21 z9 z21).mono ?_; rintro e w34 ⟨rfl, b34⟩; clear y7a y7b y1a y1b y9a y9b; have q34 := q33.trans (b34.mono q33.size); have y7a : w34.cell? ⟨w10.heap.size, 0, none⟩ = some (.bool s7) := cell_at (B7.on q34).blk 0 _ rfl; have y7b : w34.cell? ⟨w10.heap.size, 1, none⟩ = some (.slice A7 l7.length c7) := cell_at (B7.on q34).blk 1 _ rfl; have y1a : w34.cell? ⟨w.heap.size, 0, none⟩ = some (.bool s1) := cell_at (B1.on q34).blk 0 _ rfl; have y1b : w34.cell? ⟨w.heap.size, 1, none⟩ = some (.slice A1 l1.length c1) := cell_at (B1.on q34).blk 1 _ rfl; have y9a : w34.cell? ⟨w11.heap.size, 0, none⟩ = some (.bool s9) := cell_at (B9.on q34).blk 0 _ rfl; have y9b : w34.cell? ⟨w11.heap.size, 1, none⟩ = some (.slice A9 l9.length c9) := cell_at (B9.on q34).blk 1 _ rfl)
          | (go_at_call 25; have hmark := q32; refine (R2 w32 (B1.rd.on q32)).mono ?_; rintro e w33 ⟨s21, A21, c21, l21, rfl, z21, n21, r21, b33⟩; clear y7a y7b y1a y1b y9a y9b; have q33 := q32.trans (b33.mono q32.size); have y7a : w33.cell? ⟨w10.heap.size, 0, none⟩ = some (.bool s7) := cell_at (B7.on q33).blk 0 _ rfl; have y7b : w33.cell? ⟨w10.heap.size, 1, none⟩ = some (.slice A7 l7.length c7) := cell_at (B7.on q33).blk 1 _ rfl; have y1a : w33.cell? ⟨w.heap.size, 0, none⟩ = some (.bool s1) := cell_at (B1.on q33).blk 0 _ rfl; have y1b : w33.cell? ⟨w.heap.size, 1, none⟩ = some (.slice A1 l1.length c1) := cell_at (B1.on q33).blk 1 _ rfl; have y9a : w33.cell? ⟨w11.heap.size, 0, none⟩ = some (.bool s9) := cell_at (B9.on q33).blk 0 _ rfl; have y9b : w33.cell? ⟨w11.heap.size, 1, none⟩ = some (.slice A9 l9.length c9) := cell_at (B9.on q33).blk 1 _ rfl)
          | (go_at_call 23; have hmark := q31; refine (got_calls s7 A7 c7 l7 s20 A20 c20 l20 p ep w31 (B7.rd.on q31) r20 n7 n20 z7 z20).mono ?_; rintro e w32 ⟨rfl, b32⟩; clear y7a y7b y1a y1b y9a y9b; have q32 := q31.trans (b32.mono q31.size); have y7a : w32.cell? ⟨w10.heap.size, 0, none⟩ = some (.bool s7) := cell_at (B7.on q32).blk 0 _ rfl; have y7b : w32.cell? ⟨w10.heap.size, 1, none⟩ = some (.slice A7 l7.length c7) := cell_at (B7.on q32).blk 1 _ rfl; have y1a : w32.cell? ⟨w.heap.size, 0, none⟩ = some (.bool s1) := cell_at (B1.on q32).blk 0 _ rfl; have y1b : w32.cell? ⟨w.heap.size, 1, none⟩ = some (.slice A1 l1.length c1) := cell_at (B1.on q32).blk 1 _ rfl; have y9a : w32.cell? ⟨w11.heap.size, 0, none⟩ = some (.bool s9) := cell_at (B9.on q32).blk 0 _ rfl; have y9b : w32.cell? ⟨w11.heap.size, 1, none⟩ = some (.slice A9 l9.length c9) := cell_at (B9.on q32).blk 1 _ rfl)
          | (go_at_call 24; have hmark := q30; refine (R1 w30 (B1.rd.on q30)).mono ?_; rintro e w31 ⟨s20, A20, c20, l20, rfl, z20, n20, r20, b31⟩; clear y7a y7b y1a y1b y9a y9b; have q31 := q30.trans (b31.mono q30.size); have y7a : w31.cell? ⟨w10.heap.size, 0, none⟩ = some (.bool s7) := cell_at (B7.on q31).blk 0 _ rfl; have y7b : w31.cell? ⟨w10.heap.size, 1, none⟩ = some (.slice A7 l7.length c7) := cell_at (B7.on q31).blk 1 _ rfl; have y1a : w31.cell? ⟨w.heap.size, 0, none⟩ = some (.bool s1) := cell_at (B1.on q31).blk 0 _ rfl; have y1b : w31.cell? ⟨w.heap.size, 1, none⟩ = some (.slice A1 l1.length c1) := cell_at (B1.on q31).blk 1 _ rfl; have y9a : w31.cell? ⟨w11.heap.size, 0, none⟩ = some (.bool s9) := cell_at (B9.on q31).blk 0 _ rfl; have y9b : w31.cell? ⟨w11.heap.size, 1, none⟩ = some (.slice A9 l9.length c9) := cell_at (B9.on q31).blk 1 _ rfl)
          | (go_at_call 17; refine (sane_calls _ (hdW.on (by11.trans ((below_drew (Below.refl _ X)).mono by11.size)))).mono ?_; rintro e w30 ⟨rfl, b30⟩; clear y7a y7b y1a y1b y9a y9b; have q30 := (below_drew (Below.refl _ X)).trans b30; have y7a : w30.cell? ⟨w10.heap.size, 0, none⟩ = some (.bool s7) := cell_at (B7.on q30).blk 0 _ rfl; have y7b : w30.cell? ⟨w10.heap.size, 1, none⟩ = some (.slice A7 l7.length c7) := cell_at (B7.on q30).blk 1 _ rfl; have y1a : w30.cell? ⟨w.heap.size, 0, none⟩ = some (.bool s1) := cell_at (B1.on q30).blk 0 _ rfl; have y1b : w30.cell? ⟨w.heap.size, 1, none⟩ = some (.slice A1 l1.length c1) := cell_at (B1.on q30).blk 1 _ rfl; have y9a : w30.cell? ⟨w11.heap.size, 0, none⟩ = some (.bool s9) := cell_at (B9.on q30).blk 0 _ rfl; have y9b : w30.cell? ⟨w11.heap.size, 1, none⟩ = some (.slice A9 l9.length c9) := cell_at (B9.on q30).blk 1 _ rfl)))
    go_wp2_with fail
    go_ret
    exact ⟨rfl, hbw.trans ((by11.trans (q34.mono by11.size)).mono hbw.size)⟩

end Nm
end Go.Proofs.YtlhmbbpkhahbeaaDoor
namespace Go.Proofs.YtlhmbbpkhahbeaaDoor
namespace Nm
open Go.RowKit Go.Shelf Go.BigFrame
attribute [local go_sem] Oper.semAt_some

theorem RParse_calls (n : Int) (S : ByteArray) (w : World) (hsm : S.size < 35184372088832) :
    Calls Tryd.prog 34 #[.string S, .int .i64 n] w (RetGot (parR n (bytesN S)).1 (parR n (bytesN S)).2 w) := by
  unfold parR
  by_cases hn : 2 ≤ n ∧ n ≤ 36
  · rw [if_pos hn]
    obtain ⟨b, rfl⟩ : ∃ m : Nat, n = (m : Int) := ⟨n.toNat, by omega⟩
    rw [Int.toNat_natCast]
    have hb1 : 2 ≤ b := by omega
    have hb2 : b ≤ 36 := by omega
    have hlen := bytesN_length S
    by_cases hS : S.size = 0
    · have : bytesN S = [] := List.length_eq_zero_iff.1 (by omega)
      rw [this, show parOk b (pbody []) = false from rfl, if_neg (by decide)]
      exact RParse_empty0 b S w hb1 hb2 hS
    · have hS0 : 0 < S.size := by omega
      have hg := getB hS0
      obtain ⟨c0, hc0⟩ : ∃ c, (bytesN S).getD 0 0 = c := ⟨_, rfl⟩
      rw [hc0] at hg
      obtain ⟨t, hcs⟩ : ∃ t, bytesN S = c0 :: t := by
        rcases hh : bytesN S with _ | ⟨x, t⟩
        · rw [hh] at hlen; simp at hlen; omega
        · rw [hh] at hc0
          exact ⟨t, by rw [show x = c0 by simpa using hc0]⟩
      by_cases h45 : c0 = 45
      · have hp : pneg (bytesN S) = true := by rw [hcs, h45]; rfl
        have hbd : pbody (bytesN S) = (bytesN S).drop 1 := by unfold pbody; rw [hp, if_pos rfl, List.drop_one]
        have hneg : ((c0 : Int) == 45) = true := by rw [h45]; rfl
        rw [hbd, hp, if_pos rfl]
        rcases hok : parOk b ((bytesN S).drop 1) with _ | _
        · rw [if_neg (by decide)]
          rcases parOk_false hok with h0 | ⟨p, hp1, hp2⟩
          · rw [List.length_drop] at h0
            exact RParse_empty1 b S w hb1 hb2 (by omega) (by rw [h45] at hg; exact hg)
          · rw [List.length_drop] at hp1
            rw [getD_drop] at hp2
            exact RParse_bad_t b S w hb1 hb2 c0 hg hneg hsm (1 + p) (by omega) (by omega) hp2
        · rw [if_pos rfl]
          obtain ⟨h0, hall⟩ := parOk_true hok
          rw [List.length_drop] at h0 hall
          refine RParse_good_t b S w hb1 hb2 c0 hg hneg hsm (by omega) (fun k h1 h2 => ?_)
          have := hall (k - 1) (by omega)
          rwa [getD_drop, show 1 + (k - 1) = k by omega] at this
      · have hp : pneg (bytesN S) = false := by rw [hcs]; unfold pneg; simpa using h45
        have hbd : pbody (bytesN S) = (bytesN S).drop 0 := by unfold pbody; rw [hp, if_neg (by decide), List.drop_zero]
        have hneg : ((c0 : Int) == 45) = false := by rw [beq_eq_false_iff_ne]; omega
        rw [hbd, hp, if_neg (show ¬ (false = true) by decide)]
        rcases hok : parOk b ((bytesN S).drop 0) with _ | _
        · rw [if_neg (by decide)]
          rcases parOk_false hok with h0 | ⟨p, hp1, hp2⟩
          · rw [List.length_drop] at h0; omega
          · rw [List.length_drop] at hp1
            rw [getD_drop] at hp2
            exact RParse_bad_f b S w hb1 hb2 c0 hg hneg hsm (0 + p) (by omega) (by omega) hp2
        · rw [if_pos rfl]
          obtain ⟨h0, hall⟩ := parOk_true hok
          rw [List.length_drop] at h0 hall
          refine RParse_good_f b S w hb1 hb2 c0 hg hneg hsm (by omega) (fun k h1 h2 => ?_)
          have := hall k (by omega)
          rwa [getD_drop, Nat.zero_add] at this
  · rw [if_neg hn]
    exact RParse_base n S w (by omega)

set_option maxRecDepth 100000 in
set_option maxHeartbeats 16000000 in
theorem NumTexts_calls (s1 : Bool) (A1 : Option Addr) (c1 : Nat) (l1 : List Nat) (n : Int) (S : ByteArray) (w : World) (h1 : Rd w A1 l1) (hc1 : l1.length ≤ c1) (_ : -9223372036854775808 ≤ n) (_ : n < 9223372036854775808) (hd : DigW w) :
    Calls Tryd.prog 6 #[iv s1 A1 l1.length c1, .int .i64 n, .string S] w fun e w' => e = .returned (.bool true) ∧ Below w.heap.size w w' := by
  obtain ⟨hbw, B1⟩ := one_box w s1 A1 c1 l1 h1 hc1
  obtain ⟨W, hW⟩ : ∃ W, w.alloc (.cells #[.bool s1, .slice A1 l1.length c1] 24) = W := ⟨_, rfl⟩
  rw [hW] at hbw B1
  have hsz0 : w.heap.size < W.heap.size := by rw [← hW]; simp
  have x0 := cell_at B1.blk 0 _ rfl
  have x1 := cell_at B1.blk 1 _ rfl
  have hal : ∀ o, Below W.heap.size W (W.alloc o) := fun o => (Below.refl _ W).alloc (Nat.le_refl _) _
  obtain ⟨b30, h30⟩ : ∃ b, decide (l1.length ≤ 60) = b := ⟨_, rfl⟩
  have f30 := few_one 60 W.heap.size s1 A1 c1 l1 _ (World.alloc_heap_new W (.cells #[.bool s1, .slice A1 l1.length c1] 24)) (B1.rd.on (hal _)) hc1 _ h30
  have hdW := hd.on hbw
  clear h30
  cases b30
  · go_enter Tryd.func6, Tryd.ntmps6
    go_wp2_with first
      | (go_at_call 17; have hmark := by9; refine (sane_calls _ (hdW.on by9)).mono ?_; rintro e w10 ⟨rfl, b10⟩; have by10 := by9.trans (b10.mono by9.size); replace B1 := B1.on b10; clear b10)
      | (go_at_call 15; refine f30.mono ?_; rintro e w4 ⟨rfl, rfl⟩; have by9 := hal (.cells #[.bool s1, .slice A1 l1.length c1] 24); replace B1 := B1.on by9)
    go_ret
    exact ⟨rfl, hbw.trans (by10.mono hbw.size)⟩
  · by_cases hS : 400 < S.size
    · have hSI : (400 : Int) < (S.size : Int) := by omega
      go_enter Tryd.func6, Tryd.ntmps6
      go_wp2_with first
        | (go_at_call 17; have hmark := by9; refine (sane_calls _ (hdW.on by9)).mono ?_; rintro e w10 ⟨rfl, b10⟩; have by10 := by9.trans (b10.mono by9.size); replace B1 := B1.on b10; clear b10)
        | (go_at_call 15; refine f30.mono ?_; rintro e w4 ⟨rfl, rfl⟩; have by9 := hal (.cells #[.bool s1, .slice A1 l1.length c1] 24); replace B1 := B1.on by9)
      go_ret
      exact ⟨rfl, hbw.trans (by10.mono hbw.size)⟩
    · have hSI : ¬ (400 : Int) < (S.size : Int) := by omega
      have hsm : S.size < 35184372088832 := by omega
      have K1 := fun W' h hd' => Text_calls s1 n A1 c1 l1 W' h hc1 hd'
      have R1 := fun W' h => RText_calls s1 n A1 c1 l1 W' h hc1
      have K2 := fun W' => Parse_calls n S W' hsm
      have R2 := fun W' => RParse_calls n S W' hsm
      obtain ⟨⟨t, et⟩, ht⟩ : ∃ P, textR s1 l1 n = P := ⟨_, rfl⟩
      obtain ⟨⟨p, ep⟩, hp⟩ : ∃ P, parR n (bytesN S) = P := ⟨_, rfl⟩
      rw [ht] at K1 R1
      rw [hp] at K2 R2
      obtain ⟨T, hT⟩ : ∃ T, strB t = T := ⟨_, rfl⟩
      dsimp only at K1 R1
      rw [hT] at K1 R1
      clear ht hp hT
      go_enter Tryd.func6, Tryd.ntmps6
      go_wp2_with first
        | (go_at_call 33; have hmark := by11; refine (K2 _).mono ?_; rintro e w12 ⟨s10, A10, c10, l10, rfl, z10, n10, r10, b12⟩; replace T9 := T9.on b12; obtain ⟨bx12, B10⟩ := one_box w12 s10 A10 c10 l10 r10 n10; have by12 := (by11.trans (b12.mono by11.size)).trans (bx12.mono (by11.trans (b12.mono by11.size)).size); replace B1 := (B1.on b12).on bx12; clear bx12 b12)
        | (go_at_call 32; have hmark := by10; refine (R1 _ B1.rd).mono ?_; rintro e w11 ⟨rfl, b11⟩; have T9 : Blk (w11.alloc (.cells #[.string T, .int .i64 et] 50)) w11.heap.size #[.string T, .int .i64 et] 50 := ⟨World.alloc_heap_new w11 _⟩; replace b11 := b11.trans ((al1 w11 (.cells #[.string T, .int .i64 et] 50)).mono b11.size); have by11 := by10.trans (b11.mono by10.size); replace B1 := B1.on b11; clear b11; clear u1a u1b)
        | (go_at_call 31; have hmark := by9; refine (K1 _ B1.rd (hdW.on by9)).mono ?_; rintro e w10 ⟨rfl, b10⟩; have by10 := by9.trans (b10.mono by9.size); replace B1 := B1.on b10; clear b10; clear u1a u1b; have u1a := cell_at B1.blk 0 _ rfl; have u1b := cell_at B1.blk 1 _ rfl)
        | (go_at_call 15; refine f30.mono ?_; rintro e w4 ⟨rfl, rfl⟩; have by9 := hal (.cells #[.bool s1, .slice A1 l1.length c1] 24); replace B1 := B1.on by9; have u1a := cell_at B1.blk 0 _ rfl; have u1b := cell_at B1.blk 1 _ rfl)
      clear x0 x1
      obtain ⟨X, hX⟩ : ∃ X, w12.alloc (.cells #[.bool s10, .slice A10 l10.length c10] 24) = X := ⟨_, rfl⟩
      replace T9 := T9.on (al1 w12 (.cells #[.bool s10, .slice A10 l10.length c10] 24))
      rw [hX] at B1 B10 T9 by12 ⊢
      clear hX
      have y10a : X.cell? ⟨w12.heap.size, 0, none⟩ = some (.bool s10) := cell_at B10.blk 0 _ rfl
      have y10b : X.cell? ⟨w12.heap.size, 1, none⟩ = some (.slice A10 l10.length c10) := cell_at B10.blk 1 _ rfl
      have t9a : X.cell? ⟨w11.heap.size, 0, none⟩ = some (.string T) := cell_at T9.h 0 _ rfl
      have t9b : X.cell? ⟨w11.heap.size, 1, none⟩ = some (.int .i64 et) := cell_at T9.h 1 _ rfl
      go_region_held3 (fun w'' => w''.cell? ⟨w12.heap.size, 0, none⟩ = some (.bool s10) ∧ w''.cell? ⟨w12.heap.size, 1, none⟩ = some (.slice A10 l10.length c10) ∧ w''.cell? ⟨w11.heap.size, 0, none⟩ = some (.string T) ∧ w''.cell? ⟨w11.heap.size, 1, none⟩ = some (.int .i64 et)) ((first | (with_reducible exact ⟨y10a, y10b, t9a, t9b⟩) | exact ⟨y10a, y10b, t9a, t9b⟩))
          ((first
            | (go_at_call 23; have hmark := q31; refine (got_calls s10 A10 c10 l10 s21 A21 c21 l21 p ep w31 (B10.rd.on q31) r21 n10 n21 z10 z21).mono ?_; rintro e w32 ⟨rfl, b32⟩; clear y10a y10b t9a t9b; have q32 := q31.trans (b32.mono q31.size); have y10a : w32.cell? ⟨w12.heap.size, 0, none⟩ = some (.bool s10) := cell_at (B10.on q32).blk 0 _ rfl; have y10b : w32.cell? ⟨w12.heap.size, 1, none⟩ = some (.slice A10 l10.length c10) := cell_at (B10.on q32).blk 1 _ rfl; have t9a : w32.cell? ⟨w11.heap.size, 0, none⟩ = some (.string T) := cell_at (T9.on q32).h 0 _ rfl; have t9b : w32.cell? ⟨w11.heap.size, 1, none⟩ = some (.int .i64 et) := cell_at (T9.on q32).h 1 _ rfl)
            | (go_at_call 34; have hmark := q30; refine (R2 w30).mono ?_; rintro e w31 ⟨s21, A21, c21, l21, rfl, z21, n21, r21, b31⟩; clear y10a y10b t9a t9b; have q31 := q30.trans (b31.mono q30.size); have y10a : w31.cell? ⟨w12.heap.size, 0, none⟩ = some (.bool s10) := cell_at (B10.on q31).blk 0 _ rfl; have y10b : w31.cell? ⟨w12.heap.size, 1, none⟩ = some (.slice A10 l10.length c10) := cell_at (B10.on q31).blk 1 _ rfl; have t9a : w31.cell? ⟨w11.heap.size, 0, none⟩ = some (.string T) := cell_at (T9.on q31).h 0 _ rfl; have t9b : w31.cell? ⟨w11.heap.size, 1, none⟩ = some (.int .i64 et) := cell_at (T9.on q31).h 1 _ rfl)
            | (go_at_call 17; refine (sane_calls _ (hdW.on (by12.trans ((below_drew (Below.refl _ X)).mono by12.size)))).mono ?_; rintro e w30 ⟨rfl, b30⟩; clear y10a y10b t9a t9b; have q30 := (below_drew (Below.refl _ X)).trans b30; have y10a : w30.cell? ⟨w12.heap.size, 0, none⟩ = some (.bool s10) := cell_at (B10.on q30).blk 0 _ rfl; have y10b : w30.cell? ⟨w12.heap.size, 1, none⟩ = some (.slice A10 l10.length c10) := cell_at (B10.on q30).blk 1 _ rfl; have t9a : w30.cell? ⟨w11.heap.size, 0, none⟩ = some (.string T) := cell_at (T9.on q30).h 0 _ rfl; have t9b : w30.cell? ⟨w11.heap.size, 1, none⟩ = some (.int .i64 et) := cell_at (T9.on q30).h 1 _ rfl)))
      go_wp2_with fail
      go_ret
      exact ⟨rfl, hbw.trans ((by12.trans (q32.mono by12.size)).mono hbw.size)⟩

end Nm
end Go.Proofs.YtlhmbbpkhahbeaaDoor
namespace Go.Proofs.YtlhmbbpkhahbeaaDoor
namespace Nm
open Go.ChangeShapes Go.WideShapes Go.ChangeAt Go.WideMaps Go.WideElems Go.RowKit

set_option maxRecDepth 100000 in
theorem numTexts_lifted (os : Os) (started : os.Started) (H : Type) (enc : TypeId × Value → H) :
    ReturnsInHanded {} Tryd.checked os 6 .any (fun w args => (Rows.numTextsSpec.pre enc Tryd.prog Tryd.f6 [] false w args ∧ laidMetH Tryd.prog laidL w) ∧ sizedMet enc Tryd.prog Tryd.f6 (OpenSpec.ofChange Rows.numTextsSpec) false w args)
      (Rows.numTextsSpec.post enc Tryd.prog Tryd.f6 false true false false) := by
  refine returnsInHanded_of_change_and (C := Tryd.checked) (X := fun w _ => laidMetH Tryd.prog laidL w) (fun _ _ _ hh h => h.of_heap hh) own started (by kernel_rfl) Tryd.func6
    (ChangeSpec.witness_shaped (enc := enc) (C := Tryd.checked) (os := os) (X := fun w _ => laidMetH Tryd.prog laidL w) false (World.doorLaid Tryd.prog 14 os) #[.agg #[.bool false, .slice none 0 0], .int .i64 0, .string ⟨#[]⟩] 8 rfl (World.shaped_of_RefB (by kernel_rfl) (by kernel_rfl)) (by kernel_rfl) (by kernel_rfl) (by kernel_rfl) (door_met os _)) ?_
  intro W base args ds gs before hval0 hW _ hsz0 hL _
  have hval : ∀ (j : Nat) t v, Tryd.f6.params[j]? = some t → args[j]? = some v → Value.okWide Tryd.prog W .any base t v := hval0
  have hsz : (DataW.weightsEach Tryd.prog (Tryd.f6.params.toList ++ Rows.numTextsSpec.plain.varTypes Tryd.prog) (ds ++ gs)).all (· ≤ reachBytes) = true := hsz0
  have hW' := hW
  obtain ⟨p, q, hA0, hV, rfl, hfz, hnd⟩ := hW
  have hA : DataW.TrodAll enc Tryd.prog W 0 (fun _ => true) true Tryd.f6.params.toList args.toList ds p := hA0
  rw [Tryd.params6] at hA hval hsz
  obtain ⟨v0, v1, v2, d0, d1, d2, p0, p1, p2, rfl, rfl, rfl, h0, h1, h2⟩ := trodAll_three hA
  obtain ⟨rfl, rfl⟩ := trodVars_none hV
  have hw0 : ∀ n ∈ d0.weights Tryd.prog 24, n ≤ reachBytes := fun n hn => by simpa using List.all_eq_true.1 hsz n (DataW.weights_mem_each (j := 0) rfl rfl n hn)
  obtain ⟨n1, A1, c1, l1, rfl, r1, k1⟩ := open_intZ (hval 0 _ v0 rfl rfl) h0 hw0
  obtain ⟨x2, rfl, rfl, rfl, wf2⟩ := open_int Tryd.underlying3 (hval 1 _ v1 rfl rfl) h1
  have bd2 : -9223372036854775808 ≤ x2 ∧ x2 < 9223372036854775808 := by have h := wf2; simp [Lit.wf, IntKind.min, IntKind.max, IntKind.signed, IntKind.bits] at h; omega
  obtain ⟨x3, rfl, rfl, rfl, wf3⟩ := Go.ChangeMaps.open_string Tryd.underlying9 (hval 2 _ v2 rfl rfl) h2
  have hd := dig_of_laid hL
  clear hA0 hval0
  try simp only [List.append_nil] at hW'
  have hlt : ∀ x ∈ p0, x.block < W.heap.size := fun x hx => hW'.lt x (by simpa using hx)
  refine (NumTexts_calls n1 A1 c1 l1 x2 x3 W r1 k1 bd2.1 bd2.2 hd).mono fun e W' ⟨he, hb⟩ => ?_
  subst he
  refine ⟨_, rfl, _, _, _, [], _, [], hW', trodAll_mk1 (shut_bool uBool true), trodAll_mk3 (Below.trod laidOut (by kernel_rfl) (of_decide_eq_true (by kernel_rfl)) h0 hb (fun x hx => hlt x (by simp [hx]))) (shut_int Tryd.underlying3 wf2) (Go.ChangeMaps.shut_string Tryd.underlying9 wf3), rfl, hb.frame _, fun h => by cases h⟩

theorem numTexts_holds : Rows.NumTextsSaid :=
  OpenClaim.holds_of_wide 6 Tryd.f6 rfl rfl rfl rfl rfl rfl rfl ⟨rfl, rfl, rfl, rfl, rfl⟩ rfl rfl rfl rfl rfl (by kernel_rfl) Tryd.func6 (by kernel_rfl)
    (of_decide_eq_true (by kernel_rfl)) (by unfold Func.isWrapper; first | (rw [if_pos (by decide +kernel)]; kernel_rfl) | (rw [if_neg (by decide +kernel)]; exact ⟨rfl, rfl⟩))
    (fun os started H enc _ => numTexts_lifted os started H enc)

theorem numTexts_card : Rows.NumTextsCardSaid :=
  Claim7.holds_tied_plain_at .later [] [.data] true (true, "81631b405a98d3f071c31393904156c9da5fef14bbd5c556ce9417642a36c1bb") true
    numTexts_holds (fun _ h => by cases h) (by kernel_rfl) (fun _ h => by cases h) numTexts_row_tie rfl ⟨rfl, rfl⟩ (by kernel_rfl) rfl
    (fun f fn hf hfn => by
      obtain rfl : f = 6 := Option.some.inj ((show Tryd.prog.funcNamed "zermelo/zermelolaw01.NumTexts" = some 6 by kernel_rfl).symm.trans hf) |>.symm
      obtain rfl : fn = Tryd.f6 := (Option.some.inj (Tryd.func6.symm.trans hfn)).symm
      exact ⟨by kernel_rfl, fun j t ht => by
        have hp := Tryd.params6
        rw [hp] at ht
        have hall : (Tryd.f6.params.toList.all fun u => !Tryd.prog.wantsStandIn u) = true := by kernel_rfl
        rw [hp] at hall
        have hm := Array.mem_toList_iff.2 (Array.mem_of_getElem? ht)
        exact (show Tryd.prog.wantsStandIn t = false by simpa using List.all_eq_true.1 hall t hm)⟩)
    (by kernel_rfl)

end Nm
end Go.Proofs.YtlhmbbpkhahbeaaDoor
