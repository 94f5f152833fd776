/-
  Contracts of the walks below.
-/
import Derived.Test.YtjghnghceeijeaaGreatDoorDp31
set_option maxRecDepth 100000
set_option maxHeartbeats 4000000
set_option linter.unusedVariables false
set_option linter.unusedSimpArgs false
namespace Go.Proofs.YtjghnghceeijeaaGreatDoor
namespace Dc
open Go.RowKit Go.Shelf Go.BigFrame Go.Proofs.YtjghnghceeijeaaGreatDoor.Nm
attribute [local go_sem] Oper.semAt_some
theorem RRoot_pos (n1 : Bool) (hpos : n1 = false) (n : Nat) (A : Option Addr) (c : Nat) (l : List Nat) (w : World) (h1 : Rd w A l) (hc1 : l.length ≤ c) (hok : okI n1 l = true) (hn1 : 1 ≤ n) (hn : n ≤ 100) (hneg : (n1 && n % 2 == 0) = false) :
 Calls Tryz.prog 96 #[iv n1 A l.length c, .int .i64 (n : Int)] w (RetGot (rootN (Nm.val l) n : Int) 0 w) := by
 have hb2 : ∀ a b, Below w.heap.size w ((w.alloc a).alloc b) := fun a b => ((Below.refl _ w).alloc (Nat.le_refl _) _).alloc (by simp) _
 obtain ⟨W2, hW2⟩ : ∃ W2, (w.alloc (.cells #[.bool n1, .slice A l.length c] 24)).alloc (.cells #[.bool false, .slice none 0 0, .int .i64 0] 105) = W2 := ⟨_, rfl⟩
 have hb : Below w.heap.size w W2 := by rw [← hW2]; exact hb2 _ _
 have B1 : IntBox W2 w.heap.size n1 A c l := ⟨by rw [← hW2]; exact (two_old w _ _ rfl).h, h1.on hb, hc1⟩
 have hR : Blk W2 (w.heap.size + 1) #[.bool false, .slice none 0 0, .int .i64 0] 105 := ⟨by rw [← hW2]; exact two_blk w _ _⟩
 have hfo := Formed_is n1 A c l W2 B1.rd hc1 true hok
 have k1 := okI_isInt h1.words hok
 have hs1 := k1.small
 have hdg := fun W h => Digits_calls n1 A c l W h hc1 (by omega)
 obtain ⟨x0, x1⟩ := cL2 B1.blk
 obtain ⟨a, ha⟩ : ∃ a, Nm.val l = a := ⟨_, rfl⟩
 rw [ha] at hdg ⊢
 have hmd : ∀ W, Rd W A l → Calls Tryz.prog 118 #[.bool false, .slice A l.length c] W (RetZ (a : Int) W) := fun W h => by
  have h := made_calls false A c l W h hc1
  rwa [ha, if_neg (by decide)] at h
 have la : (lim a).length ≤ 300 := by rw [← ha, lim_val k1.canon]; exact hs1
 have HI := Lib.hid (root_init (a := a) hn1)
 obtain ⟨D, hD⟩ : ∃ D, blen a = D := ⟨_, rfl⟩
 have hD9 : D ≤ 9600 := by
  have h2 := val_lt h1.words
  rw [pow_BB, ha] at h2
  rw [← hD]; exact Nat.le_trans (blen_lt_of h2) (by omega)
 rw [hD] at hdg HI
 obtain ⟨K, hK⟩ : ∃ K, D / n + 2 = K := ⟨_, rfl⟩
 rw [hK] at HI
 have hKn : (D : Int) / (n : Int) + 1 = (K : Int) - 1 := by
  have : (D : Int) / (n : Int) = ((D / n : Nat) : Int) := rfl
  omega
 have hKn' : (D : Int).tdiv (n : Int) + 1 = (K : Int) - 1 := by rw [Int.tdiv_eq_ediv_of_nonneg (by omega)]; exact hKn
 have hK9 : K ≤ 9602 := by have := Nat.div_le_self D n; omega
 have Ha := Lib.hid ha
 clear ha hD hK
 subst hpos
 go_enter Tryz.func96, Tryz.ntmps96
 go_wp2_with first
  | (go_at_call 165; refine (hdg _ ((B1.on b3').rd)).mono ?_; rintro e w5 ⟨rfl, b5⟩)
  | (go_at_call 118; refine (hmd _ ((B1.on b2).rd)).mono ?_; rintro e w3 ⟨s3, A3, c3, l3, rfl, z3, n3, r3, b3⟩; have b3'' := b2.trans (b3.mono b2.size); have b3' := b3''.trans ((two_below (w := w3) (.cells #[.bool s3, .slice A3 l3.length c3] 24) (.cells #[.bool false, .slice none 0 0] 24)).mono b3''.size); obtain ⟨y0, y1⟩ := cL2 (B1.on b3').blk)
  | (go_at_call 70; refine hfo.mono ?_; rintro e w2 ⟨rfl, b2⟩; obtain ⟨v0, v1⟩ := cL2 (B1.on b2).blk)
 have s5 : (w3.heap.size + 1) < w5.heap.size := Nat.lt_of_lt_of_le (Nat.lt_of_lt_of_eq (Nat.lt_succ_self _) (by simp)) b5.size
 have hsz3 := b3''.size
 obtain ⟨V, hV⟩ : ∃ V, w3.alloc (.cells #[.bool s3, .slice A3 l3.length c3] 24) = V := ⟨_, rfl⟩
 have bv := al1 w3 (.cells #[.bool s3, .slice A3 l3.length c3] 24)
 have S1 : IntBox V w3.heap.size s3 A3 c3 l3 := ⟨by rw [← hV]; exact World.alloc_heap_new w3 _, by rw [← hV]; exact r3.on bv, n3⟩
 have hVs : V.heap.size = w3.heap.size + 1 := by rw [← hV]; simp
 have bV := b3''.trans (bv.mono b3''.size)
 have O1 : HoldsZ ((w3.alloc (.cells #[.bool s3, .slice A3 l3.length c3] 24)).alloc (.cells #[.bool false, .slice none 0 0] 24)) (w3.heap.size + 1) false none 0 [] (0 : Nat) := ⟨⟨two_blk w3 _ _⟩, isZ_zero, Rd.nil _ _, Nat.le_refl _⟩
 have O5 := O1.on b5
 have bv5 := (al1 (w3.alloc (.cells #[.bool s3, .slice A3 l3.length c3] 24)) (.cells #[.bool false, .slice none 0 0] 24)).trans (b5.mono (al1 _ _).size)
 rw [hV] at bv5 bV
 have B1V := B1.on bV
 have hRV := hR.on bV
 have hz3 := z3
 clear hV bv b3' b5 O1 b3'' b3 b2 x0 x1 B1 hR hfo hdg hmd y0 y1 v0 v1 r3 hKn hKn' hsz3
 go_loopw [7] (fun i W => ∃ (j r : Nat) (s30 : Bool) (A30 : Option Addr) (c30 : Nat) (l30 : List Nat), i = .int .i64 ((j : Int) - 1) ∧ j ≤ K ∧ HoldsZ W (w3.heap.size + 1) s30 A30 c30 l30 (r : Int) ∧ Hid (r ^ n ≤ a) ∧ Hid (a < (r + 2 ^ j) ^ n) ∧ Below V.heap.size V W ∧ w3.heap.size + 1 < W.heap.size) (fun i _ => (intOf i + 1).toNat)
 case atStart => exact ⟨K, 0, false, none, 0, [], rfl, Nat.le_refl _, O5, by show _ ≤ _; rw [Nat.zero_pow hn1]; exact Nat.zero_le _, HI, bv5, s5⟩
 case round =>
  clear O5 bv5 s5
  obtain ⟨j, r, s30, A30, c30, l30, rfl, hj, hH, hlo, hhi, hbl, hlt⟩ := hrel
  have bb := bV.trans (hbl.mono bV.size)
  obtain ⟨x0, x1⟩ := cL2 hH.blk.h
  obtain ⟨u0, u1⟩ := fZ2 hH.blk.h
  by_cases h0 : 0 < j
  · obtain ⟨k, rfl⟩ : ∃ k, j = k + 1 := ⟨j - 1, by omega⟩
    rw [show ((k + 1 : Nat) : Int) - 1 = (k : Int) by omega]
    obtain ⟨q, j1, j2⟩ : ∃ q : Nat, (k : Int) / 32 = (q : Int) ∧ Hid (q = k / 32) := ⟨k / 32, by omega, rfl⟩
    obtain ⟨i, i1, i2, i3⟩ : ∃ i : Nat, (k : Int) % 32 = (i : Int) ∧ Hid (i = k % 32) ∧ i < 32 := ⟨k % 32, by omega, rfl, by omega⟩
    have j4 : (k : Int).tdiv 32 = (q : Int) := by rw [Int.tdiv_eq_ediv_of_nonneg (by omega)]; exact j1
    have i4 : (k : Int).tmod 32 = (i : Int) := by rw [Int.tmod_eq_emod_of_nonneg (by omega)]; exact i1
    have hq9 : q ≤ 301 := by have := j2.out; omega
    have hp2 : 2 ^ i < 4294967296 := Nat.lt_of_lt_of_le (Nat.pow_lt_pow_right (by decide) i3) (by decide)
    obtain ⟨P, hP⟩ : ∃ P : Nat, 2 ^ i = P := ⟨_, rfl⟩
    have hPz : ((2 : Int) ^ i) = (P : Int) := by rw [← hP]; simp
    rw [hP] at hp2
    have p1 : (2 : Int) ^ i % 4294967296 = (P : Int) := by rw [hPz]; omega
    have HP := Lib.hid hP
    have hmk := make_u32 ((q : Int) + 1) ((q : Int) + 1) (q + 1) (q + 1) rfl rfl (Nat.le_refl _) (by omega) wr
    have har := arr_new wr (List.replicate (q + 1) 0)
    obtain ⟨u, g4⟩ : ∃ u : Nat, (wr.alloc (.cells (warr (List.replicate (q + 1) 0)) 127)).cell? ⟨wr.heap.size, q, none⟩ = some (.int .u32 (u : Int)) := ⟨_, arr_cell har q (by simp)⟩
    have f4 := arr_frozen har q
    clear hP hPz h0
    go_wp2_with fail
    obtain ⟨T, hT⟩ : ∃ T, 2 ^ k = T := ⟨_, rfl⟩
    have har2 := arr_new_set wr (List.replicate (q + 1) 0) q P
    have hv1 := val_one j2.out i2.out HP.out
    rw [hT] at hv1
    have bX := al1 wr (.cells ((warr (List.replicate (q + 1) 0)).setIfInBounds q (.int .u32 (P : Int))) 127)
    obtain ⟨X, hX⟩ : ∃ X, wr.alloc (.cells ((warr (List.replicate (q + 1) 0)).setIfInBounds q (.int .u32 (P : Int))) 127) = X := ⟨_, rfl⟩
    rw [hX] at har2 bX ⊢
    have rX := arr_rd har2 (words_set (words_replicate _) _ _ hp2) (by simp; omega)
    have hlo1 : ((List.replicate (q + 1) 0).set q P).length = q + 1 := by rw [List.length_set, List.length_replicate]
    have hm1 : ∀ W, Rd W (some ⟨wr.heap.size, 0, none⟩) ((List.replicate (q + 1) 0).set q P) → Calls Tryz.prog 118 #[.bool false, .slice (some ⟨wr.heap.size, 0, none⟩) (q + 1) (q + 1)] W (RetZ (T : Int) W) := fun W h => by
     have h := made_calls false (some ⟨wr.heap.size, 0, none⟩) (q + 1) _ W h (by rw [hlo1]; exact Nat.le_refl _)
     rwa [hv1, if_neg (by decide), hlo1] at h
    have hH2 := hH.on bX
    have z30 := hH2.isz
    have B30 : IntBox X (w3.heap.size + 1) s30 A30 c30 l30 := ⟨hH2.blk.h, hH2.rd, hH2.cap⟩
    have bvX := hbl.trans (bX.mono hbl.size)
    have hltX := Nat.lt_of_lt_of_le hlt bX.size
    have hra := base_le hn1 hlo.out
    have tr : (lim ((r : Int)).natAbs).length ≤ 302 := by rw [Int.natAbs_natCast]; exact Nat.le_trans (length_mono hra) (by omega)
    have tT : (lim ((T : Int)).natAbs).length ≤ 302 := by
     rw [Int.natAbs_natCast]
     exact len_of_bits (m := k + 1) (by rw [← hT]; exact Nat.pow_lt_pow_right (by decide) (Nat.lt_succ_self k)) (by omega)
    have TS := Lib.hid (len_add tr tT)
    have Ttr := Lib.hid tr
    have TtT := Lib.hid tT
    have HT := Lib.hid hT
    clear hX hlo1 hv1 hT tr tT hra g4 f4 hmk har har2 hp2 x0 x1 u0 u1 hH hH2 i1 i4 p1 j1 j4
    have y30a : X.cell? ⟨w3.heap.size + 1, 0, none⟩ = some (.bool s30) := cell_at B30.blk 0 _ rfl
    have y30b : X.cell? ⟨w3.heap.size + 1, 1, none⟩ = some (.slice A30 l30.length c30) := cell_at B30.blk 1 _ rfl
    go_region_held3 (fun w'' => w''.cell? ⟨w3.heap.size + 1, 0, none⟩ = some (.bool s30) ∧ w''.cell? ⟨w3.heap.size + 1, 1, none⟩ = some (.slice A30 l30.length c30)) ((first | (with_reducible exact ⟨y30a, y30b⟩) | exact ⟨y30a, y30b⟩ | exact ⟨cell_al _ y30a, cell_al _ y30b⟩ | (have qS := (q51.setCell (p := ⟨_, 0, none⟩) hG51 (.bool s21)).setCell (p := ⟨_, 1, none⟩) hG51 (.slice A21 l21.length c21); exact ⟨cell_at (B30.on qS).blk 0 _ rfl, cell_at (B30.on qS).blk 1 _ rfl⟩)))
     ((first
      | (go_at_call 46; have hmark := q50; refine (Sum_calls s30 s20 A30 A20 c30 c20 l30 l20 _ _ _ (by first | exact B30.rd.on q50 | exact B30.rd.on (below_al q50 _)) (by first | exact r20 | exact r20.on (below_al (Below.refl _ w50) _)) B30.cap n20 z30 z20 (z30.len_le (Nat.le_trans Ttr.out (by decide))) (z20.len_le (Nat.le_trans TtT.out (by decide)))).mono ?_; rintro e w51 ⟨s21, A21, c21, l21, rfl, z21, n21, r21, b51⟩; clear y30a y30b; have q51 : Below X.heap.size X w51 := (by first | exact q50.trans (b51.mono q50.size) | exact (below_al q50 _).trans (b51.mono (below_al q50 _).size)); (first | (have N51 := (b51.block _ m50).trans N50; have m51 := Nat.lt_of_lt_of_le m50 b51.size; have hG51 := hG50) | (have N51 : w51.heap[w50.heap.size]? = some (.cells #[.bool false, .slice none 0 0] 24 (0, 0)) := (b51.block w50.heap.size (Nat.lt_of_lt_of_eq (Nat.lt_succ_self _) (World.size_alloc w50 _).symm)).trans (World.alloc_heap_new w50 _); have m51 : w50.heap.size < w51.heap.size := Nat.lt_of_lt_of_le (Nat.lt_of_lt_of_eq (Nat.lt_succ_self _) (World.size_alloc w50 _).symm) b51.size; have hG51 : X.heap.size ≤ w50.heap.size := q50.size) | skip); replace r20 := (by first | exact r20.on b51 | exact (r20.on (below_al (Below.refl _ w50) _)).on b51); (try (have n0 := cell_at N51 0 _ rfl; have n1 := cell_at N51 1 _ rfl; have fz0 := frozen_at N51 0; have fz1 := frozen_at N51 1)); have y30a : w51.cell? ⟨w3.heap.size + 1, 0, none⟩ = some (.bool s30) := cell_at (B30.on q51).blk 0 _ rfl; have y30b : w51.cell? ⟨w3.heap.size + 1, 1, none⟩ = some (.slice A30 l30.length c30) := cell_at (B30.on q51).blk 1 _ rfl)
      | (go_at_call 118; refine (hm1 _ (by first | exact rX.on (below_drew (Below.refl _ X)) | exact rX.on (below_al (below_drew (Below.refl _ X)) _))).mono ?_; rintro e w50 ⟨s20, A20, c20, l20, rfl, z20, n20, r20, b50⟩; clear y30a y30b; have q50 : Below X.heap.size X w50 := (by first | exact (below_drew (Below.refl _ X)).trans b50 | exact (below_al (below_drew (Below.refl _ X)) _).trans (b50.mono (below_al (below_drew (Below.refl _ X)) _).size) | exact (below_al (Below.refl _ X) _).trans (b50.mono (below_al (Below.refl _ X) _).size)); (try (have N50 : w50.heap[X.heap.size]? = some (.cells #[.bool false, .slice none 0 0] 24 (0, 0)) := (b50.block X.heap.size (Nat.lt_of_lt_of_eq (Nat.lt_succ_self _) (World.size_alloc X.drew _).symm)).trans (World.alloc_heap_new X.drew _); have m50 : X.heap.size < w50.heap.size := Nat.lt_of_lt_of_le (Nat.lt_of_lt_of_eq (Nat.lt_succ_self _) (World.size_alloc X.drew _).symm) b50.size; have hG50 : X.heap.size ≤ X.heap.size := Nat.le_refl _)); have y30a : w50.cell? ⟨w3.heap.size + 1, 0, none⟩ = some (.bool s30) := cell_at (B30.on q50).blk 0 _ rfl; have y30b : w50.cell? ⟨w3.heap.size + 1, 1, none⟩ = some (.slice A30 l30.length c30) := cell_at (B30.on q50).blk 1 _ rfl)))
    · obtain ⟨bx, B21⟩ := one_box w51 s21 A21 c21 l21 r21 n21
      have qE := q51.trans (bx.mono q51.size)
      obtain ⟨Y, hY⟩ : ∃ Y, w51.alloc (.cells #[.bool s21, .slice A21 l21.length c21] 24) = Y := ⟨_, rfl⟩
      rw [hY] at B21 qE ⊢
      have bvY := bvX.trans (qE.mono bvX.size)
      have S1Y := S1.on bvY
      have B30Y := B30.on qE
      have hltY := Nat.lt_of_lt_of_le hltX qE.size
      clear hY y30a y30b
      obtain rfl : s21 = false := by rw [z21.sgn]; exact decide_eq_false (by omega)
      obtain ⟨R, hR'⟩ : ∃ R, r + T = R := ⟨_, rfl⟩
      have z21' : IsZ false l21 (R : Int) := by rw [← hR', Int.natCast_add]; exact z21
      have hab := fun W' h1 h2 => above_calls A21 A3 c21 c3 l21 l3 R a n W' h1 h2 B21.cap n3 z21' s3 hz3.canon (by rw [hz3.val, Int.natAbs_natCast]) hn1 hn (z21.len_le (Nat.le_trans TS.out (by decide))) (hz3.len_le (by rw [Int.natAbs_natCast]; omega))
      obtain ⟨y0, y1⟩ := cL2 B21.blk
      obtain ⟨y2, y3⟩ := cL2 S1Y.blk
      by_cases hov : a < R ^ n
      · rw [decide_eq_true hov] at hab
        have Hov := Lib.hid hov
        have HR' := Lib.hid hR'
        clear hov hR'
        go_wp2_with (go_at_call 166; refine (hab _ B21.rd S1Y.rd).mono ?_; rintro e w60 ⟨rfl, b60⟩; have B21w := B21.on b60; have B30w := B30Y.on b60; have bw := bvY.trans (b60.mono bvY.size); clear y0 y1 y2 y3; obtain ⟨y0, y1⟩ := cL2 B21w.blk; obtain ⟨y4, y5⟩ := cL2 B30w.blk; obtain ⟨y6, y7⟩ := fZ2 B30w.blk; have hltw := Nat.lt_of_lt_of_le hltY b60.size)
        exact ⟨⟨k, r, s30, A30, c30, l30, rfl, by omega, ⟨⟨B30w.blk⟩, z30, B30w.rd, B30w.cap⟩, hlo, by show _ < _; rw [HT.out, HR'.out]; exact Hov.out, bw, hltw⟩, by simp only [intOf]; omega⟩
      · rw [decide_eq_false hov] at hab
        have Hov := Lib.hid hov
        have HR' := Lib.hid hR'
        clear hov hR'
        go_wp2_with (go_at_call 166; refine (hab _ B21.rd S1Y.rd).mono ?_; rintro e w60 ⟨rfl, b60⟩; have B21w := B21.on b60; have B30w := B30Y.on b60; have bw := bvY.trans (b60.mono bvY.size); clear y0 y1 y2 y3; obtain ⟨y0, y1⟩ := cL2 B21w.blk; obtain ⟨y4, y5⟩ := cL2 B30w.blk; obtain ⟨y6, y7⟩ := fZ2 B30w.blk; have hltw := Nat.lt_of_lt_of_le hltY b60.size)
        have hS := holds_set ⟨B30w.blk⟩ (by simp) (by simp) z21' B21w.rd B21w.cap
        exact ⟨⟨k, R, false, A21, c21, l21, rfl, by omega, hS, by have := Hov.out; show _ ≤ _; omega, by show _ < _; rw [← HR'.out, ← HT.out]; have := hhi.out; rwa [Nat.pow_succ, Nat.mul_two, ← Nat.add_assoc] at this, (bw.setCell (by dsimp only; omega) _).setCell (by dsimp only; omega) _, by simpa [World.setCell] using hltw⟩, by simp only [intOf]; omega⟩
    · have B21 : IntBox ((w51.setCell ⟨w50.heap.size, 0, none⟩ (.bool s21)).setCell ⟨w50.heap.size, 1, none⟩ (.slice A21 l21.length c21)) w50.heap.size s21 A21 c21 l21 := ⟨set_blk (set_blk N51 0 _) 1 _, rd_sets r21 ⟨N51⟩ _ _, n21⟩
      have qE := (q51.setCell (p := ⟨w50.heap.size, 0, none⟩) q50.size (.bool s21)).setCell (p := ⟨w50.heap.size, 1, none⟩) q50.size (.slice A21 l21.length c21)
      obtain ⟨Y, hY⟩ : ∃ Y, (w51.setCell ⟨w50.heap.size, 0, none⟩ (.bool s21)).setCell ⟨w50.heap.size, 1, none⟩ (.slice A21 l21.length c21) = Y := ⟨_, rfl⟩
      rw [hY] at B21 qE ⊢
      have bvY := bvX.trans (qE.mono bvX.size)
      have S1Y := S1.on bvY
      have B30Y := B30.on qE
      have hltY := Nat.lt_of_lt_of_le hltX qE.size
      clear hY y30a y30b
      obtain rfl : s21 = false := by rw [z21.sgn]; exact decide_eq_false (by omega)
      obtain ⟨R, hR'⟩ : ∃ R, r + T = R := ⟨_, rfl⟩
      have z21' : IsZ false l21 (R : Int) := by rw [← hR', Int.natCast_add]; exact z21
      have hab := fun W' h1 h2 => above_calls A21 A3 c21 c3 l21 l3 R a n W' h1 h2 B21.cap n3 z21' s3 hz3.canon (by rw [hz3.val, Int.natAbs_natCast]) hn1 hn (z21.len_le (Nat.le_trans TS.out (by decide))) (hz3.len_le (by rw [Int.natAbs_natCast]; omega))
      obtain ⟨y0, y1⟩ := cL2 B21.blk
      obtain ⟨y2, y3⟩ := cL2 S1Y.blk
      by_cases hov : a < R ^ n
      · rw [decide_eq_true hov] at hab
        have Hov := Lib.hid hov
        have HR' := Lib.hid hR'
        clear hov hR'
        go_wp2_with (go_at_call 166; refine (hab _ B21.rd S1Y.rd).mono ?_; rintro e w60 ⟨rfl, b60⟩; have B21w := B21.on b60; have B30w := B30Y.on b60; have bw := bvY.trans (b60.mono bvY.size); clear y0 y1 y2 y3; obtain ⟨y0, y1⟩ := cL2 B21w.blk; obtain ⟨y4, y5⟩ := cL2 B30w.blk; obtain ⟨y6, y7⟩ := fZ2 B30w.blk; have hltw := Nat.lt_of_lt_of_le hltY b60.size)
        exact ⟨⟨k, r, s30, A30, c30, l30, rfl, by omega, ⟨⟨B30w.blk⟩, z30, B30w.rd, B30w.cap⟩, hlo, by show _ < _; rw [HT.out, HR'.out]; exact Hov.out, bw, hltw⟩, by simp only [intOf]; omega⟩
      · rw [decide_eq_false hov] at hab
        have Hov := Lib.hid hov
        have HR' := Lib.hid hR'
        clear hov hR'
        go_wp2_with (go_at_call 166; refine (hab _ B21.rd S1Y.rd).mono ?_; rintro e w60 ⟨rfl, b60⟩; have B21w := B21.on b60; have B30w := B30Y.on b60; have bw := bvY.trans (b60.mono bvY.size); clear y0 y1 y2 y3; obtain ⟨y0, y1⟩ := cL2 B21w.blk; obtain ⟨y4, y5⟩ := cL2 B30w.blk; obtain ⟨y6, y7⟩ := fZ2 B30w.blk; have hltw := Nat.lt_of_lt_of_le hltY b60.size)
        have hS := holds_set ⟨B30w.blk⟩ (by simp) (by simp) z21' B21w.rd B21w.cap
        exact ⟨⟨k, R, false, A21, c21, l21, rfl, by omega, hS, by have := Hov.out; show _ ≤ _; omega, by show _ < _; rw [← HR'.out, ← HT.out]; have := hhi.out; rwa [Nat.pow_succ, Nat.mul_two, ← Nat.add_assoc] at this, (bw.setCell (by dsimp only; omega) _).setCell (by dsimp only; omega) _, by simpa [World.setCell] using hltw⟩, by simp only [intOf]; omega⟩
    · have B21 : IntBox ((w51.setCell ⟨X.heap.size, 0, none⟩ (.bool s21)).setCell ⟨X.heap.size, 1, none⟩ (.slice A21 l21.length c21)) X.heap.size s21 A21 c21 l21 := ⟨set_blk (set_blk N51 0 _) 1 _, rd_sets r21 ⟨N51⟩ _ _, n21⟩
      have qE := (q51.setCell (p := ⟨X.heap.size, 0, none⟩) (Nat.le_refl _) (.bool s21)).setCell (p := ⟨X.heap.size, 1, none⟩) (Nat.le_refl _) (.slice A21 l21.length c21)
      obtain ⟨Y, hY⟩ : ∃ Y, (w51.setCell ⟨X.heap.size, 0, none⟩ (.bool s21)).setCell ⟨X.heap.size, 1, none⟩ (.slice A21 l21.length c21) = Y := ⟨_, rfl⟩
      rw [hY] at B21 qE ⊢
      have bvY := bvX.trans (qE.mono bvX.size)
      have S1Y := S1.on bvY
      have B30Y := B30.on qE
      have hltY := Nat.lt_of_lt_of_le hltX qE.size
      clear hY y30a y30b
      obtain rfl : s21 = false := by rw [z21.sgn]; exact decide_eq_false (by omega)
      obtain ⟨R, hR'⟩ : ∃ R, r + T = R := ⟨_, rfl⟩
      have z21' : IsZ false l21 (R : Int) := by rw [← hR', Int.natCast_add]; exact z21
      have hab := fun W' h1 h2 => above_calls A21 A3 c21 c3 l21 l3 R a n W' h1 h2 B21.cap n3 z21' s3 hz3.canon (by rw [hz3.val, Int.natAbs_natCast]) hn1 hn (z21.len_le (Nat.le_trans TS.out (by decide))) (hz3.len_le (by rw [Int.natAbs_natCast]; omega))
      obtain ⟨y0, y1⟩ := cL2 B21.blk
      obtain ⟨y2, y3⟩ := cL2 S1Y.blk
      by_cases hov : a < R ^ n
      · rw [decide_eq_true hov] at hab
        have Hov := Lib.hid hov
        have HR' := Lib.hid hR'
        clear hov hR'
        go_wp2_with (go_at_call 166; refine (hab _ B21.rd S1Y.rd).mono ?_; rintro e w60 ⟨rfl, b60⟩; have B21w := B21.on b60; have B30w := B30Y.on b60; have bw := bvY.trans (b60.mono bvY.size); clear y0 y1 y2 y3; obtain ⟨y0, y1⟩ := cL2 B21w.blk; obtain ⟨y4, y5⟩ := cL2 B30w.blk; obtain ⟨y6, y7⟩ := fZ2 B30w.blk; have hltw := Nat.lt_of_lt_of_le hltY b60.size)
        exact ⟨⟨k, r, s30, A30, c30, l30, rfl, by omega, ⟨⟨B30w.blk⟩, z30, B30w.rd, B30w.cap⟩, hlo, by show _ < _; rw [HT.out, HR'.out]; exact Hov.out, bw, hltw⟩, by simp only [intOf]; omega⟩
      · rw [decide_eq_false hov] at hab
        have Hov := Lib.hid hov
        have HR' := Lib.hid hR'
        clear hov hR'
        go_wp2_with (go_at_call 166; refine (hab _ B21.rd S1Y.rd).mono ?_; rintro e w60 ⟨rfl, b60⟩; have B21w := B21.on b60; have B30w := B30Y.on b60; have bw := bvY.trans (b60.mono bvY.size); clear y0 y1 y2 y3; obtain ⟨y0, y1⟩ := cL2 B21w.blk; obtain ⟨y4, y5⟩ := cL2 B30w.blk; obtain ⟨y6, y7⟩ := fZ2 B30w.blk; have hltw := Nat.lt_of_lt_of_le hltY b60.size)
        have hS := holds_set ⟨B30w.blk⟩ (by simp) (by simp) z21' B21w.rd B21w.cap
        exact ⟨⟨k, R, false, A21, c21, l21, rfl, by omega, hS, by have := Hov.out; show _ ≤ _; omega, by show _ < _; rw [← HR'.out, ← HT.out]; have := hhi.out; rwa [Nat.pow_succ, Nat.mul_two, ← Nat.add_assoc] at this, (bw.setCell (by dsimp only; omega) _).setCell (by dsimp only; omega) _, by simpa [World.setCell] using hltw⟩, by simp only [intOf]; omega⟩
  · obtain rfl : j = 0 := by omega
    have hroot := root_end hn1 hlo.out hhi.out
    have hrn := rootN_of hn1 hroot
    have z30 := hH.isz
    have hf : fitZ (r : Int) = ((r : Int), 0) := by unfold fitZ; rw [if_pos (by rw [Int.natAbs_natCast]; exact Nat.le_trans (length_mono (base_le hn1 hlo.out)) la)]
    have Hrn := Lib.hid hrn
    have Hf := Lib.hid hf
    have B1w := B1V.on hbl
    obtain ⟨y0, y1⟩ := cL2 B1w.blk
    have hn0 : ¬ (0 : Int) ≤ ((0 : Nat) : Int) - 1 := by omega
    clear hroot hrn hf hlo hhi h0 u0 u1
    go_wp2_with (go_at_call 168; refine (fit_calls s30 A30 c30 l30 (r : Int) _ hH.rd hH.cap z30).mono ?_; rintro e w6 ⟨s6, A6, c6, l6, rfl, z6, n6, r6, b6⟩; rw [Hf.out] at z6 ⊢; have bq := hbl.trans (b6.mono hbl.size); have rq := hRV.on bq; obtain ⟨rz0, rz1, rz2⟩ := cL3 rq.h; obtain ⟨ru0, ru1, ru2⟩ := fZ3 rq.h)
    rw [Hrn.out]
    have hne := r6.ne rq.h (by intro i x h; rcases i with _ | _ | _ | i <;> simp at h)
    have bw := bV.trans (bq.mono bV.size)
    exact ret_cellT rfl Tryz.underlying105 got_size rfl rfl (set3 rq.h _ _ _) rfl ⟨s6, A6, c6, l6, rfl, z6, n6, ((r6.setNe hne).setNe hne).setNe hne, (((hb.trans (bw.mono hb.size)).setCell (by dsimp only; omega) _).setCell (by dsimp only; omega) _).setCell (by dsimp only; omega) _⟩
theorem RSqrt_no (a : VA) (w : World) (ha : a.At w) (hno : a.ok = false) :
 Calls Tryz.prog 22 #[.agg #[.int .i64 a.k, .int .i64 a.p, .bool a.s, .slice a.A a.l.length a.c, .string a.S, .slice a.B a.m a.d]] w (RetG (err 2) w) := by
 obtain ⟨W, hW, hbW, K0, K1, hszW⟩ := box2 w #[.int .i64 a.k, .int .i64 a.p, .bool a.s, .slice a.A a.l.length a.c, .string a.S, .slice a.B a.m a.d] 27 #[.int .i64 0, .int .i64 0, .bool false, .slice none 0 0, .string ⟨#[]⟩, .slice none 0 0, .int .i64 0] 36
 obtain ⟨x0, x1, x2, x3, x4, x5⟩ := cL6 K0.h
 obtain ⟨e0, e1, e2, e3, e4, e5, e6⟩ := cL7 K1.h
 obtain ⟨f0, f1, f2, f3, f4, f5, f6⟩ := fZ7 K1.h
 have his := is_c a W (ha.on hbW)
 rw [hno] at his
 clear hno
 go_enter Tryz.func22, Tryz.ntmps22
 go_wp2_with (go_at_call 31; refine his.mono ?_; rintro e w5 ⟨rfl, b5⟩; clear x0 x1 x2 x3 x4 x5 e0 e1 e2 e3 e4 e5 e6 f0 f1 f2 f3 f4 f5 f6; obtain ⟨x0, x1, x2, x3, x4, x5⟩ := cL6 (K0.on b5).h; obtain ⟨e0, e1, e2, e3, e4, e5, e6⟩ := cL7 (K1.on b5).h; obtain ⟨f0, f1, f2, f3, f4, f5, f6⟩ := fZ7 (K1.on b5).h)
 have hb8 := hbW.trans (b5.mono hbW.size)
 obtain ⟨X, hX, KX, NX, OX⟩ := storeG (k' := 0) (p' := 0) (s' := false) (A' := none) (n' := 0) (c' := 0) (S' := ⟨#[]⟩) (B' := none) (m' := 0) (d' := 0) (e' := 2) (K1.on b5)
 rw [hX]
 exact ret_cellT rfl Tryz.underlying36 rgot_size rfl rfl KX.h rfl (retG_err 2 (by decide) ((hb8).trans (NX.low.mono (by omega))))
theorem RSqrt_z (n1 : Bool) (A1 : Option Addr) (c1 : Nat) (l1 : List Nat) (z1 : Int) (p : Nat) (B1 : Option Addr) (d1 : Nat) (w : World) (I1 : IV w n1 A1 c1 l1 z1) (D1 : IsD z1 p) :
 Calls Tryz.prog 22 #[(vv 3 (p : Int) n1 A1 l1.length c1 ⟨#[]⟩ B1 0 d1)] w (RetG (if z1 < 0 then err 1 else stripE (rootUp (unitsZ z1 p * 10 ^ 20) (rootN (unitsZ z1 p * 10 ^ 20).natAbs 2))) w) := by
 obtain ⟨W, hW, hbW, K0, K1, hszW⟩ := box2 w #[.int .i64 3, .int .i64 (p : Int), .bool n1, .slice A1 l1.length c1, .string ⟨#[]⟩, .slice B1 0 d1] 27 #[.int .i64 0, .int .i64 0, .bool false, .slice none 0 0, .string ⟨#[]⟩, .slice none 0 0, .int .i64 0] 36
 obtain ⟨x0, x1, x2, x3, x4, x5⟩ := cL6 K0.h
 obtain ⟨e0, e1, e2, e3, e4, e5, e6⟩ := cL7 K1.h
 obtain ⟨f0, f1, f2, f3, f4, f5, f6⟩ := fZ7 K1.h
 have J1 := I1.on hbW
 have his : Calls Tryz.prog 31 #[(vv 3 (p : Int) n1 A1 l1.length c1 ⟨#[]⟩ B1 0 d1)] W (fun e w' => e = .returned (.bool true) ∧ Below W.heap.size W w') := by
  have := is_c (VA.mk 3 (p : Int) n1 A1 c1 l1 ⟨#[]⟩ B1 0 d1) W ⟨J1.rd, J1.cap⟩
  rwa [VA.ok_made I1.isZ D1] at this
 obtain ⟨E, hE⟩ : ∃ E, (if z1 < 0 then err 1 else stripE (rootUp (unitsZ z1 p * 10 ^ 20) (rootN (unitsZ z1 p * 10 ^ 20).natAbs 2))) = E := ⟨_, rfl⟩
 rw [hE]
 replace hE := Lib.hid hE
 replace hszW := Lib.hid hszW
 have HD := Lib.hid D1
 have Hsg := Lib.hid I1.sgn
 clear D1 I1
 by_cases hz : z1 < 0
 · have hE2 := hE.out
   rw [if_pos hz] at hE2
   replace hE2 := Lib.hid hE2.symm
   obtain rfl : n1 = true := by rw [Hsg.out, decide_eq_true hz]
   clear hE hz Hsg
   go_enter Tryz.func22, Tryz.ntmps22
   go_wp2_with (go_at_call 31; refine his.mono ?_; rintro e w5 ⟨rfl, b5⟩; clear x0 x1 x2 x3 x4 x5 e0 e1 e2 e3 e4 e5 e6 f0 f1 f2 f3 f4 f5 f6; obtain ⟨x0, x1, x2, x3, x4, x5⟩ := cL6 (K0.on b5).h; obtain ⟨e0, e1, e2, e3, e4, e5, e6⟩ := cL7 (K1.on b5).h; obtain ⟨f0, f1, f2, f3, f4, f5, f6⟩ := fZ7 (K1.on b5).h)
   have hb8 := hbW.trans (b5.mono hbW.size)
   obtain ⟨X, hX, KX, NX, OX⟩ := storeG (k' := 0) (p' := 0) (s' := false) (A' := none) (n' := 0) (c' := 0) (S' := ⟨#[]⟩) (B' := none) (m' := 0) (d' := 0) (e' := 1) (K1.on b5)
   rw [hX]
   exact ret_cellT rfl Tryz.underlying36 rgot_size rfl rfl KX.h rfl (by rw [hE2.out]; exact retG_err 1 (by decide) ((hb8).trans (NX.low.mono (by omega))))
 · have hE2 := hE.out
   rw [if_neg hz] at hE2
   obtain rfl : n1 = false := by rw [Hsg.out, decide_eq_false hz]
   have hp20 := HD.out.hi
   obtain ⟨j, hj⟩ : ∃ j, 40 - p = j := ⟨_, rfl⟩
   have hjI : IntKind.i64.wrap (40 - (p : Int)) = (j : Int) := by rw [IntKind.wrap_i64]; omega
   have hj40 : j ≤ 40 := by omega
   rw [← sqrt_units z1 hp20, hj] at hE2
   have tj := lz_ten40 j hj40
   have hT := fun W' => Ten_i j (Nat.le_trans hj40 (by decide)) W'
   have ex := HD.out.lz.mul tj
   have hx0 : 0 ≤ z1 * 10 ^ j := Int.mul_nonneg (by omega) (Int.le_of_lt (ten_pos j))
   have hM := fun W' (h : Below W.heap.size W W') s A c l (I : IV W' s A c l (10 ^ j)) => rtimes_i false s A1 A c1 c l1 l z1 (10 ^ j) W' (J1.on h) I HD.out.lz tj (by decide) (by decide)
   clear hE hz Hsg hj hj40 tj hp20
   generalize z1 * 10 ^ j = x at *
   generalize (10 : Int) ^ j = tp at *
   replace hx0 := Lib.hid hx0
   replace hE2 := Lib.hid hE2
   go_enter Tryz.func22, Tryz.ntmps22
   go_upto_region 5 with (go_at_call 31; refine his.mono ?_; rintro e w5 ⟨rfl, b5⟩; clear x0 x1 x2 x3 x4 x5 e0 e1 e2 e3 e4 e5 e6 f0 f1 f2 f3 f4 f5 f6; obtain ⟨x0, x1, x2, x3, x4, x5⟩ := cL6 (K0.on b5).h; obtain ⟨e0, e1, e2, e3, e4, e5, e6⟩ := cL7 (K1.on b5).h; obtain ⟨f0, f1, f2, f3, f4, f5, f6⟩ := fZ7 (K1.on b5).h)
   have hb5 := hbW.trans (b5.mono hbW.size)
   have lb5 := b5.size
   have M5 := fun W' (h : Below w5.heap.size w5 W') => hM W' (b5.trans (h.mono b5.size))
   replace K0 := K0.on b5
   replace K1 := K1.on b5
   have lw1 := blk_lt K1
   clear x0 x1 x2 x3 x4 x5 e0 e1 e2 e3 e4 e5 e6 f0 f1 f2 f3 f4 f5 f6 hW hM his J1
   go_cut [3] from 15 to 21 (fun pv wx => ∃ G s' A' c' l', pv = .pointer (some ⟨G, 0, none⟩) ∧ Blk wx G #[.bool s', .slice A' (List.length l') c'] 24 ∧ IV wx s' A' c' l' x ∧ Below w5.heap.size w5 wx ∧ w5.heap.size ≤ G)
   case first =>
    have r0 : w5.cell? ⟨w.heap.size, 1, none⟩ = some (.int .i64 (p : Int)) := cell_at K0.h 1 _ rfl
    have r1 : w5.cell? ⟨w.heap.size, 2, none⟩ = some (.bool false) := cell_at K0.h 2 _ rfl
    have r2 : w5.cell? ⟨w.heap.size, 3, none⟩ = some (.slice A1 l1.length c1) := cell_at K0.h 3 _ rfl
    go_region_held3 (fun w'' => w''.cell? ⟨w.heap.size, 1, none⟩ = some (.int .i64 (p : Int)) ∧ w''.cell? ⟨w.heap.size, 2, none⟩ = some (.bool false) ∧ w''.cell? ⟨w.heap.size, 3, none⟩ = some (.slice A1 l1.length c1)) ((first | (with_reducible exact ⟨r0, r1, r2⟩) | (with_reducible exact rd5 ⟨r0, r1, r2⟩) | (refine keep3 K0 ?_; (repeat' (with_reducible first | exact Below.refl _ _ | exact q6 | exact q7 | refine below_drew ?_ | refine below_al ?_ _ | refine below_set ?_ _ ?_)); (all_goals (first | exact q6.size | exact q7.size | exact Nat.le_refl _)))))
     ((first
      | (go_at_call 34; have hmark := q6; refine (M5 _ (by (repeat' (with_reducible first | exact Below.refl _ _ | exact q6 | exact q7 | refine below_drew ?_ | refine below_al ?_ _ | refine below_set ?_ _ ?_))) _ _ _ _ (by (repeat' (with_reducible first | exact I6 | refine iv_up ?_)))).mono ?_; rintro e w7 ⟨s7, A7, c7, l7, rfl, I7, b7⟩; have p7 : Below w6.heap.size w6 w7 := (by refine below_via ?_ b7; (repeat' (with_reducible first | exact Below.refl _ _ | exact q6 | exact q7 | refine below_drew ?_ | refine below_al ?_ _ | refine below_set ?_ _ ?_))); have q7 := q6.trans (p7.mono q6.size); (try (replace Ta := Ta.on p7)); (first | (have Ta : Blk w7 w6.heap.size #[.bool false, .slice none 0 0] 24 := (by with_reducible exact blk_al1 b7)) | skip); clear r0 r1 r2; have r0 : w7.cell? ⟨w.heap.size, 1, none⟩ = some (.int .i64 (p : Int)) := cell_at (K0.on q7).h 1 _ rfl; have r1 : w7.cell? ⟨w.heap.size, 2, none⟩ = some (.bool false) := cell_at (K0.on q7).h 2 _ rfl; have r2 : w7.cell? ⟨w.heap.size, 3, none⟩ = some (.slice A1 l1.length c1) := cell_at (K0.on q7).h 3 _ rfl; (try (have ta0 := cell_at Ta.h 0 _ rfl; have ta1 := cell_at Ta.h 1 _ rfl; have ta2 := frozen_at Ta.h 0; have ta3 := frozen_at Ta.h 1)))
      | (go_at_call 35; refine (hT _).mono ?_; rintro e w6 ⟨s6, A6, c6, l6, rfl, I6, b6⟩; have q6 : Below w5.heap.size w5 w6 := (by refine below_via ?_ b6; (repeat' (with_reducible first | exact Below.refl _ _ | exact q6 | exact q7 | refine below_drew ?_ | refine below_al ?_ _ | refine below_set ?_ _ ?_))); have p6 := q6; (first | (have Ta : Blk w6 w5.heap.size #[.bool false, .slice none 0 0] 24 := (by with_reducible exact blk_al1d b6)) | skip); clear r0 r1 r2; have r0 : w6.cell? ⟨w.heap.size, 1, none⟩ = some (.int .i64 (p : Int)) := cell_at (K0.on q6).h 1 _ rfl; have r1 : w6.cell? ⟨w.heap.size, 2, none⟩ = some (.bool false) := cell_at (K0.on q6).h 2 _ rfl; have r2 : w6.cell? ⟨w.heap.size, 3, none⟩ = some (.slice A1 l1.length c1) := cell_at (K0.on q6).h 3 _ rfl)))
    all_goals
     go_wp2_with fail
     go_meet
     refine ⟨_, s7, A7, c7, l7, rfl, ?_, ?_, ?_, ?_⟩
     all_goals (repeat' (with_reducible first | exact I7 | exact Ta | exact q7 | exact blk_new _ _ _ | apply blk_drew | apply iv_drew | apply below_drew | apply blk_up | apply iv_up | apply below_al | apply blk_s1 | apply blk_s0 | apply iv_set | apply below_set))
     all_goals (first | exact q6.size | exact q7.size | exact Nat.le_refl _)
   case rest =>
    obtain ⟨G, s6, A6, c6, l6, rfl, KG, IG, bG, hG⟩ := hcut
    have hb6 := hb5.trans (bG.mono hb5.size)
    have lG := blk_lt KG
    replace K1 := K1.on bG
    have ro := IG.ok ex (by decide)
    have hs6 : s6 = false := by rw [IG.sgn]; exact decide_eq_false (by have := hx0.out; omega)
    subst hs6
    have hrt := RRoot_pos false rfl 2 A6 c6 l6 wc IG.rd IG.cap ro.ok (by decide) (by decide) rfl
    rw [ro.nat] at hrt
    have er : Lz 45 ((rootN x.natAbs 2 : Nat) : Int) := ex.le (by rw [Int.natAbs_natCast]; exact rootN_le _)
    generalize ((rootN x.natAbs 2 : Nat) : Int) = r at *
    replace hrt : Calls Tryz.prog 96 #[iv false A6 l6.length c6, .int .i64 2] wc (RetGot r 0 wc) := hrt
    obtain ⟨g0, g1⟩ := cL2 KG.h
    clear M5 hT K0 ro hx0 HD
    go_upto_region 7 with (go_at_call 96; refine hrt.mono ?_; rintro e w7 ⟨s7, A7, c7, l7, rfl, z7, n7, r7, b7⟩)
    have I7 : IV w7 s7 A7 c7 l7 r := ⟨r7, n7, z7⟩
    obtain ⟨W8, hW8, hbW8, Q0, hszW8⟩ := box1 w7 #[.bool s7, .slice A7 l7.length c7, .int .i64 0] 105
    rw [hW8]
    have b8 := b7.trans (hbW8.mono b7.size)
    have I8 := I7.on hbW8
    replace KG := KG.on b8
    replace IG := IG.on b8
    replace K1 := K1.on b8
    have hb8 := hb6.trans (b8.mono hb6.size)
    obtain ⟨q0, q1⟩ := cL2 Q0.h
    have lb7 := b7.size
    clear g0 g1 hrt hW8 I7 r7 z7 n7
    go_upto_region 8 with fail
    obtain ⟨W9, hW9, hbW9, R0, hszW9⟩ := box1 W8 #[.bool s7, .slice A7 l7.length c7] 24
    rw [hW9]
    rw [hszW8] at R0
    replace hszW8 := Lib.hid hszW8
    replace hszW9 := Lib.hid hszW9
    replace KG := KG.on hbW9
    replace IG := IG.on hbW9
    replace K1 := K1.on hbW9
    have J7 := I8.on hbW9
    have hb9 := hb8.trans (hbW9.mono hb8.size)
    have hbc9 := b8.trans (hbW9.mono b8.size)
    have e2 := er.mul er
    have e3 := (ex.mono (by decide : 45 ≤ 90)).add e2.neg
    have M2 := fun W' (h : Below W9.heap.size W9 W') => rtimes_i s7 s7 A7 A7 c7 c7 l7 l7 r r W' (J7.on h) (J7.on h) er er (by decide) (by decide)
    have N2 := fun W' s A c l (I : IV W' s A c l (r * r)) => rminus_i s A c l (r * r) W' I
    have S2 := fun W' (h : Below W9.heap.size W9 W') s A c l (I : IV W' s A c l (-(r * r))) => rsum_i false s A6 A c6 c l6 l x (-(r * r)) W' (IG.on h) I (ex.mono (by decide : 45 ≤ 90)) e2.neg (by decide) (by decide)
    have hup : rootUp x r = if 0 < cmpZ (x + -(r * r)) r then r + 1 else r := by
     unfold rootUp cmpZ
     by_cases h1 : x + -(r * r) < r
     · rw [if_pos h1, if_neg (by omega), if_neg (by omega)]
     · rw [if_neg h1]
       by_cases h2 : r < x + -(r * r)
       · rw [if_pos h2, if_pos (by omega), if_pos (by decide)]
       · rw [if_neg h2, if_neg (by omega), if_neg (by decide)]
    have hE3 := hE2.out
    rw [hup] at hE3
    clear hup e2 q0 q1 hW9
    generalize x + -(r * r) = xr at *
    generalize -(r * r) = nr at *
    generalize r * r = rr at *
    replace hE3 := Lib.hid hE3
    go_cut [6] from 26 to 31 (fun pv wx => ∃ G s' A' c' l', pv = .pointer (some ⟨G, 0, none⟩) ∧ Blk wx G #[.bool s', .slice A' (List.length l') c'] 24 ∧ IV wx s' A' c' l' xr ∧ Below W9.heap.size W9 wx ∧ W9.heap.size ≤ G)
    case first =>
     have r0 : W9.cell? ⟨G, 0, none⟩ = some (.bool false) := cell_at KG.h 0 _ rfl
     have r1 : W9.cell? ⟨G, 1, none⟩ = some (.slice A6 l6.length c6) := cell_at KG.h 1 _ rfl
     have r2 : W9.cell? ⟨w7.heap.size + 1, 0, none⟩ = some (.bool s7) := cell_at R0.h 0 _ rfl
     have r3 : W9.cell? ⟨w7.heap.size + 1, 1, none⟩ = some (.slice A7 l7.length c7) := cell_at R0.h 1 _ rfl
     go_region_held3 (fun w'' => w''.cell? ⟨G, 0, none⟩ = some (.bool false) ∧ w''.cell? ⟨G, 1, none⟩ = some (.slice A6 l6.length c6) ∧ w''.cell? ⟨w7.heap.size + 1, 0, none⟩ = some (.bool s7) ∧ w''.cell? ⟨w7.heap.size + 1, 1, none⟩ = some (.slice A7 l7.length c7)) ((first | (with_reducible exact ⟨r0, r1, r2, r3⟩) | (with_reducible exact drew4 ⟨r0, r1, r2, r3⟩) | (refine keep22 KG R0 ?_; (repeat' (with_reducible first | exact Below.refl _ _ | exact q10 | exact q11 | exact q12 | refine below_drew ?_ | refine below_al ?_ _ | refine below_set ?_ _ ?_)); (all_goals (first | exact q10.size | exact q11.size | exact q12.size | exact Nat.le_refl _)))))
      ((first
       | (go_at_call 46; have hmark := q11; refine (S2 _ (by (repeat' (with_reducible first | exact Below.refl _ _ | exact q10 | exact q11 | exact q12 | refine below_drew ?_ | refine below_al ?_ _ | refine below_set ?_ _ ?_))) _ _ _ _ (by (repeat' (with_reducible first | exact I11 | refine iv_up ?_)))).mono ?_; rintro e w12 ⟨s12, A12, c12, l12, rfl, I12, b12⟩; have p12 : Below w11.heap.size w11 w12 := (by refine below_via ?_ b12; (repeat' (with_reducible first | exact Below.refl _ _ | exact q10 | exact q11 | exact q12 | refine below_drew ?_ | refine below_al ?_ _ | refine below_set ?_ _ ?_))); have q12 := q11.trans (p12.mono q11.size); (try (replace Ta := Ta.on p12)); (first | (have Ta : Blk w12 w11.heap.size #[.bool false, .slice none 0 0] 24 := (by with_reducible exact blk_al1 b12)) | skip); clear r0 r1 r2 r3; have r0 : w12.cell? ⟨G, 0, none⟩ = some (.bool false) := cell_at (KG.on q12).h 0 _ rfl; have r1 : w12.cell? ⟨G, 1, none⟩ = some (.slice A6 l6.length c6) := cell_at (KG.on q12).h 1 _ rfl; have r2 : w12.cell? ⟨w7.heap.size + 1, 0, none⟩ = some (.bool s7) := cell_at (R0.on q12).h 0 _ rfl; have r3 : w12.cell? ⟨w7.heap.size + 1, 1, none⟩ = some (.slice A7 l7.length c7) := cell_at (R0.on q12).h 1 _ rfl; (try (have ta0 := cell_at Ta.h 0 _ rfl; have ta1 := cell_at Ta.h 1 _ rfl; have ta2 := frozen_at Ta.h 0; have ta3 := frozen_at Ta.h 1)))
       | (go_at_call 37; have hmark := q10; refine (N2 _ _ _ _ _ (by (repeat' (with_reducible first | exact I10 | refine iv_up ?_)))).mono ?_; rintro e w11 ⟨s11, A11, c11, l11, rfl, I11, b11⟩; have p11 : Below w10.heap.size w10 w11 := (by refine below_via ?_ b11; (repeat' (with_reducible first | exact Below.refl _ _ | exact q10 | exact q11 | exact q12 | refine below_drew ?_ | refine below_al ?_ _ | refine below_set ?_ _ ?_))); have q11 := q10.trans (p11.mono q10.size); (try (replace Ta := Ta.on p11)); (first | (have Ta : Blk w11 w10.heap.size #[.bool false, .slice none 0 0] 24 := (by with_reducible exact blk_al1 b11)) | skip); clear r0 r1 r2 r3; have r0 : w11.cell? ⟨G, 0, none⟩ = some (.bool false) := cell_at (KG.on q11).h 0 _ rfl; have r1 : w11.cell? ⟨G, 1, none⟩ = some (.slice A6 l6.length c6) := cell_at (KG.on q11).h 1 _ rfl; have r2 : w11.cell? ⟨w7.heap.size + 1, 0, none⟩ = some (.bool s7) := cell_at (R0.on q11).h 0 _ rfl; have r3 : w11.cell? ⟨w7.heap.size + 1, 1, none⟩ = some (.slice A7 l7.length c7) := cell_at (R0.on q11).h 1 _ rfl)
       | (go_at_call 34; refine (M2 _ (by (repeat' (with_reducible first | exact Below.refl _ _ | exact q10 | exact q11 | exact q12 | refine below_drew ?_ | refine below_al ?_ _ | refine below_set ?_ _ ?_)))).mono ?_; rintro e w10 ⟨s10, A10, c10, l10, rfl, I10, b10⟩; have q10 : Below W9.heap.size W9 w10 := (by refine below_via ?_ b10; (repeat' (with_reducible first | exact Below.refl _ _ | exact q10 | exact q11 | exact q12 | refine below_drew ?_ | refine below_al ?_ _ | refine below_set ?_ _ ?_))); have p10 := q10; (first | (have Ta : Blk w10 W9.heap.size #[.bool false, .slice none 0 0] 24 := (by with_reducible exact blk_al1d b10)) | skip); clear r0 r1 r2 r3; have r0 : w10.cell? ⟨G, 0, none⟩ = some (.bool false) := cell_at (KG.on q10).h 0 _ rfl; have r1 : w10.cell? ⟨G, 1, none⟩ = some (.slice A6 l6.length c6) := cell_at (KG.on q10).h 1 _ rfl; have r2 : w10.cell? ⟨w7.heap.size + 1, 0, none⟩ = some (.bool s7) := cell_at (R0.on q10).h 0 _ rfl; have r3 : w10.cell? ⟨w7.heap.size + 1, 1, none⟩ = some (.slice A7 l7.length c7) := cell_at (R0.on q10).h 1 _ rfl)))
     all_goals
      go_wp2_with fail
      go_meet
      refine ⟨_, s12, A12, c12, l12, rfl, ?_, ?_, ?_, ?_⟩
      all_goals (repeat' (with_reducible first | exact I12 | exact Ta | exact q12 | exact blk_new _ _ _ | apply blk_drew | apply iv_drew | apply below_drew | apply blk_up | apply iv_up | apply below_al | apply blk_s1 | apply blk_s0 | apply iv_set | apply below_set))
      all_goals (first | exact q10.size | exact q11.size | exact q12.size | exact Nat.le_refl _)
    case rest =>
     obtain ⟨H, s8, A8, c8, l8, rfl, KH, IH, bH, hH⟩ := hcut
     have hbH := hb9.trans (bH.mono hb9.size)
     replace K1 := K1.on bH
     replace R0 := R0.on bH
     replace J7 := J7.on bH
     have lW8 := b7.size
     have hC := rcmp_i s8 s7 A8 A7 c8 c7 l8 l7 xr r wc IH J7
     have ic : ∀ k, Lz 46 k → ∀ W' s A c l (I : IV W' s A c l k), Calls Tryz.prog 97 #[iv s A (List.length l) c, .int .i64 20] W' (RetG (stripE k) W') := fun k hk W' s A c l I => Least_i s A c l k 20 (by decide) W' I hk (by decide)
     generalize cmpZ xr r = c at *
     obtain ⟨h0, h1⟩ := cL2 KH.h
     obtain ⟨g0, g1⟩ := cL2 R0.h
     clear KG IG I8 Q0 M2 N2 S2 bG bH hE2 e3 ex
     by_cases c0 : 0 < c
     · have cb : decide (0 < c) = true := decide_eq_true c0
       have hE4 := hE3.out
       rw [if_pos c0] at hE4
       have hL := ic (r + 1) (er.add (Lz.small (k := 1) (by decide) (by decide) |>.mono (by decide)))
       rw [hE4] at hL
       have hS := fun W' (h : Below wc.heap.size wc W') s A c l (I : IV W' s A c l 1) => rsum_i s7 s A7 A c7 c l7 l r 1 W' (J7.on h) I er (Lz.small (k := 1) (by decide) (by decide)) (by decide) (by decide)
       clear hE4 hE3 ic er
       generalize r + 1 = ru at *
       go_upto_region 10 with (go_at_call 47; refine hC.mono ?_; rintro e w13 ⟨rfl, b13⟩)
       have hS' := fun W' (h : Below w13.heap.size w13 W') => hS W' (b13.trans (h.mono b13.size))
       replace R0 := R0.on b13
       replace K1 := K1.on b13
       have hbN := hbH.trans (b13.mono hbH.size)
       clear h0 h1 g0 g1 hS hC KH IH
       have g0 : w13.cell? ⟨w7.heap.size + 1, 0, none⟩ = some (.bool s7) := cell_at R0.h 0 _ rfl
       have g1 : w13.cell? ⟨w7.heap.size + 1, 1, none⟩ = some (.slice A7 l7.length c7) := cell_at R0.h 1 _ rfl
       refine wp_region_any (by kernel_rfl) ?_
       refine wpAny_of_F (S := fun w'' => w''.cell? ⟨w7.heap.size + 1, 0, none⟩ = some (.bool s7) ∧ w''.cell? ⟨w7.heap.size + 1, 1, none⟩ = some (.slice A7 l7.length c7)) (late := [3]) _ _ _ _ ?_
       refine fT 0 6 (Value.agg #[.bool s7, .slice A7 l7.length c7]) ⟨g0, g1⟩ ?_
       try simp only [Act.put, aQ, bQ, cQ]
       refine wpAnyF_one (i := 1) (by kernel_rfl) rfl (fun K hK => ?_)
       go_simp
       go_at_call 45; refine (rof_i 1 _ (by decide) (by decide)).mono ?_; rintro e w14 ⟨s14, A14, c14, l14, rfl, I14, b14⟩; have q14 := (below_drew (Below.refl w13.heap.size w13)).trans b14; replace g0 := cell_at (R0.on q14).h 0 _ rfl; replace g1 := cell_at (R0.on q14).h 1 _ rfl
       go_wp2_with fail
       refine hK.out _ _ (Or.inr ⟨g0, g1⟩) ?_
       clear hK K
       try simp only [Act.put, aQ, bQ, cQ]
       refine wpAnyF_one (i := 2) (by kernel_rfl) rfl (fun K hK => ?_)
       go_simp
       go_at_call 46; refine (hS' _ q14 _ _ _ _ I14).mono ?_; rintro e w15 ⟨s15, A15, c15, l15, rfl, I15, b15⟩; have q15 := q14.trans (b15.mono q14.size); replace g0 := cell_at (R0.on q15).h 0 _ rfl; replace g1 := cell_at (R0.on q15).h 1 _ rfl; obtain ⟨j0, j1⟩ := fZ2 (R0.on q15).h
       go_wp2_with fail
       refine hK.out _ _ (Or.inr ⟨g0, g1⟩) ?_
       clear hK K
       try simp only [Act.put, aQ, bQ, cQ]
       refine wpAnyF_one (i := 3) (by kernel_rfl) rfl (fun K hK => ?_)
       go_simp
       refine hK.out _ _ (Or.inl (by decide)) ?_
       clear hK K
       try simp only [Act.put, aQ, bQ, cQ]
       refine wpAnyF_done (by kernel_rfl) ?_ _
       obtain ⟨X, hX, KX, NX, OX⟩ := storeI (s' := s15) (A' := A15) (n' := l15.length) (c' := c15) (R0.on q15)
       rw [hX]
       have GX := OX.one (K1.on q15) (by omega)
       have hbX := (hbN.trans (q15.mono hbN.size)).trans (NX.low.mono (by omega))
       have IX := I15.nudge NX
       clear hX g0 g1 j0 j1 hS'
       obtain ⟨g0, g1⟩ := cL2 KX.h
       go_wp2_with (go_at_call 97; refine (hL _ _ _ _ _ IX).mono ?_; rintro e w9 ⟨s9, A9, c9, l9, B9, d9, rfl, I9, b9⟩; obtain ⟨e0, e1, e2, e3, e4, e5, e6⟩ := cL7 (GX.on b9).h; obtain ⟨f0, f1, f2, f3, f4, f5, f6⟩ := fZ7 (GX.on b9).h)
       have hbY := hbX.trans (b9.mono hbX.size)
       obtain ⟨X, hX, KX, NX, OX⟩ := storeG (k' := kd E) (p' := (E.2.1 : Int)) (s' := s9) (A' := A9) (n' := l9.length) (c' := c9) (S' := ⟨#[]⟩) (B' := B9) (m' := 0) (d' := d9) (e' := E.2.2) (GX.on b9)
       rw [hX]
       exact ret_cellT rfl Tryz.underlying36 rgot_size rfl rfl KX.h rfl ⟨s9, A9, c9, l9, B9, d9, rfl, I9.nudge NX, (hbY).trans (NX.low.mono (by omega))⟩
     · have cb : decide (0 < c) = false := decide_eq_false c0
       have hE4 := hE3.out
       rw [if_neg c0] at hE4
       have hL := ic r (er.mono (by decide))
       rw [hE4] at hL
       clear hE4 hE3 ic er
       go_wp2_with first
        | (go_at_call 97; have hmark := b13; refine (hL _ _ _ _ _ (J7.on b13)).mono ?_; rintro e w9 ⟨s9, A9, c9, l9, B9, d9, rfl, I9, b9⟩; have q9 := b13.trans (b9.mono b13.size); obtain ⟨e0, e1, e2, e3, e4, e5, e6⟩ := cL7 (K1.on q9).h; obtain ⟨f0, f1, f2, f3, f4, f5, f6⟩ := fZ7 (K1.on q9).h)
        | (go_at_call 47; refine hC.mono ?_; rintro e w13 ⟨rfl, b13⟩; obtain ⟨k0, k1⟩ := cL2 (R0.on b13).h)
       have hbY := hbH.trans (q9.mono hbH.size)
       obtain ⟨X, hX, KX, NX, OX⟩ := storeG (k' := kd E) (p' := (E.2.1 : Int)) (s' := s9) (A' := A9) (n' := l9.length) (c' := c9) (S' := ⟨#[]⟩) (B' := B9) (m' := 0) (d' := d9) (e' := E.2.2) (K1.on q9)
       rw [hX]
       exact ret_cellT rfl Tryz.underlying36 rgot_size rfl rfl KX.h rfl ⟨s9, A9, c9, l9, B9, d9, rfl, I9.nudge NX, (hbY).trans (NX.low.mono (by omega))⟩
theorem RSqrt_calls (a : VA) (w : World) (ha : a.At w) :
 Calls Tryz.prog 22 #[a.val] w (RetG (sqrtX a) w) := by
 unfold sqrtX
 cases hok : a.ok
 · rw [one_no hok]
   exact RSqrt_no a w ha hok
 · rw [one_ok hok]
   obtain ⟨p, s1, A1, c1, l1, B1, d1, e1, i1, D1, u1, q1⟩ := VA.destruct ha.rd.words hok
   rw [u1]
   generalize a.z = za at *
   subst e1
   exact RSqrt_z s1 A1 c1 l1 za p B1 d1 w ⟨ha.rd, ha.cap, i1⟩ D1
end Dc
end Go.Proofs.YtjghnghceeijeaaGreatDoor
