/-
  Contracts of the walks below.
-/
import Derived.Test.YtjghnghceeijeaaGreatDoorDp31
import Derived.Test.YtjghnghceeijeaaGreatDoorDp34
set_option maxRecDepth 100000
set_option maxHeartbeats 4000000
set_option linter.unusedVariables false
set_option linter.unusedSimpArgs false
namespace Go.Proofs.YtjghnghceeijeaaGreatDoor
namespace Dc
open Go.RowKit Go.Shelf Go.BigFrame Go.Proofs.YtjghnghceeijeaaGreatDoor.Nm
attribute [local go_sem] Oper.semAt_some
theorem dgB_true {c : Nat} (h : dgB c = true) : 48 ≤ c ∧ c ≤ 57 := by
 unfold dgB at h
 rw [Bool.and_eq_true, decide_eq_true_eq, decide_eq_true_eq] at h
 exact h
theorem dgB_false {c : Nat} (h : dgB c = false) : (48 ≤ c ∧ ¬ c ≤ 57) ∨ ¬ 48 ≤ c := by
 unfold dgB at h
 rw [Bool.and_eq_false_iff, decide_eq_false_iff_not, decide_eq_false_iff_not] at h
 omega
theorem rdigits_calls (S : ByteArray) (a n : Nat) (hn : a + n ≤ S.size) (hsm : S.size < 4611686018427387904) (hall : ∀ k, k < n → dgB ((bytesN S).getD (a + k) 0) = true) (hend : a + n = S.size ∨ dgB ((bytesN S).getD (a + n) 0) = false) (w : World) :
 Calls Tryz.prog 114 #[.string S, .int .i64 (a : Int)] w fun e w' => e = .returned (.int .i64 (n : Int)) ∧ w' = w := by
 replace hall := Lib.hid hall
 replace hend := Lib.hid hend
 go_enter Tryz.func114, Tryz.ntmps114
 go_wp2_with fail
 go_loop [5] (fun nv => ∃ i : Nat, nv = .int .i64 (i : Int) ∧ i ≤ n) (fun nv => n - (intOf nv).toNat)
 case atStart => exact ⟨0, rfl, Nat.zero_le _⟩
 case round =>
  obtain ⟨i, rfl, hi⟩ := hrel
  by_cases ilt : i < n
  · have qlt : a + i < S.size := by omega
    have hget := getB qlt
    obtain ⟨c, hc⟩ : ∃ c, (bytesN S).getD (a + i) 0 = c := ⟨_, rfl⟩
    have hd := hall.out i ilt
    rw [hc] at hd
    rw [hc] at hget
    obtain ⟨h1, h2⟩ := dgB_true hd
    have hqI : (a : Int) + (i : Int) < (S.size : Int) := by omega
    have i1 : (48 : Int) ≤ (c : Int) := by omega
    have i2 : (c : Int) ≤ 57 := by omega
    clear hc hd h1 h2
    go_wp2_with fail
    go_round
    case rel => exact ⟨i + 1, by simp, by omega⟩
    case measure => simp only [intOf]; omega
  · obtain rfl : i = n := by omega
    by_cases hlt : a + i < S.size
    · have hget := getB hlt
      obtain ⟨c, hc⟩ : ∃ c, (bytesN S).getD (a + i) 0 = c := ⟨_, rfl⟩
      have hd := hend.out.resolve_left (by omega)
      rw [hc] at hd
      rw [hc] at hget
      have hqI : (a : Int) + (i : Int) < (S.size : Int) := by omega
      rcases dgB_false hd with ⟨h1, h2⟩ | h1
      · have i1 : (48 : Int) ≤ (c : Int) := by omega
        have i2 : ¬ (c : Int) ≤ 57 := by omega
        clear hc hd h1 h2
        go_wp2_with fail
        go_ret
        exact ⟨rfl, rfl⟩
      · have i1 : ¬ (48 : Int) ≤ (c : Int) := by omega
        clear hc hd h1
        go_wp2_with fail
        go_ret
        exact ⟨rfl, rfl⟩
    · have hqI : ¬ (a : Int) + (i : Int) < (S.size : Int) := by omega
      go_wp2_with fail
      go_ret
      exact ⟨rfl, rfl⟩
structure RCut (S : ByteArray) (n m v : Nat) : Prop where
 size : S.size ≤ 2000
 npos : 0 < n
 mpos : 0 < m
 tot : n + 1 + m = S.size
 front : ∀ k, k < n → dgB ((bytesN S).getD (0 + k) 0) = true
 point : (bytesN S).getD n 0 = 46
 behind : ∀ k, k < m → dgB ((bytesN S).getD (n + 1 + k) 0) = true
 last : (bytesN S).getD (n + m) 0 ≠ 48
 m20 : m ≤ 20
 ok : parOk 10 (bytesN (S.extract 0 n ++ S.extract (n + 1) (n + 1 + m))) = true
 pos : (bytesN (S.extract 0 n ++ S.extract (n + 1) (n + 1 + m))).getD 0 0 ≠ 45
 val : parV 10 (bytesN (S.extract 0 n ++ S.extract (n + 1) (n + 1 + m))) = v
 fit : fitZ (v : Int) = ((v : Int), 0)
 lz : Lz 300 (v : Int)
theorem rparse_good (S : ByteArray) (n m v : Nat) (w : World) (C : RCut S n m v) :
 Calls Tryz.prog 26 #[.string S] w (RetG (madeE (v : Int) m) w) := by
 obtain ⟨hS, hn, hm, htot, hfr, hpt, hbe, hla, hm20, hok, hpos, hv, hfit, hlz⟩ := C
 obtain ⟨W, hW, hbW, K0, hszW⟩ := box1 w #[.int .i64 0, .int .i64 0, .bool false, .slice none 0 0, .string ⟨#[]⟩, .slice none 0 0, .int .i64 0] 36
 have hd1 : ∀ W', Calls Tryz.prog 114 #[.string S, .int .i64 0] W' fun e w' => e = .returned (.int .i64 (n : Int)) ∧ w' = W' := fun W' =>
  rdigits_calls S 0 n (by omega) (by omega) hfr (.inr (by rw [Nat.zero_add, hpt]; decide)) W'
 have hd2 : ∀ W', Calls Tryz.prog 114 #[.string S, .int .i64 ((n : Int) + 1)] W' fun e w' => e = .returned (.int .i64 (m : Int)) ∧ w' = W' := fun W' => by
  have h := rdigits_calls S (n + 1) m (by omega) (by omega) hbe (.inl htot) W'
  rwa [Int.natCast_add] at h
 have h0 : 0 < S.size := by omega
 have hp : n < S.size := by omega
 have hq : n + m < S.size := by omega
 have hg0 := getB h0
 have hg1 := getB hp
 have hg2 := getB hq
 rw [hpt] at hg1
 obtain ⟨c0, hc0⟩ : ∃ c, (bytesN S).getD 0 0 = c := ⟨_, rfl⟩
 obtain ⟨c2, hc2⟩ : ∃ c, (bytesN S).getD (n + m) 0 = c := ⟨_, rfl⟩
 rw [hc0] at hg0
 rw [hc2] at hg2
 have e0 : ((c0 : Int) == 45) = false := by
  have h := dgB_true (hfr 0 hn)
  rw [Nat.zero_add, hc0] at h
  rw [beq_eq_false_iff_ne]; omega
 have e2 : ((c2 : Int) == 48) = false := by rw [beq_eq_false_iff_ne]; omega
 have e3 : ((n : Int) == 0) = false := by rw [beq_eq_false_iff_ne]; omega
 have e4 : ((m : Int) == 0) = false := by rw [beq_eq_false_iff_ne]; omega
 have i1 : ¬ (2000 : Int) < (S.size : Int) := by omega
 have i2 : (0 : Int) < (S.size : Int) := by omega
 have i3 : ¬ (S.size : Int) ≤ (n : Int) := by omega
 have i4 : (0 : Int) < (m : Int) := by omega
 have i5 : ¬ (20 : Int) < (m : Int) := by omega
 have i6 : ((n : Int) + 1 + (m : Int)) = (S.size : Int) := by omega
 obtain ⟨Sa, hSa⟩ : ∃ Sa, S.extract 0 n = Sa := ⟨_, rfl⟩
 rw [htot] at hv hok hpos
 obtain ⟨Sb, hSb⟩ : ∃ Sb, S.extract (n + 1) S.size = Sb := ⟨_, rfl⟩
 have hna : ¬ 9223372036854775807 < Sa.size + Sb.size := by rw [← hSa, ← hSb, ByteArray.size_extract, ByteArray.size_extract]; omega
 have hss : (Sa ++ Sb).size ≤ 8000 := by rw [← hSa, ← hSb, ByteArray.size_append, ByteArray.size_extract, ByteArray.size_extract]; omega
 rw [hSa, hSb] at hv hok hpos
 obtain ⟨Sc, hSc⟩ : ∃ Sc, Sa ++ Sb = Sc := ⟨_, rfl⟩
 rw [hSc] at hv hok hpos hss
 obtain ⟨k0, kg⟩ := parOk_true hok
 rw [bytesN_length] at k0 kg
 have hpa : ∀ W', Calls Tryz.prog 115 #[.string Sc, .int .i64 10] W' (fun e w' => ∃ s A c l, e = .returned (.agg #[.bool s, .slice A (List.length l) c, .int .i64 0]) ∧ IV w' s A c l (v : Int) ∧ Below W'.heap.size W' w') := fun W' => by
  have h := RParse_good_f 10 Sc W' (by decide) (by decide) _ (getB k0) (by rw [beq_eq_false_iff_ne]; omega) (by omega) k0 (fun k _ h2 => kg k h2)
  rw [List.drop_zero, hv, hfit] at h
  exact h.mono fun e w' ⟨s, A, c, l, h1, h2, h3, h4, h5⟩ => ⟨s, A, c, l, h1, ⟨h4, h3, h2⟩, h5⟩
 have U1 := fun W' s A c l (I : IV W' s A c l (v : Int)) => Least_i s A c l _ m hm20 W' I hlz (by decide)
 obtain ⟨E, hE⟩ : ∃ E, madeE (v : Int) m = E := ⟨_, rfl⟩
 rw [hE] at U1 ⊢
 clear hE hv hss hok hpos hfit k0 kg hfr hpt hbe hla hm20 hlz hc0 hc2 hS
 replace htot := Lib.hid htot
 replace hszW := Lib.hid hszW
 go_enter Tryz.func26, Tryz.ntmps26
 go_wp2_with first
  | (go_at_call 114; refine (hd1 _).mono ?_; clear hd1; rintro e w4 ⟨rfl, rfl⟩)
  | (go_at_call 114; refine (hd2 _).mono ?_; clear hd2; rintro e w5 ⟨rfl, rfl⟩)
 go_loop [6] (fun mv => mv = .int .i64 (m : Int)) (fun _ => 0)
 case atStart => rfl
 case round =>
  obtain rfl := hrel
  go_upto_region 17 with fail
  have j1 : ¬ S.size < n := by omega
  have j2 : IntKind.i64.wrap ((n : Int) + 1) = (n : Int) + 1 := by rw [IntKind.wrap_i64]; omega
  have j3 : IntKind.i64.wrap (S.size : Int) = (S.size : Int) := by rw [IntKind.wrap_i64]; omega
  have j4 : (0 : Int) ≤ (n : Int) + 1 := by omega
  have j5 : ¬ (S.size : Int) < (n : Int) + 1 := by omega
  go_cut [7] from 72 to 84 (fun pv wx => ∃ G s' A' c' l', pv = .pointer (some ⟨G, 0, none⟩) ∧ Blk wx G #[.bool s', .slice A' (List.length l') c', .int .i64 0] 105 ∧ IV wx s' A' c' l' (v : Int) ∧ Below w5.heap.size w5 wx)
  case first =>
   refine wp_region_any (by kernel_rfl) ?_
   refine pT 0 (Value.string S) ?_
   try simp only [Act.put, aQ, bQ, cQ]
   refine pT 1 (Value.int .i64 (n : Int)) ?_
   try simp only [Act.put, aQ, bQ, cQ]
   refine pT 2 (Value.string Sa) ?_
   try simp only [Act.put, aQ, bQ, cQ]
   refine pT 3 (Value.string S) ?_
   try simp only [Act.put, aQ, bQ, cQ]
   refine pT 4 (Value.int .i64 (n : Int)) ?_
   try simp only [Act.put, aQ, bQ, cQ]
   refine pT 5 (Value.int .i64 ((n : Int) + 1)) ?_
   try simp only [Act.put, aQ, bQ, cQ]
   refine pT 6 (Value.int .i64 (n : Int)) ?_
   try simp only [Act.put, aQ, bQ, cQ]
   refine pT 7 (Value.int .i64 ((n : Int) + 1)) ?_
   try simp only [Act.put, aQ, bQ, cQ]
   refine pT 8 (Value.int .i64 (m : Int)) ?_
   try simp only [Act.put, aQ, bQ, cQ]
   refine pT 9 (Value.int .i64 (S.size : Int)) ?_
   try simp only [Act.put, aQ, bQ, cQ]
   refine pT 10 (Value.string Sb) ?_
   try simp only [Act.put, aQ, bQ, cQ]
   refine pT 11 (Value.string Sc) ?_
   try simp only [Act.put, aQ, bQ, cQ]
   refine wpAny_of_F (S := fun _ => True) (late := []) _ _ _ _ ?_
   refine wpAnyF_two (i := 12) (j := 13) (by kernel_rfl) rfl rfl (fun K hK => ?_) (fun K hK => ?_)
   · go_simp
     go_at_call 115; refine (hpa _).mono ?_; rintro e w9 ⟨s9, A9, c9, l9, rfl, I9, b9⟩
     have q9 : Below w5.heap.size w5 w9 := (below_drew (Below.refl w5.heap.size w5)).trans b9
     go_wp2_with fail
     refine hK.out _ _ (Or.inr trivial) ?_
     clear hK K
     try simp only [Act.put, aQ, bQ, cQ]
     refine wpAnyF_one (i := 13) (by kernel_rfl) rfl (fun K hK => ?_)
     go_simp
     refine hK.out _ _ (Or.inr trivial) ?_
     clear hK K
     try simp only [Act.put, aQ, bQ, cQ]
     refine wpAnyF_one (i := 14) (by kernel_rfl) rfl (fun K hK => ?_)
     go_simp
     refine hK.out _ _ (Or.inr trivial) ?_
     clear hK K
     try simp only [Act.put, aQ, bQ, cQ]
     refine wpAnyF_done (by kernel_rfl) ?_ _
     go_wp2_with fail
     go_meet
     exact ⟨_, s9, A9, c9, l9, rfl, blk_new _ _ _, iv_up I9, q9.trans ((al1 w9 _).mono q9.size)⟩
   · go_simp
     refine hK.out _ _ (Or.inr trivial) ?_
     clear hK K
     try simp only [Act.put, aQ, bQ, cQ]
     refine wpAnyF_one (i := 12) (by kernel_rfl) rfl (fun K hK => ?_)
     go_simp
     go_at_call 115; refine (hpa _).mono ?_; rintro e w9 ⟨s9, A9, c9, l9, rfl, I9, b9⟩
     have q9 : Below w5.heap.size w5 w9 := below_via (below_al (below_drew (Below.refl w5.heap.size w5)) _) b9
     have KT : Blk w9 w5.heap.size #[.bool false, .slice none 0 0, .int .i64 0] 105 := blk_al1d b9
     obtain ⟨t0, t1, t2⟩ := cL3 KT.h
     obtain ⟨f0, f1, f2⟩ := fZ3 KT.h
     go_wp2_with fail
     refine hK.out _ _ (Or.inr trivial) ?_
     clear hK K
     try simp only [Act.put, aQ, bQ, cQ]
     refine wpAnyF_one (i := 14) (by kernel_rfl) rfl (fun K hK => ?_)
     go_simp
     refine hK.out _ _ (Or.inr trivial) ?_
     clear hK K
     try simp only [Act.put, aQ, bQ, cQ]
     refine wpAnyF_done (by kernel_rfl) ?_ _
     go_wp2_with fail
     go_meet
     have K1 : Blk (w9.setCell ⟨w5.heap.size, 0, none⟩ (.bool s9)) w5.heap.size #[.bool s9, .slice none 0 0, .int .i64 0] 105 := ⟨set_blk KT.h 0 _⟩
     have K2 : Blk ((w9.setCell ⟨w5.heap.size, 0, none⟩ (.bool s9)).setCell ⟨w5.heap.size, 1, none⟩ (.slice A9 l9.length c9)) w5.heap.size #[.bool s9, .slice A9 l9.length c9, .int .i64 0] 105 := ⟨set_blk K1.h 1 _⟩
     have N := (((Nudge.of_below (.refl _ w9) q9.size).set (Nat.le_refl _) KT (by intro i x h; rcases i with _ | _ | _ | i <;> simp at h) 0 (.bool s9)).set (Nat.le_refl _) K1 (by intro i x h; rcases i with _ | _ | _ | i <;> simp at h) 1 (.slice A9 l9.length c9)).set (Nat.le_refl _) K2 (by intro i x h; rcases i with _ | _ | _ | i <;> simp at h) 2 (.int .i64 0)
     exact ⟨_, s9, A9, c9, l9, rfl, ⟨set_blk K2.h 2 _⟩, I9.nudge N, q9.trans N.low⟩
  case rest =>
   obtain ⟨G, s8, A8, c8, l8, rfl, KG, IG, bG⟩ := hcut
   obtain ⟨g0, g1⟩ := cL2 KG.h
   go_wp2_with (go_at_call 97; refine (U1 _ _ _ _ _ IG).mono ?_; rintro e w9 ⟨s9, A9, c9, l9, B9, d9, rfl, I9, b9⟩; have q9 := bG.trans (b9.mono bG.size); obtain ⟨e0, e1, e2, e3, e4, e5, e6⟩ := cL7 (K0.on q9).h; obtain ⟨f0, f1, f2, f3, f4, f5, f6⟩ := fZ7 (K0.on q9).h)
   obtain ⟨X, hX, KX, NX, OX⟩ := storeG (k' := kd E) (p' := (E.2.1 : Int)) (s' := s9) (A' := A9) (n' := l9.length) (c' := c9) (S' := ⟨#[]⟩) (B' := B9) (m' := 0) (d' := d9) (e' := E.2.2) (K0.on q9)
   rw [hX]
   exact ret_cellT rfl Tryz.underlying36 rgot_size rfl rfl KX.h rfl ⟨s9, A9, c9, l9, B9, d9, rfl, I9.nudge NX, (hbW.trans (q9.mono hbW.size)).trans (NX.low.mono (by omega))⟩
def RetA (z : Int) (p : Nat) (w : World) (e : Ending) (w' : World) : Prop := ∃ s A c l B d, e = .returned (vv 3 (p : Int) s A (List.length l) c ⟨#[]⟩ B 0 d) ∧ IV w' s A c l z ∧ Below w.heap.size w w'
theorem of_calls (n : Int) (k : Nat) (z : Int) (p : Nat) (hE : madeE n k = (z, p, 0)) (hk : k ≤ 20) (h1 : -9223372036854775808 ≤ n) (h2 : n < 9223372036854775808) (w : World) :
 Calls Tryz.prog 74 #[.int .i64 n, .int .i64 (k : Int)] w (RetA z p w) := by
 obtain ⟨W, hW, hbW, K0, hszW⟩ := box1 w (vcells 0 0 false none 0 0 ⟨#[]⟩ none 0 0) 27
 have hmk := fun s A c l W' (I : IV W' s A c l n) => RMake_i s A c l (k : Int) W' I.rd I.cap
 have hmx : ∀ s A c l W' (I : IV W' s A c l n), makeX s l (k : Int) = (z, p, 0) := fun s A c l W' I => by
  have f : Lz 300 n := (Lz.of (k := 2) (by have : BB ^ 2 = 18446744073709551616 := rfl; omega)).mono (by decide)
  have K := I.ok f (by decide)
  unfold makeX
  rw [if_pos K.ok, K.val, if_neg (by omega), Int.toNat_natCast, hE]
 replace hszW := Lib.hid hszW
 clear hE
 go_enter Tryz.func74, Tryz.ntmps74
 go_upto_region 2 with first
  | (go_at_call 62; have hmark := b5; have hm := hmk _ _ _ _ _ I5; rw [hmx _ _ _ _ _ I5] at hm; refine hm.mono ?_; clear hm; rintro e w6 ⟨s6, A6, c6, l6, B6, d6, rfl, I6, b6⟩; rw [kd_ok (x := (z, p, 0)) rfl]; have q6 := b5.trans (b6.mono b5.size))
  | (go_at_call 45; refine (ROf_calls n _ h1 h2).mono ?_; rintro e w5 ⟨s5, A5, c5, l5, rfl, z5, n5, r5, b5⟩; have I5 : IV w5 s5 A5 c5 l5 n := ⟨r5, n5, z5⟩)
 obtain ⟨W7, hW7, hb7, KG, hsz7⟩ := box1 w6 #[.int .i64 3, .int .i64 (p : Int), .bool s6, .slice A6 l6.length c6, .string ⟨#[]⟩, .slice B6 0 d6, .int .i64 0] 36
 rw [hW7]
 have I7 := I6.on hb7
 have q7 := (hbW.trans (q6.mono hbW.size)).trans (hb7.mono (by have := q6.size; have := hbW.size; omega))
 have K7 := K0.on (q6.trans (hb7.mono q6.size))
 clear hW7 hmk hmx
 obtain ⟨y0, y1, y2, y3, y4, y5⟩ := cL6 KG.h
 obtain ⟨u0, u1, u2, u3, u4, u5⟩ := cL6 K7.h
 obtain ⟨f0, f1, f2, f3, f4, f5⟩ := fZ6 K7.h
 go_wp2_with fail
 obtain ⟨X, hX, KX, NX, OX⟩ := storeV (k' := 3) (p' := (p : Int)) (s' := s6) (A' := A6) (n' := l6.length) (c' := c6) (S' := ⟨#[]⟩) (B' := B6) (m' := 0) (d' := d6) K7
 rw [hX]
 exact ret_cellT rfl Tryz.underlying27 val_size rfl rfl KX.h rfl ⟨s6, A6, c6, l6, B6, d6, rfl, I7.nudge NX, q7.trans (NX.low.mono (by have := q7.size; omega))⟩
def lightB (x : VA) : Bool := !(decide (60 < x.l.length) || decide (100 < x.m) || decide (3000 < x.S.size))
theorem light_not {xs : List VA} {k : Nat} {r : Bool} (hr : Hid (xs.all lightB = r)) (hlt : k < xs.length) (h : lightB xs[k] = false) : r = false := by
 have := hr.out
 cases r
 · rfl
 · have h2 := List.all_eq_true.1 this xs[k] (List.getElem_mem hlt)
   rw [h] at h2; cases h2
theorem light_c (g : Nat) (xs : List VA) (w : World) (hx : ValsAt w g xs) (hn : xs.length ≤ 8) :
 Calls Tryz.prog 17 #[.slice (some ⟨g, 0, none⟩) xs.length xs.length] w fun e w' => e = .returned (.bool (xs.all lightB)) ∧ w' = w := by
 obtain ⟨r, hr⟩ : ∃ r, xs.all lightB = r := ⟨_, rfl⟩
 rw [hr]
 replace hr := Lib.hid hr
 go_enter Tryz.func17, Tryz.ntmps17
 go_wp2_with fail
 go_loop [3] (fun i => ∃ k : Nat, i = .int .i64 (k : Int) ∧ k ≤ xs.length ∧ Hid ((xs.take k).all lightB = true)) (fun i => xs.length - (intOf i).toNat)
 case atStart => exact ⟨0, rfl, Nat.zero_le _, rfl⟩
 case round =>
  obtain ⟨k, rfl, hk, hall⟩ := hrel
  by_cases hlt : k < xs.length
  · have x3 := hx.c3 k hlt
    have x4 := hx.c4 k hlt
    have x5 := hx.c5 k hlt
    have hno := light_not hr hlt
    have hyes : lightB xs[k] = true → (xs.take (k + 1)).all lightB = true := fun h => by
     rw [List.take_succ_eq_append_getElem hlt, List.all_append, hall.out]
     simp [h]
    obtain ⟨x, hxk⟩ : ∃ x, xs[k] = x := ⟨_, rfl⟩
    rw [hxk] at x3 x4 x5 hno hyes
    have hlb : lightB x = !(decide (60 < x.l.length) || decide (100 < x.m) || decide (3000 < x.S.size)) := rfl
    clear hx hxk
    by_cases h1 : 60 < x.l.length
    · obtain rfl := hno (by rw [hlb, decide_eq_true h1]; rfl)
      have i1 : (60 : Int) < (x.l.length : Int) := by omega
      clear hno hyes hlb
      go_wp2_with fail
      go_ret
      exact ⟨rfl, rfl⟩
    · have i1 : ¬ (60 : Int) < (x.l.length : Int) := by omega
      by_cases h2 : 100 < x.m
      · obtain rfl := hno (by rw [hlb, decide_eq_true h2, Bool.or_true]; rfl)
        have i2 : (100 : Int) < (x.m : Int) := by omega
        clear hno hyes hlb
        go_wp2_with fail
        go_ret
        exact ⟨rfl, rfl⟩
      · have i2 : ¬ (100 : Int) < (x.m : Int) := by omega
        by_cases h3 : 3000 < x.S.size
        · obtain rfl := hno (by rw [hlb, decide_eq_true h3, Bool.or_true]; rfl)
          have i3 : (3000 : Int) < (x.S.size : Int) := by omega
          clear hno hyes hlb
          go_wp2_with fail
          go_ret
          exact ⟨rfl, rfl⟩
        · have i3 : ¬ (3000 : Int) < (x.S.size : Int) := by omega
          have hy := Lib.hid (hyes (by rw [hlb, decide_eq_false h1, decide_eq_false h2, decide_eq_false h3]; rfl))
          clear hno hyes hlb
          go_wp2_with fail
          go_round
          case rel => exact ⟨k + 1, by simp, by omega, hy⟩
          case measure => simp only [intOf]; omega
  · obtain rfl : r = true := by rw [← hr.out, ← hall.out, List.take_of_length_le (by omega)]
    go_wp2_with fail
    go_ret
    exact ⟨rfl, rfl⟩
theorem got_calls (x : DR) (n1 n2 : Bool) (A1 A2 : Option Addr) (c1 c2 : Nat) (l1 l2 : List Nat) (B2 : Option Addr) (d2 : Nat) (w : World) (I1 : IV w n1 A1 c1 l1 x.1) (I2 : IV w n2 A2 c2 l2 x.1) :
 Calls Tryz.prog 20 #[vv (kd x) (x.2.1 : Int) n1 A1 l1.length c1 ⟨#[]⟩ none 0 0, .int .i64 x.2.2, .agg #[.int .i64 (kd x), .int .i64 (x.2.1 : Int), .bool n2, .slice A2 l2.length c2, .string ⟨#[]⟩, .slice B2 0 d2, .int .i64 x.2.2]] w fun e w' => e = .returned (.bool true) ∧ Below w.heap.size w w' := by
 obtain ⟨z, p, er⟩ := x
 dsimp only at I1 I2 ⊢
 generalize kd (z, p, er) = k
 unfold vv
 obtain ⟨W, hW, hbW, K0, K1, hszW⟩ := box2 w #[.int .i64 k, .int .i64 (p : Int), .bool n1, .slice A1 l1.length c1, .string ⟨#[]⟩, .slice none 0 0] 27 #[.int .i64 k, .int .i64 (p : Int), .bool n2, .slice A2 l2.length c2, .string ⟨#[]⟩, .slice B2 0 d2, .int .i64 er] 36
 have hs := fun W' (h : Below W.heap.size W W') => same_c n1 n2 A1 A2 c1 c2 l1 l2 z z k p k p none B2 0 d2 W' ((I1.on hbW).on h) ((I2.on hbW).on h)
 simp only [decide_true, Bool.and_true] at hs
 obtain ⟨x0, x1, x2, x3, x4, x5⟩ := cL6 K0.h
 obtain ⟨y0, y1, y2, y3, y4, y5, y6⟩ := cL7 K1.h
 clear hszW
 go_enter Tryz.func20, Tryz.ntmps20
 go_wp2_with (go_at_call 27; refine (hs _ (Below.refl _ _)).mono ?_; rintro e w5 ⟨rfl, b5⟩)
 go_ret
 exact ⟨rfl, hbW.trans (b5.mono hbW.size)⟩
theorem fit_small {z : Int} (h : z.natAbs < 340282366920938463463374607431768211456) : fitZ z = (z, 0) := by
 unfold fitZ
 rw [if_pos (Nat.le_trans (length_le_of_lt (k := 4) h) (by decide))]
def RetN (k p er z : Int) (w : World) (e : Ending) (w' : World) : Prop := ∃ s A c l, e = .returned (.tuple #[vv k p s A (List.length l) c ⟨#[]⟩ none 0 0, .int .i64 er]) ∧ IV w' s A c l z ∧ Below w.heap.size w w'
theorem RetN.of {x : DR} {k p er z : Int} {w : World} {e : Ending} {w' : World} (h : RetV x w e w') (hx : x = (z, p.toNat, er)) (hk : kd (z, p.toNat, er) = k) (hp : 0 ≤ p) : RetN k p er z w e w' := by
 subst hx
 obtain ⟨v, h1, ⟨s, A, c, l, h2, h3⟩, h4⟩ := h
 refine ⟨s, A, c, l, ?_, h3, h4⟩
 rw [h1, h2, hk]
 dsimp only
 rw [Int.toNat_of_nonneg hp]
theorem va_z {w : World} {s : Bool} {A : Option Addr} {c : Nat} {l : List Nat} {z : Int} (I : IV w s A c l z) (p : Int) (B : Option Addr) (d : Nat) : (VA.mk 3 p s A c l ⟨#[]⟩ B 0 d).z = z := I.isZ.toZ
theorem isD_small {z : Int} {p : Nat} (h1 : 1 ≤ p) (h2 : p ≤ 20) (hz : z.natAbs < 4294967296) (ht : p = 1 ∨ z % 10 ≠ 0) : IsD z p := ⟨h1, h2, (Lz.small hz (by decide)).len, fun h => ht.resolve_left (by omega)⟩
theorem made_small {z z' : Int} {p p' : Nat} (h : madeZ z p = (z', p')) (hz : z'.natAbs < 340282366920938463463374607431768211456) : madeE z p = (z', p', 0) :=
 madeE_of h ((Lz.of (k := 4) hz).mono (by decide))
def RetA' (z p : Int) (w : World) (e : Ending) (w' : World) : Prop := ∃ s A c l B d, e = .returned (vv 3 p s A (List.length l) c ⟨#[]⟩ B 0 d) ∧ IV w' s A c l z ∧ Below w.heap.size w w'
theorem of_1_1 (w : World) : Calls Tryz.prog 74 #[.int .i64 (1), .int .i64 1] w (RetA' (1) 1 w) := of_calls (1) 1 (1) 1 (made_small (by decide) (by decide)) (by decide) (by decide) (by decide) w
theorem of_2_1 (w : World) : Calls Tryz.prog 74 #[.int .i64 (2), .int .i64 1] w (RetA' (2) 1 w) := of_calls (2) 1 (2) 1 (made_small (by decide) (by decide)) (by decide) (by decide) (by decide) w
theorem of_2_0 (w : World) : Calls Tryz.prog 74 #[.int .i64 (2), .int .i64 0] w (RetA' (20) 1 w) := of_calls (2) 0 (20) 1 (made_small (by decide) (by decide)) (by decide) (by decide) (by decide) w
theorem of_3_0 (w : World) : Calls Tryz.prog 74 #[.int .i64 (3), .int .i64 0] w (RetA' (30) 1 w) := of_calls (3) 0 (30) 1 (made_small (by decide) (by decide)) (by decide) (by decide) (by decide) w
theorem of_1_0 (w : World) : Calls Tryz.prog 74 #[.int .i64 (1), .int .i64 0] w (RetA' (10) 1 w) := of_calls (1) 0 (10) 1 (made_small (by decide) (by decide)) (by decide) (by decide) (by decide) w
theorem of_0_0 (w : World) : Calls Tryz.prog 74 #[.int .i64 (0), .int .i64 0] w (RetA' (0) 1 w) := of_calls (0) 0 (0) 1 (made_small (by decide) (by decide)) (by decide) (by decide) (by decide) w
theorem of_225_2 (w : World) : Calls Tryz.prog 74 #[.int .i64 (225), .int .i64 2] w (RetA' (225) 2 w) := of_calls (225) 2 (225) 2 (made_small (by decide) (by decide)) (by decide) (by decide) (by decide) w
theorem of_25_2 (w : World) : Calls Tryz.prog 74 #[.int .i64 (25), .int .i64 2] w (RetA' (25) 2 w) := of_calls (25) 2 (25) 2 (made_small (by decide) (by decide)) (by decide) (by decide) (by decide) w
theorem of_m25_1 (w : World) : Calls Tryz.prog 74 #[.int .i64 (-25), .int .i64 1] w (RetA' (-25) 1 w) := of_calls (-25) 1 (-25) 1 (made_small (by decide) (by decide)) (by decide) (by decide) (by decide) w
theorem of_m5_2 (w : World) : Calls Tryz.prog 74 #[.int .i64 (-5), .int .i64 2] w (RetA' (-5) 2 w) := of_calls (-5) 2 (-5) 2 (made_small (by decide) (by decide)) (by decide) (by decide) (by decide) w
theorem of_3_1 (w : World) : Calls Tryz.prog 74 #[.int .i64 (3), .int .i64 1] w (RetA' (3) 1 w) := of_calls (3) 1 (3) 1 (made_small (by decide) (by decide)) (by decide) (by decide) (by decide) w
theorem of_15_1 (w : World) : Calls Tryz.prog 74 #[.int .i64 (15), .int .i64 1] w (RetA' (15) 1 w) := of_calls (15) 1 (15) 1 (made_small (by decide) (by decide)) (by decide) (by decide) (by decide) w
theorem of_75_1 (w : World) : Calls Tryz.prog 74 #[.int .i64 (75), .int .i64 1] w (RetA' (75) 1 w) := of_calls (75) 1 (75) 1 (made_small (by decide) (by decide)) (by decide) (by decide) (by decide) w
theorem s_add (s1 s2 : Bool) (A1 A2 : Option Addr) (c1 c2 : Nat) (l1 l2 : List Nat) (B1 B2 : Option Addr) (d1 d2 : Nat) (w : World) (I1 : IV w s1 A1 c1 l1 (1)) (I2 : IV w s2 A2 c2 l2 (2)) :
 Calls Tryz.prog 38 #[vv 3 1 s1 A1 l1.length c1 ⟨#[]⟩ B1 0 d1, vv 3 1 s2 A2 l2.length c2 ⟨#[]⟩ B2 0 d2] w (RetN 3 1 0 (3) w) := by
 refine (DAdd_calls (VA.mk 3 1 s1 A1 c1 l1 ⟨#[]⟩ B1 0 d1) (VA.mk 3 1 s2 A2 c2 l2 ⟨#[]⟩ B2 0 d2) w ⟨I1.rd, I1.cap⟩ ⟨I2.rd, I2.cap⟩).mono fun e w' h => RetN.of h ?_ (by decide) (by decide)
 have o1 : (VA.mk 3 1 s1 A1 c1 l1 ⟨#[]⟩ B1 0 d1).ok = true := VA.ok_made (p := 1) I1.isZ (isD_small (by decide) (by decide) (by decide) (by decide))
 have o2 : (VA.mk 3 1 s2 A2 c2 l2 ⟨#[]⟩ B2 0 d2).ok = true := VA.ok_made (p := 1) I2.isZ (isD_small (by decide) (by decide) (by decide) (by decide))
 unfold addX
 rw [two_ok (by rw [o1, o2]; rfl)]
 unfold VA.u
 rw [va_z I1, va_z I2]
 show madeE (unitsZ 1 1 + unitsZ 2 1) 20 = _
 exact made_small (by decide) (by decide)
theorem s_div (s1 s2 : Bool) (A1 A2 : Option Addr) (c1 c2 : Nat) (l1 l2 : List Nat) (B1 B2 : Option Addr) (d1 d2 : Nat) (w : World) (I1 : IV w s1 A1 c1 l1 (20)) (I2 : IV w s2 A2 c2 l2 (30)) :
 Calls Tryz.prog 36 #[vv 3 1 s1 A1 l1.length c1 ⟨#[]⟩ B1 0 d1, vv 3 1 s2 A2 l2.length c2 ⟨#[]⟩ B2 0 d2] w (RetN 3 20 0 (66666666666666666667) w) := by
 refine (DDiv_calls (VA.mk 3 1 s1 A1 c1 l1 ⟨#[]⟩ B1 0 d1) (VA.mk 3 1 s2 A2 c2 l2 ⟨#[]⟩ B2 0 d2) w ⟨I1.rd, I1.cap⟩ ⟨I2.rd, I2.cap⟩).mono fun e w' h => RetN.of h ?_ (by decide) (by decide)
 have o1 : (VA.mk 3 1 s1 A1 c1 l1 ⟨#[]⟩ B1 0 d1).ok = true := VA.ok_made (p := 1) I1.isZ (isD_small (by decide) (by decide) (by decide) (by decide))
 have o2 : (VA.mk 3 1 s2 A2 c2 l2 ⟨#[]⟩ B2 0 d2).ok = true := VA.ok_made (p := 1) I2.isZ (isD_small (by decide) (by decide) (by decide) (by decide))
 unfold divX
 rw [two_ok (by rw [o1, o2]; rfl)]
 unfold VA.u
 rw [va_z I1, va_z I2, if_neg (by decide)]
 show madeE (nearZ (unitsZ 20 1 * 10 ^ 20) (unitsZ 30 1)) 20 = _
 exact made_small (by decide) (by decide)
theorem s_zero (s1 s2 : Bool) (A1 A2 : Option Addr) (c1 c2 : Nat) (l1 l2 : List Nat) (B1 B2 : Option Addr) (d1 d2 : Nat) (w : World) (I1 : IV w s1 A1 c1 l1 (10)) (I2 : IV w s2 A2 c2 l2 (0)) :
 Calls Tryz.prog 36 #[vv 3 1 s1 A1 l1.length c1 ⟨#[]⟩ B1 0 d1, vv 3 1 s2 A2 l2.length c2 ⟨#[]⟩ B2 0 d2] w (RetN 0 0 20 (0) w) := by
 refine (DDiv_calls (VA.mk 3 1 s1 A1 c1 l1 ⟨#[]⟩ B1 0 d1) (VA.mk 3 1 s2 A2 c2 l2 ⟨#[]⟩ B2 0 d2) w ⟨I1.rd, I1.cap⟩ ⟨I2.rd, I2.cap⟩).mono fun e w' h => RetN.of h ?_ (by decide) (by decide)
 have o1 : (VA.mk 3 1 s1 A1 c1 l1 ⟨#[]⟩ B1 0 d1).ok = true := VA.ok_made (p := 1) I1.isZ (isD_small (by decide) (by decide) (by decide) (by decide))
 have o2 : (VA.mk 3 1 s2 A2 c2 l2 ⟨#[]⟩ B2 0 d2).ok = true := VA.ok_made (p := 1) I2.isZ (isD_small (by decide) (by decide) (by decide) (by decide))
 unfold divX
 rw [two_ok (by rw [o1, o2]; rfl)]
 rw [va_z I2, if_pos rfl]
 rfl
theorem s_pow (s1 : Bool) (A1 : Option Addr) (c1 : Nat) (l1 : List Nat) (B1 : Option Addr) (d1 : Nat) (w : World) (I1 : IV w s1 A1 c1 l1 (20)) :
 Calls Tryz.prog 18 #[vv 3 1 s1 A1 l1.length c1 ⟨#[]⟩ B1 0 d1, .int .i64 (-2)] w (RetN 3 2 0 (25) w) := by
 refine (DPow_calls (VA.mk 3 1 s1 A1 c1 l1 ⟨#[]⟩ B1 0 d1) (-2) (by decide) (by decide) w ⟨I1.rd, I1.cap⟩).mono fun e w' h => RetN.of h ?_ (by decide) (by decide)
 have o1 : (VA.mk 3 1 s1 A1 c1 l1 ⟨#[]⟩ B1 0 d1).ok = true := VA.ok_made (p := 1) I1.isZ (isD_small (by decide) (by decide) (by decide) (by decide))
 unfold powX
 rw [one_ok o1]
 rw [va_z I1, if_neg (by decide), if_neg (by decide), show (VA.mk 3 1 s1 A1 c1 l1 ⟨#[]⟩ B1 0 d1).q = 1 from rfl, if_neg (by decide), if_pos (((Lz.of (k := 1) (by decide) : Lz 1 ((20 : Int) ^ (-2 : Int).natAbs)).mono (by decide : 1 ≤ 300)).len), if_pos (by decide)]
 exact made_small (by decide) (by decide)
theorem s_sqrt (s1 : Bool) (A1 : Option Addr) (c1 : Nat) (l1 : List Nat) (B1 : Option Addr) (d1 : Nat) (w : World) (I1 : IV w s1 A1 c1 l1 (225)) :
 Calls Tryz.prog 19 #[vv 3 2 s1 A1 l1.length c1 ⟨#[]⟩ B1 0 d1] w (RetN 3 1 0 (15) w) := by
 refine (DSqrt_calls (VA.mk 3 2 s1 A1 c1 l1 ⟨#[]⟩ B1 0 d1) w ⟨I1.rd, I1.cap⟩).mono fun e w' h => RetN.of h ?_ (by decide) (by decide)
 have o1 : (VA.mk 3 2 s1 A1 c1 l1 ⟨#[]⟩ B1 0 d1).ok = true := VA.ok_made (p := 2) I1.isZ (isD_small (by decide) (by decide) (by decide) (by decide))
 unfold sqrtX
 rw [one_ok o1]
 unfold VA.u
 rw [va_z I1, if_neg (by decide)]
 rw [show VA.q (VA.mk 3 2 s1 A1 c1 l1 ⟨#[]⟩ B1 0 d1) = 2 from rfl]
 have h : rootN (unitsZ 225 2 * 10 ^ 20).natAbs 2 = 150000000000000000000 := by
  refine rootTo_of ⟨by decide, fun r hr => ?_⟩ _ (by decide)
  rcases Nat.lt_or_ge 150000000000000000000 r with h | h
  · have h1 := Nat.pow_le_pow_left (Nat.succ_le_of_lt h) 2
    exact absurd (Nat.le_trans h1 hr) (by decide)
  · exact h
 rw [h]
 exact made_small (by decide) (by decide)
theorem s_round (s1 : Bool) (A1 : Option Addr) (c1 : Nat) (l1 : List Nat) (B1 : Option Addr) (d1 : Nat) (w : World) (I1 : IV w s1 A1 c1 l1 (25)) :
 Calls Tryz.prog 49 #[vv 3 2 s1 A1 l1.length c1 ⟨#[]⟩ B1 0 d1, .int .i64 1] w (RetN 3 1 0 (2) w) := by
 refine (DRound_calls (VA.mk 3 2 s1 A1 c1 l1 ⟨#[]⟩ B1 0 d1) 1 w ⟨I1.rd, I1.cap⟩).mono fun e w' h => RetN.of h ?_ (by decide) (by decide)
 have o1 : (VA.mk 3 2 s1 A1 c1 l1 ⟨#[]⟩ B1 0 d1).ok = true := VA.ok_made (p := 2) I1.isZ (isD_small (by decide) (by decide) (by decide) (by decide))
 unfold roundX
 rw [one_ok o1]
 rw [va_z I1]
 show (if (1 : Int) < 0 ∨ 20 < (1 : Int) then err 1 else if (2 : Int) ≤ 1 then ((25 : Int), 2, 0) else madeE (nearZ 25 (10 ^ (2 - 1))) 1) = _
 rw [if_neg (by decide), if_neg (by decide)]
 exact made_small (by decide) (by decide)
theorem s_ceil (s1 : Bool) (A1 : Option Addr) (c1 : Nat) (l1 : List Nat) (B1 : Option Addr) (d1 : Nat) (w : World) (I1 : IV w s1 A1 c1 l1 (-25)) :
 Calls Tryz.prog 52 #[vv 3 1 s1 A1 l1.length c1 ⟨#[]⟩ B1 0 d1] w (RetIE (-2, 0) w) := by
 have h := DCeil_calls (VA.mk 3 1 s1 A1 c1 l1 ⟨#[]⟩ B1 0 d1) w ⟨I1.rd, I1.cap⟩
 have o1 : (VA.mk 3 1 s1 A1 c1 l1 ⟨#[]⟩ B1 0 d1).ok = true := VA.ok_made (p := 1) I1.isZ (isD_small (by decide) (by decide) (by decide) (by decide))
 have e : ceilX (VA.mk 3 1 s1 A1 c1 l1 ⟨#[]⟩ B1 0 d1) = (-2, 0) := by
  unfold ceilX
  rw [if_pos o1, va_z I1]
  show (-((- (-25 : Int)) / 10 ^ 1), (0 : Int)) = _
  decide
 rw [e] at h
 exact h
theorem s_text (s1 : Bool) (A1 : Option Addr) (c1 : Nat) (l1 : List Nat) (B1 : Option Addr) (d1 : Nat) (w : World) (hd : DigW w) (I1 : IV w s1 A1 c1 l1 (-5)) :
 Calls Tryz.prog 23 #[vv 3 2 s1 A1 l1.length c1 ⟨#[]⟩ B1 0 d1] w fun e w' => e = .returned (.tuple #[.string ⟨#[45, 48, 46, 48, 53]⟩, .int .i64 0]) ∧ Below w.heap.size w w' := by
 have h := DText_calls (VA.mk 3 2 s1 A1 c1 l1 ⟨#[]⟩ B1 0 d1) w ⟨I1.rd, I1.cap⟩ hd
 have o1 : (VA.mk 3 2 s1 A1 c1 l1 ⟨#[]⟩ B1 0 d1).ok = true := VA.ok_made (p := 2) I1.isZ (isD_small (by decide) (by decide) (by decide) (by decide))
 have e : textX (VA.mk 3 2 s1 A1 c1 l1 ⟨#[]⟩ B1 0 d1) = ([45, 48, 46, 48, 53], 0) := by
  unfold textX
  rw [if_pos o1, va_z I1]
  show (decL (-5) 2, _) = _
  unfold decL
  have h : textL false 10 (Int.natAbs (-5)) = [53] := by
   show textL false 10 5 = _
   unfold textL
   rw [if_neg (by decide), digs_pos (by decide) (by decide), show 5 / 10 = 0 from rfl, digs_zero]
   rfl
  rw [h]
  rfl
 rw [e] at h
 exact h
theorem cut_sane : Cutted ⟨#[48, 48, 55, 46, 53, 48]⟩ false ⟨#[48, 48, 55]⟩ ⟨#[53, 48]⟩ ⟨#[53]⟩ 75 where
 size := by decide
 cut := ⟨⟨#[48, 48, 55, 46, 53, 48]⟩, by decide, by decide, by decide⟩
 pre := by decide
 front := by decide
 behind := by decide
 kept := by decide
 fsize := by decide
 bsize := by decide
 ksize := by decide
 ok := by decide
 pos := by decide
 val := by decide
 fit := fit_small (by decide)
 lz := Lz.small (by decide) (by decide)
theorem s_parse (w : World) (m : Int) (hm : w.cell? ⟨1, 0, none⟩ = some (.int .i64 m)) : Calls Tryz.prog 25 #[.string ⟨#[48, 48, 55, 46, 53, 48]⟩] w (RetN 3 1 0 75 w) :=
 (DParse_calls _ _ _ _ false 75 w m hm cut_sane).mono fun e w' h => RetN.of h (made_small (by decide) (by decide)) (by decide) (by decide)
theorem rcut_sane : RCut ⟨#[48, 46, 54, 54, 54, 54, 54, 54, 54, 54, 54, 54, 54, 54, 54, 54, 54, 54, 54, 54, 54, 55]⟩ 1 20 66666666666666666667 where
 size := by decide
 npos := by decide
 mpos := by decide
 tot := by decide
 front := by decide
 point := by decide
 behind := by decide
 last := by decide
 m20 := by decide
 ok := by decide
 pos := by decide
 val := by decide
 fit := fit_small (by decide)
 lz := (Lz.of (k := 4) (by decide)).mono (by decide)
theorem s_rparse (w : World) : Calls Tryz.prog 26 #[.string ⟨#[48, 46, 54, 54, 54, 54, 54, 54, 54, 54, 54, 54, 54, 54, 54, 54, 54, 54, 54, 54, 54, 55]⟩] w (RetG (66666666666666666667, 20, 0) w) := by
 have h := rparse_good _ _ _ _ w rcut_sane
 rw [made_small (z' := 66666666666666666667) (p' := 20) (by decide) (by decide)] at h
 exact h
theorem s_ratio (n1 n2 : Bool) (A1 A2 : Option Addr) (c1 c2 : Nat) (l1 l2 : List Nat) (w : World) (I1 : IV w n1 A1 c1 l1 1) (I2 : IV w n2 A2 c2 l2 4) :
 Calls Tryz.prog 65 #[iv n1 A1 l1.length c1, iv n2 A2 l2.length c2] w fun e w' => ∃ s A c l s' A' c' l' s3 A3 c3 l3, e = .returned (.tuple #[vv 3 2 s A (List.length (l : List Nat)) c ⟨#[]⟩ none 0 0, .agg #[.bool s', .slice A' (List.length (l' : List Nat)) c', .bool s3, .slice A3 (List.length (l3 : List Nat)) c3], .int .i64 0]) ∧ IV w' s A c l 25 ∧ IV w' s3 A3 c3 l3 0 ∧ Below w.heap.size w w' := by
 have h := DRatio_calls n1 n2 A1 A2 c1 c2 l1 l2 w I1.rd I1.cap I2.rd I2.cap
 have k1 := I1.ok (Lz.small (k := 300) (by decide) (by decide)) (by decide)
 have k2 := I2.ok (Lz.small (k := 300) (by decide) (by decide)) (by decide)
 have e0 : ratE n1 l1 n2 l2 = 0 := by
  unfold ratE
  have hl : l1.length ≤ 1 := by rw [I1.len]; exact (Lz.small (k := 1) (by decide) (by decide)).len
  rw [k1.ok, k2.ok, k2.val, if_pos (by decide), if_neg (by decide), if_neg (by omega)]
 have e1 : ratX n1 l1 n2 l2 = (25, 2, 0) := by
  unfold ratX
  rw [if_pos e0, k1.val, k2.val]
  exact made_small (by decide) (by decide)
 have e2 : ratR n1 l1 n2 l2 = 0 := by
  unfold ratR
  rw [e1, if_pos rfl, k1.val, k2.val]
  decide
 rw [e1, e2] at h
 exact h.mono fun e w' ⟨v, s, A, c, l, s', A', c', l', h1, ⟨s1, A1, c1, l1, h2, h3⟩, _, h5, h6⟩ => ⟨s1, A1, c1, l1, s, A, c, l, s', A', c', l', by rw [h1, h2]; rfl, h3, h5, h6⟩
theorem s_check (s1 : Bool) (A1 : Option Addr) (c1 : Nat) (l1 : List Nat) (B1 : Option Addr) (d1 : Nat) (w : World) (I1 : IV w s1 A1 c1 l1 20) :
 Calls Tryz.prog 59 #[vv 3 1 s1 A1 l1.length c1 ⟨#[]⟩ B1 0 d1] w fun e w' => e = .returned (.int .i64 0) ∧ Below w.heap.size w w' := by
 have h := check_c (VA.mk 3 1 s1 A1 c1 l1 ⟨#[]⟩ B1 0 d1) w ⟨I1.rd, I1.cap⟩
 have o1 : (VA.mk 3 1 s1 A1 c1 l1 ⟨#[]⟩ B1 0 d1).ok = true := VA.ok_made (p := 1) I1.isZ (isD_small (by decide) (by decide) (by decide) (by decide))
 rw [if_pos o1] at h
 exact h
theorem s_check_no (s1 : Bool) (A1 : Option Addr) (c1 : Nat) (l1 : List Nat) (B1 : Option Addr) (d1 : Nat) (w : World) (I1 : IV w s1 A1 c1 l1 20) :
 Calls Tryz.prog 59 #[vv 3 2 s1 A1 l1.length c1 ⟨#[]⟩ B1 0 d1] w fun e w' => e = .returned (.int .i64 2) ∧ Below w.heap.size w w' := by
 have h := check_c (VA.mk 3 2 s1 A1 c1 l1 ⟨#[]⟩ B1 0 d1) w ⟨I1.rd, I1.cap⟩
 have o1 : ¬ (VA.mk 3 2 s1 A1 c1 l1 ⟨#[]⟩ B1 0 d1).ok = true := fun ho => by
  obtain ⟨p, s, A, c, l, B, d, e1, i1, D1, e3, e4⟩ := VA.destruct I1.rd.words ho
  have hz := va_z I1 2 B1 d1
  have hp : p = 2 := by
   injection e1 with h1 h2
   omega
  have := D1.ten (by omega)
  rw [hz] at this
  exact this (by decide)
 rw [if_neg o1] at h
 exact h
end Dc
end Go.Proofs.YtjghnghceeijeaaGreatDoor
