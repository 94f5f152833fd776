/-
  Contracts of the walks below.
-/
import Derived.Test.YtjghnghceeijeaaGreatDoorDb28
import Derived.Test.YtjghnghceeijeaaGreatDoorShelfb
set_option maxRecDepth 100000
set_option maxHeartbeats 4000000
set_option linter.unusedVariables false
set_option linter.unusedSimpArgs false
namespace Go.Proofs.YtjghnghceeijeaaGreatDoor
namespace Dc
open Go.RowKit Go.Shelf Go.BigFrame Go.Proofs.YtjghnghceeijeaaGreatDoor.Nm
attribute [local go_sem] Oper.semAt_some
theorem gcells_no {k p e : Int} {s : Bool} {A : Option Addr} {n c : Nat} {S : ByteArray} {B : Option Addr} {m d : Nat} (i x : Nat) : ((#[.int .i64 k, .int .i64 p, .bool s, .slice A n c, .string S, .slice B m d, .int .i64 e] : Array Value))[i]? ≠ some (.int .u32 (x : Int)) := by
 intro h
 rcases i with _ | _ | _ | _ | _ | _ | _ | i <;> simp at h
theorem storeG {W : World} {g : Nat} {t : TypeId} {k p e k' p' e' : Int} {s s' : Bool} {A A' : Option Addr} {n c n' c' : Nat} {S S' : ByteArray} {B B' : Option Addr} {m d m' d' : Nat} (h : Blk W g #[.int .i64 k, .int .i64 p, .bool s, .slice A n c, .string S, .slice B m d, .int .i64 e] t) :
 ∃ X, (((((((W.setCell ⟨g, 0, none⟩ (.int .i64 k')).setCell ⟨g, 1, none⟩ (.int .i64 p')).setCell ⟨g, 2, none⟩ (.bool s')).setCell ⟨g, 3, none⟩ (.slice A' n' c')).setCell ⟨g, 4, none⟩ (.string S')).setCell ⟨g, 5, none⟩ (.slice B' m' d')).setCell ⟨g, 6, none⟩ (.int .i64 e')) = X ∧ Blk X g #[.int .i64 k', .int .i64 p', .bool s', .slice A' n' c', .string S', .slice B' m' d', .int .i64 e'] t ∧ Nudge g W X ∧ Off (fun k => k = g) W X := by
 have h0 : Blk (W.setCell ⟨g, 0, none⟩ (.int .i64 k')) g #[.int .i64 k', .int .i64 p, .bool s, .slice A n c, .string S, .slice B m d, .int .i64 e] t := ⟨set_blk h.h 0 _⟩
 have q0 : Nudge g W (W.setCell ⟨g, 0, none⟩ (.int .i64 k')) := (Nudge.of_below (.refl _ W) (Nat.le_of_lt (blk_lt h))).set (Nat.le_refl _) h gcells_no 0 _
 have o0 : Off (fun k => k = g) W (W.setCell ⟨g, 0, none⟩ (.int .i64 k')) := (Off.refl (fun k => k = g) W).set (.inl rfl) 0 _
 generalize W.setCell ⟨g, 0, none⟩ (.int .i64 k') = X0 at *
 have h1 : Blk (X0.setCell ⟨g, 1, none⟩ (.int .i64 p')) g #[.int .i64 k', .int .i64 p', .bool s, .slice A n c, .string S, .slice B m d, .int .i64 e] t := ⟨set_blk h0.h 1 _⟩
 have q1 : Nudge g W (X0.setCell ⟨g, 1, none⟩ (.int .i64 p')) := q0.set (Nat.le_refl _) h0 gcells_no 1 _
 have o1 : Off (fun k => k = g) W (X0.setCell ⟨g, 1, none⟩ (.int .i64 p')) := o0.set (.inl rfl) 1 _
 generalize X0.setCell ⟨g, 1, none⟩ (.int .i64 p') = X1 at *
 have h2 : Blk (X1.setCell ⟨g, 2, none⟩ (.bool s')) g #[.int .i64 k', .int .i64 p', .bool s', .slice A n c, .string S, .slice B m d, .int .i64 e] t := ⟨set_blk h1.h 2 _⟩
 have q2 : Nudge g W (X1.setCell ⟨g, 2, none⟩ (.bool s')) := q1.set (Nat.le_refl _) h1 gcells_no 2 _
 have o2 : Off (fun k => k = g) W (X1.setCell ⟨g, 2, none⟩ (.bool s')) := o1.set (.inl rfl) 2 _
 generalize X1.setCell ⟨g, 2, none⟩ (.bool s') = X2 at *
 have h3 : Blk (X2.setCell ⟨g, 3, none⟩ (.slice A' n' c')) g #[.int .i64 k', .int .i64 p', .bool s', .slice A' n' c', .string S, .slice B m d, .int .i64 e] t := ⟨set_blk h2.h 3 _⟩
 have q3 : Nudge g W (X2.setCell ⟨g, 3, none⟩ (.slice A' n' c')) := q2.set (Nat.le_refl _) h2 gcells_no 3 _
 have o3 : Off (fun k => k = g) W (X2.setCell ⟨g, 3, none⟩ (.slice A' n' c')) := o2.set (.inl rfl) 3 _
 generalize X2.setCell ⟨g, 3, none⟩ (.slice A' n' c') = X3 at *
 have h4 : Blk (X3.setCell ⟨g, 4, none⟩ (.string S')) g #[.int .i64 k', .int .i64 p', .bool s', .slice A' n' c', .string S', .slice B m d, .int .i64 e] t := ⟨set_blk h3.h 4 _⟩
 have q4 : Nudge g W (X3.setCell ⟨g, 4, none⟩ (.string S')) := q3.set (Nat.le_refl _) h3 gcells_no 4 _
 have o4 : Off (fun k => k = g) W (X3.setCell ⟨g, 4, none⟩ (.string S')) := o3.set (.inl rfl) 4 _
 generalize X3.setCell ⟨g, 4, none⟩ (.string S') = X4 at *
 have h5 : Blk (X4.setCell ⟨g, 5, none⟩ (.slice B' m' d')) g #[.int .i64 k', .int .i64 p', .bool s', .slice A' n' c', .string S', .slice B' m' d', .int .i64 e] t := ⟨set_blk h4.h 5 _⟩
 have q5 : Nudge g W (X4.setCell ⟨g, 5, none⟩ (.slice B' m' d')) := q4.set (Nat.le_refl _) h4 gcells_no 5 _
 have o5 : Off (fun k => k = g) W (X4.setCell ⟨g, 5, none⟩ (.slice B' m' d')) := o4.set (.inl rfl) 5 _
 generalize X4.setCell ⟨g, 5, none⟩ (.slice B' m' d') = X5 at *
 have h6 : Blk (X5.setCell ⟨g, 6, none⟩ (.int .i64 e')) g #[.int .i64 k', .int .i64 p', .bool s', .slice A' n' c', .string S', .slice B' m' d', .int .i64 e'] t := ⟨set_blk h5.h 6 _⟩
 have q6 : Nudge g W (X5.setCell ⟨g, 6, none⟩ (.int .i64 e')) := q5.set (Nat.le_refl _) h5 gcells_no 6 _
 have o6 : Off (fun k => k = g) W (X5.setCell ⟨g, 6, none⟩ (.int .i64 e')) := o5.set (.inl rfl) 6 _
 generalize X5.setCell ⟨g, 6, none⟩ (.int .i64 e') = X6 at *
 exact ⟨_, rfl, h6, q6, o6⟩
theorem rgot_size : (Tryz.prog.info? 36).map (·.size) = some 7 := by kernel_rfl
theorem retG_end {x : DR} {w X : World} {s : Bool} {A : Option Addr} {c : Nat} {l : List Nat} {B : Option Addr} {d : Nat} {k p e : Int} (hk : k = kd x) (hp : p = (x.2.1 : Int)) (he : e = x.2.2) (I : IV X s A c l x.1) (hb : Below w.heap.size w X) :
 RetG x w (.returned (.agg #[.int .i64 k, .int .i64 p, .bool s, .slice A l.length c, .string ⟨#[]⟩, .slice B 0 d, .int .i64 e])) X := ⟨s, A, c, l, B, d, by rw [hk, hp, he], I, hb⟩
theorem retG_err {w X : World} (e : Int) (he : e ≠ 0) (hb : Below w.heap.size w X) : RetG (err e) w (.returned (.agg #[.int .i64 0, .int .i64 0, .bool false, .slice none 0 0, .string ⟨#[]⟩, .slice none 0 0, .int .i64 e])) X :=
 ⟨false, none, 0, [], none, 0, by rw [kd_no (x := err e) he]; rfl, IV.zero X, hb⟩
def stripM (z : Int) (k : Nat) : DR := if (lim (strip z k).1.natAbs).length ≤ 40 then ((strip z k).1, (strip z k).2, 0) else err 3
theorem madeE_strip (z : Int) (p : Nat) : madeE z p = if p = 0 then stripM (z * 10) 1 else stripM z p := by
 unfold madeE madeZ stripM
 by_cases h : p = 0
 · rw [if_pos h, if_pos h]; rfl
 · rw [if_neg h, if_neg h]
theorem stripM_step {z : Int} {k : Nat} (hk : 1 < k) (h : z % 10 = 0) : stripM z k = stripM (z / 10) (k - 1) := by
 obtain ⟨m, rfl⟩ : ∃ m, k = m + 2 := ⟨k - 2, by omega⟩
 unfold stripM
 rw [strip, if_pos h]
 rfl
theorem Least_i (n1 : Bool) (A1 : Option Addr) (c1 : Nat) (l1 : List Nat) (z1 : Int) (p : Nat) (hp20 : p ≤ 20) (w : World) (I1 : IV w n1 A1 c1 l1 z1) {k0 : Nat} (f1 : Lz k0 z1) (hk0 : k0 ≤ 50000) :
 Calls Tryz.prog 97 #[iv n1 A1 l1.length c1, .int .i64 (p : Int)] w (RetG (madeE z1 p) w) := by
 obtain ⟨W, hW, hbW, K0, K1, hszW⟩ := box2 w #[.bool n1, .slice A1 l1.length c1] 24 #[.int .i64 0, .int .i64 0, .bool false, .slice none 0 0, .string ⟨#[]⟩, .slice none 0 0, .int .i64 0] 36
 obtain ⟨E, hE⟩ : ∃ E, madeE z1 p = E := ⟨_, rfl⟩
 rw [hE]
 rw [madeE_strip] at hE
 replace hE := Lib.hid hE
 replace hszW := Lib.hid hszW
 replace hk0 := Lib.hid hk0
 have J1 := I1.on hbW
 go_enter Tryz.func97, Tryz.ntmps97
 go_upto_if 7 with fail
 go_cut [1] from 8 to 10 (fun pv wx => ∃ (k : Nat) (z : Int) (s : Bool) (A : Option Addr) (c : Nat) (l : List Nat), pv = .int .i64 (k : Int) ∧ 1 ≤ k ∧ k ≤ 20 ∧ Blk wx w.heap.size #[.bool s, .slice A (List.length l) c] 24 ∧ IV wx s A c l z ∧ Lz (k0 + 1) z ∧ Below w.heap.size w wx ∧ stripM z k = E ∧ Blk wx (w.heap.size + 1) #[.int .i64 0, .int .i64 0, .bool false, .slice none 0 0, .string ⟨#[]⟩, .slice none 0 0, .int .i64 0] 36)
 case first =>
  by_cases h0 : p = 0
  · subst h0
    have hE2 := hE.out
    rw [if_pos rfl] at hE2
    have M1 := fun W' (h : Below W.heap.size W W') s' A' c' l' (I : IV W' s' A' c' l' 10) => rtimes_i n1 s' A1 A' c1 c' l1 l' z1 10 W' (J1.on h) I f1 (Lz.small (k := 1) (by decide) (by decide)) (Nat.le_trans hk0.out (by decide)) (by decide)
    have fm : Lz (k0 + 1) (z1 * 10) := f1.mul (Lz.small (k := 1) (by decide) (by decide))
    generalize z1 * 10 = zt at *
    go_upto_region 2 with fail
    obtain ⟨g0, g1⟩ := cL2 K0.h
    refine wp_region_any (by kernel_rfl) ?_
    refine wpAny_of_F (S := fun w'' => w''.cell? ⟨w.heap.size, 0, none⟩ = some (.bool n1) ∧ w''.cell? ⟨w.heap.size, 1, none⟩ = some (.slice A1 l1.length c1)) (late := [3]) _ _ _ _ ?_
    refine fT 0 6 (Value.agg #[.bool n1, .slice A1 l1.length c1]) ⟨g0, g1⟩ ?_
    try simp only [Act.put, aQ, bQ, cQ]
    refine wpAnyF_one (i := 1) (by kernel_rfl) rfl (fun K hK => ?_)
    go_simp
    go_at_call 45; refine (rof_i 10 _ (by decide) (by decide)).mono ?_; rintro e w11 ⟨s11, A11, c11, l11, rfl, I11, b11⟩; have q11 := (below_drew (Below.refl W.heap.size W)).trans b11; replace g0 := cell_at (K0.on q11).h 0 _ rfl; replace g1 := cell_at (K0.on q11).h 1 _ rfl
    go_wp2_with fail
    refine hK.out _ _ (Or.inr ⟨g0, g1⟩) ?_
    clear hK K
    try simp only [Act.put, aQ, bQ, cQ]
    refine wpAnyF_one (i := 2) (by kernel_rfl) rfl (fun K hK => ?_)
    go_simp
    go_at_call 34; refine (M1 _ q11 _ _ _ _ I11).mono ?_; rintro e w12 ⟨s12, A12, c12, l12, rfl, I12, b12⟩; have q12 := q11.trans (b12.mono q11.size); replace g0 := cell_at (K0.on q12).h 0 _ rfl; replace g1 := cell_at (K0.on q12).h 1 _ rfl; obtain ⟨j0, j1⟩ := fZ2 (K0.on q12).h
    go_wp2_with fail
    refine hK.out _ _ (Or.inr ⟨g0, g1⟩) ?_
    clear hK K
    try simp only [Act.put, aQ, bQ, cQ]
    refine wpAnyF_one (i := 3) (by kernel_rfl) rfl (fun K hK => ?_)
    go_simp
    refine hK.out _ _ (Or.inl (by decide)) ?_
    clear hK K
    try simp only [Act.put, aQ, bQ, cQ]
    refine wpAnyF_done (by kernel_rfl) ?_ _
    obtain ⟨X, hX, KX, NX, OX⟩ := storeI (s' := s12) (A' := A12) (n' := l12.length) (c' := c12) (K0.on q12)
    rw [hX]
    have hbX := (hbW.trans (q12.mono hbW.size)).trans (NX.low.mono (Nat.le_refl _))
    have K1X := OX.one (K1.on q12) (by omega)
    clear g0 g1 j0 j1 hX M1
    go_wp2_with fail
    go_meet
    exact ⟨1, zt, s12, A12, c12, l12, rfl, Nat.le_refl _, by decide, KX, I12.nudge NX, fm, hbX, hE2, K1X⟩
  · have hpI : ((p : Int) == 0) = false := beq_eq_false_iff_ne.2 (by omega)
    have hE2 := hE.out
    rw [if_neg h0] at hE2
    go_wp2_with fail
    go_meet
    exact ⟨p, z1, n1, A1, c1, l1, rfl, by omega, hp20, K0, J1, f1.mono (by omega), hbW, hE2, K1⟩
 case rest =>
  obtain ⟨k1, z2, s2, A2, c2, l2, rfl, h11, h20, KN, IN, fN, hbN, hEN, KR⟩ := hcut
  clear hE
  replace hEN := Lib.hid hEN
  clear J1 I1 f1 hW hbW hszW K0 K1
  go_wp2_with fail
  go_loopw [1] (fun iv Wl => ∃ (k : Nat) (z : Int) (s : Bool) (A : Option Addr) (c : Nat) (l : List Nat), iv = .int .i64 (k : Int) ∧ 1 ≤ k ∧ k ≤ 20 ∧ Blk Wl w.heap.size #[.bool s, .slice A (List.length l) c] 24 ∧ IV Wl s A c l z ∧ Lz (k0 + 1) z ∧ Below w.heap.size w Wl ∧ Hid (stripM z2 k1 = stripM z k) ∧ Blk Wl (w.heap.size + 1) #[.int .i64 0, .int .i64 0, .bool false, .slice none 0 0, .string ⟨#[]⟩, .slice none 0 0, .int .i64 0] 36) (fun iv _ => (intOf iv).toNat)
  case atStart => exact ⟨k1, z2, s2, A2, c2, l2, rfl, h11, h20, KN, IN, fN, hbN, rfl, KR⟩
  case round =>
   obtain ⟨k, z, s, A, c, l, rfl, hk1, hk20, D0, Iz, fz, hbl, hm, D1⟩ := hrel
   have hE := hEN
   clear KN IN fN KR
   have lw1 := blk_lt D1
   by_cases hk : 1 < k
   · have hkI : decide ((1 : Int) < (k : Int)) = true := decide_eq_true (by omega)
     have hdiv := fun W' (h : Below wr.heap.size wr W') s' A' c' l' (I : IV W' s' A' c' l' 10) => rdiv_i s s' A A' c c' l l' z 10 W' (Iz.on h) I fz (Lz.small (k := 1) (by decide) (by decide)) (by have := hk0.out; omega) (by decide) (by decide)
     have fq : Lz (k0 + 1) (z / 10) := fz.le (Int.natAbs_ediv_le_natAbs z 10)
     go_upto_region 5 with fail
     go_cut [5] from 11 to 23 (fun pv wx => ∃ G s1 A1' c1' l1' s2 A2' c2' l2', pv = .pointer (some ⟨G, 0, none⟩) ∧ Blk wx G #[.bool s1, .slice A1' (List.length l1') c1', .bool s2, .slice A2' (List.length l2') c2'] 111 ∧ IV wx s1 A1' c1' l1' (z / 10) ∧ IV wx s2 A2' c2' l2' (z % 10) ∧ Below wr.heap.size wr wx ∧ wr.heap.size ≤ G)
     case first =>
      obtain ⟨x0, x1⟩ := cL2 D0.h
      go_region_held3 (fun w'' => w''.cell? ⟨w.heap.size, 0, none⟩ = some (.bool s) ∧ w''.cell? ⟨w.heap.size, 1, none⟩ = some (.slice A l.length c)) ((first | (with_reducible exact ⟨x0, x1⟩) | (with_reducible exact rd2 ⟨x0, x1⟩) | (refine keep2i D0 ?_; (repeat' (with_reducible first | exact Below.refl _ _ | exact q6 | exact q7 | refine below_drew ?_ | refine below_al ?_ _ | refine below_set ?_ _ ?_)); (all_goals (first | exact q6.size | exact q7.size | exact Nat.le_refl _)))))
       ((first
        | (go_at_call 103; have hmark := q6; refine (hdiv _ (by (repeat' (with_reducible first | exact Below.refl _ _ | exact q6 | exact q7 | refine below_drew ?_ | refine below_al ?_ _ | refine below_set ?_ _ ?_))) _ _ _ _ (by (repeat' (with_reducible first | exact I6 | refine iv_up ?_)))).mono ?_; rintro e w7 ⟨s7, A7, c7, l7, s8, A8, c8, l8, rfl, I7, I8, b7⟩; have p7 : Below w6.heap.size w6 w7 := (by refine below_via ?_ b7; (repeat' (with_reducible first | exact Below.refl _ _ | exact q6 | exact q7 | refine below_drew ?_ | refine below_al ?_ _ | refine below_set ?_ _ ?_))); have q7 := q6.trans (p7.mono q6.size); (try (replace Ta := Ta.on p7)); (first | (have Ta : Blk w7 w6.heap.size #[.bool false, .slice none 0 0, .bool false, .slice none 0 0] 111 := (by with_reducible exact blk_al1 b7)) | skip); clear x0 x1; have x0 : w7.cell? ⟨w.heap.size, 0, none⟩ = some (.bool s) := cell_at (D0.on q7).h 0 _ rfl; have x1 : w7.cell? ⟨w.heap.size, 1, none⟩ = some (.slice A l.length c) := cell_at (D0.on q7).h 1 _ rfl; (try (have ta0 := cell_at Ta.h 0 _ rfl; have ta1 := cell_at Ta.h 1 _ rfl; have ta2 := cell_at Ta.h 2 _ rfl; have ta3 := cell_at Ta.h 3 _ rfl; have ta4 := frozen_at Ta.h 0; have ta5 := frozen_at Ta.h 1; have ta6 := frozen_at Ta.h 2; have ta7 := frozen_at Ta.h 3)))
        | (go_at_call 45; refine (rof_i 10 _ (by decide) (by decide)).mono ?_; rintro e w6 ⟨s6, A6, c6, l6, rfl, I6, b6⟩; have q6 : Below wr.heap.size wr w6 := (by refine below_via ?_ b6; (repeat' (with_reducible first | exact Below.refl _ _ | exact q6 | exact q7 | refine below_drew ?_ | refine below_al ?_ _ | refine below_set ?_ _ ?_))); have p6 := q6; (first | (have Ta : Blk w6 wr.heap.size #[.bool false, .slice none 0 0, .bool false, .slice none 0 0] 111 := (by with_reducible exact blk_al1d b6)) | skip); clear x0 x1; have x0 : w6.cell? ⟨w.heap.size, 0, none⟩ = some (.bool s) := cell_at (D0.on q6).h 0 _ rfl; have x1 : w6.cell? ⟨w.heap.size, 1, none⟩ = some (.slice A l.length c) := cell_at (D0.on q6).h 1 _ rfl)))
      all_goals
       go_wp2_with fail
       go_meet
       refine ⟨_, s7, A7, c7, l7, s8, A8, c8, l8, rfl, ?_, ?_, ?_, ?_, ?_⟩
       all_goals (repeat' (with_reducible first | exact I7 | exact I8 | exact Ta | exact q7 | exact blk_new _ _ _ | apply blk_drew | apply iv_drew | apply below_drew | apply blk_up | apply iv_up | apply below_al | apply blk4_s3 | apply blk4_s2 | apply blk4_s1 | apply blk4_s0 | apply iv_set4 | apply below_set))
       all_goals (first | exact q6.size | exact q7.size | exact Nat.le_refl _)
     case rest =>
      obtain ⟨G, s9, A9, c9, l9, s8, A8, c8, l8, rfl, KG, IG, IR, bG, hG⟩ := hcut
      replace D0 := D0.on bG
      replace D1 := D1.on bG
      have Iz' := Iz.on bG
      replace hbl := hbl.trans (bG.mono hbl.size)
      have hzc := rzero_c s8 A8 c8 l8 (z % 10) wc IR
      have g2 := cell_at KG.h 2 _ rfl
      have g3 := cell_at KG.h 3 _ rfl
      clear hdiv Iz
      by_cases hz0 : z % 10 = 0
      · have hm2 := Lib.hid (hm.out.trans (stripM_step hk hz0))
        rw [decide_eq_true hz0] at hzc
        clear hz0 hm
        generalize z / 10 = zq at *
        go_upto_region 7 with (go_at_call 93; refine hzc.mono ?_; rintro e w9 ⟨rfl, b9⟩)
        obtain ⟨g0, g1⟩ := cL2 (KG.on b9).h
        obtain ⟨y0, y1⟩ := cL2 (D0.on b9).h
        obtain ⟨f0, f1⟩ := fZ2 (D0.on b9).h
        obtain ⟨X, hX, KX, NX, OX⟩ := storeI (s' := s9) (A' := A9) (n' := l9.length) (c' := c9) (D0.on b9)
        have DX := OX.one (D1.on b9) (by omega)
        have hbX := (hbl.trans (b9.mono hbl.size)).trans (NX.low.mono (Nat.le_refl _))
        go_wp2_with fail
        go_roundw
        case rel => exact ⟨k - 1, zq, s9, A9, c9, l9, by simp; omega, by omega, by omega, KX, (IG.on b9).nudge NX, fq, hbX, hm2, DX⟩
        case measure => simp only [intOf]; omega
      · have hst : strip z k = (z, k) := strip_id z k (.inr hz0)
        rw [decide_eq_false hz0] at hzc
        clear hz0
        go_upto_region 9 with (go_at_call 93; refine hzc.mono ?_; rintro e w9 ⟨rfl, b9⟩)
        replace D0 := D0.on b9
        replace D1 := D1.on b9
        replace Iz' := Iz'.on b9
        replace hbl := hbl.trans (b9.mono hbl.size)
        clear g2 g3 KG IG IR hzc
        by_cases h40 : l.length ≤ 40
        · have hc40 : decide ((40 : Int) < (l.length : Int)) = false := decide_eq_false (by omega)
          have hE2 : E = (z, k, 0) := hE.out.symm.trans (by rw [hm.out]; unfold stripM; rw [hst]; exact if_pos ((len_le_iff Iz').1 h40).len)
          obtain ⟨a0, a1⟩ := cL2 D0.h
          obtain ⟨r0, r1, r2, r3, r4, r5, r6⟩ := cL7 D1.h
          obtain ⟨f0, f1, f2, f3, f4, f5, f6⟩ := fZ7 D1.h
          replace hE2 := Lib.hid hE2
          clear hm h40 hE hst
          go_wp2_with fail
          obtain ⟨X, hX, KX, NX, OX⟩ := storeG (k' := 3) (p' := (k : Int)) (s' := s) (A' := A) (n' := l.length) (c' := c) (S' := ⟨#[]⟩) (B' := none) (m' := 0) (d' := 0) (e' := 0) D1
          rw [hX]
          exact ret_cellT rfl Tryz.underlying36 rgot_size rfl rfl KX.h rfl (by rw [hE2.out]; exact retG_end rfl rfl rfl (Iz'.nudge NX) (hbl.trans (NX.low.mono (by omega))))
        · have hc40 : decide ((40 : Int) < (l.length : Int)) = true := decide_eq_true (by omega)
          have hE2 : E = err 3 := hE.out.symm.trans (by rw [hm.out]; unfold stripM; rw [hst]; exact if_neg (fun h => h40 ((len_le_iff Iz').2 ⟨h⟩)))
          obtain ⟨a0, a1⟩ := cL2 D0.h
          obtain ⟨r0, r1, r2, r3, r4, r5, r6⟩ := cL7 D1.h
          obtain ⟨f0, f1, f2, f3, f4, f5, f6⟩ := fZ7 D1.h
          replace hE2 := Lib.hid hE2
          clear hm h40 hE hst
          go_wp2_with fail
          obtain ⟨X, hX, KX, NX, OX⟩ := storeG (k' := 0) (p' := 0) (s' := false) (A' := none) (n' := 0) (c' := 0) (S' := ⟨#[]⟩) (B' := none) (m' := 0) (d' := 0) (e' := 3) D1
          rw [hX]
          exact ret_cellT rfl Tryz.underlying36 rgot_size rfl rfl KX.h rfl (by rw [hE2.out]; exact retG_err 3 (by decide) (hbl.trans (NX.low.mono (by omega))))
   · obtain rfl : k = 1 := by omega
     have hst : strip z 1 = (z, 1) := rfl
     have hkI : decide ((1 : Int) < ((1 : Nat) : Int)) = false := decide_eq_false (by omega)
     clear hk
     go_upto_region 9 with fail
     by_cases h40 : l.length ≤ 40
     · have hc40 : decide ((40 : Int) < (l.length : Int)) = false := decide_eq_false (by omega)
       have hE2 : E = (z, 1, 0) := hE.out.symm.trans (by rw [hm.out]; unfold stripM; rw [hst]; exact if_pos ((len_le_iff Iz).1 h40).len)
       obtain ⟨a0, a1⟩ := cL2 D0.h
       obtain ⟨r0, r1, r2, r3, r4, r5, r6⟩ := cL7 D1.h
       obtain ⟨f0, f1, f2, f3, f4, f5, f6⟩ := fZ7 D1.h
       replace hE2 := Lib.hid hE2
       clear hm h40 hE hst
       go_wp2_with fail
       obtain ⟨X, hX, KX, NX, OX⟩ := storeG (k' := 3) (p' := (1 : Int)) (s' := s) (A' := A) (n' := l.length) (c' := c) (S' := ⟨#[]⟩) (B' := none) (m' := 0) (d' := 0) (e' := 0) D1
       rw [hX]
       exact ret_cellT rfl Tryz.underlying36 rgot_size rfl rfl KX.h rfl (by rw [hE2.out]; exact retG_end rfl rfl rfl (Iz.nudge NX) (hbl.trans (NX.low.mono (by omega))))
     · have hc40 : decide ((40 : Int) < (l.length : Int)) = true := decide_eq_true (by omega)
       have hE2 : E = err 3 := hE.out.symm.trans (by rw [hm.out]; unfold stripM; rw [hst]; exact if_neg (fun h => h40 ((len_le_iff Iz).2 ⟨h⟩)))
       obtain ⟨a0, a1⟩ := cL2 D0.h
       obtain ⟨r0, r1, r2, r3, r4, r5, r6⟩ := cL7 D1.h
       obtain ⟨f0, f1, f2, f3, f4, f5, f6⟩ := fZ7 D1.h
       replace hE2 := Lib.hid hE2
       clear hm h40 hE hst
       go_wp2_with fail
       obtain ⟨X, hX, KX, NX, OX⟩ := storeG (k' := 0) (p' := 0) (s' := false) (A' := none) (n' := 0) (c' := 0) (S' := ⟨#[]⟩) (B' := none) (m' := 0) (d' := 0) (e' := 3) D1
       rw [hX]
       exact ret_cellT rfl Tryz.underlying36 rgot_size rfl rfl KX.h rfl (by rw [hE2.out]; exact retG_err 3 (by decide) (hbl.trans (NX.low.mono (by omega))))
theorem RMake_i (n1 : Bool) (A1 : Option Addr) (c1 : Nat) (l1 : List Nat) (k : Int) (w : World) (h1 : Rd w A1 l1) (hc1 : l1.length ≤ c1) :
 Calls Tryz.prog 62 #[iv n1 A1 l1.length c1, .int .i64 k] w (RetG (makeX n1 l1 k) w) := by
 obtain ⟨W, hW, hbW, K0, K1, hszW⟩ := box2 w #[.bool n1, .slice A1 l1.length c1] 24 #[.int .i64 0, .int .i64 0, .bool false, .slice none 0 0, .string ⟨#[]⟩, .slice none 0 0, .int .i64 0] 36
 obtain ⟨x0, x1⟩ := cL2 K0.h
 obtain ⟨e0, e1, e2, e3, e4, e5, e6⟩ := cL7 K1.h
 obtain ⟨f0, f1, f2, f3, f4, f5, f6⟩ := fZ7 K1.h
 have hfm := Formed_calls n1 A1 c1 l1 W (h1.on hbW) hc1
 obtain ⟨E, hE⟩ : ∃ E, makeX n1 l1 k = E := ⟨_, rfl⟩
 rw [hE]
 unfold makeX at hE
 cases hok : okI n1 l1
 · rw [hok] at hfm hE
   rw [if_neg (by decide)] at hE
   subst hE
   go_enter Tryz.func62, Tryz.ntmps62
   go_wp2_with (go_at_call 70; refine hfm.mono ?_; rintro e w5 ⟨rfl, b5⟩; clear e0 e1 e2 e3 e4 e5 e6 f0 f1 f2 f3 f4 f5 f6; obtain ⟨e0, e1, e2, e3, e4, e5, e6⟩ := cL7 (K1.on b5).h; obtain ⟨f0, f1, f2, f3, f4, f5, f6⟩ := fZ7 (K1.on b5).h)
   have hb8 := hbW.trans (b5.mono hbW.size)
   obtain ⟨X, hX, KX, NX, OX⟩ := storeG (k' := 0) (p' := 0) (s' := false) (A' := none) (n' := 0) (c' := 0) (S' := ⟨#[]⟩) (B' := none) (m' := 0) (d' := 0) (e' := 2) (K1.on b5)
   rw [hX]
   exact ret_cellT rfl Tryz.underlying36 rgot_size rfl rfl KX.h rfl (retG_err 2 (by decide) ((hb8).trans (NX.low.mono (by omega))))
 · rw [hok] at hfm hE
   rw [if_pos rfl] at hE
   by_cases hk0 : k < 0
   · rw [if_pos (.inl hk0)] at hE
     subst hE
     have kb : decide (k < 0) = true := decide_eq_true hk0
     clear hok
     go_enter Tryz.func62, Tryz.ntmps62
     go_wp2_with (go_at_call 70; refine hfm.mono ?_; rintro e w5 ⟨rfl, b5⟩; clear e0 e1 e2 e3 e4 e5 e6 f0 f1 f2 f3 f4 f5 f6; obtain ⟨e0, e1, e2, e3, e4, e5, e6⟩ := cL7 (K1.on b5).h; obtain ⟨f0, f1, f2, f3, f4, f5, f6⟩ := fZ7 (K1.on b5).h)
     have hb8 := hbW.trans (b5.mono hbW.size)
     obtain ⟨X, hX, KX, NX, OX⟩ := storeG (k' := 0) (p' := 0) (s' := false) (A' := none) (n' := 0) (c' := 0) (S' := ⟨#[]⟩) (B' := none) (m' := 0) (d' := 0) (e' := 1) (K1.on b5)
     rw [hX]
     exact ret_cellT rfl Tryz.underlying36 rgot_size rfl rfl KX.h rfl (retG_err 1 (by decide) ((hb8).trans (NX.low.mono (by omega))))
   · have kb : decide (k < 0) = false := decide_eq_false hk0
     by_cases hk1 : 20 < k
     · rw [if_pos (.inr hk1)] at hE
       subst hE
       have kc : decide (20 < k) = true := decide_eq_true hk1
       clear hok
       go_enter Tryz.func62, Tryz.ntmps62
       go_wp2_with (go_at_call 70; refine hfm.mono ?_; rintro e w5 ⟨rfl, b5⟩; clear e0 e1 e2 e3 e4 e5 e6 f0 f1 f2 f3 f4 f5 f6; obtain ⟨e0, e1, e2, e3, e4, e5, e6⟩ := cL7 (K1.on b5).h; obtain ⟨f0, f1, f2, f3, f4, f5, f6⟩ := fZ7 (K1.on b5).h)
       have hb8 := hbW.trans (b5.mono hbW.size)
       obtain ⟨X, hX, KX, NX, OX⟩ := storeG (k' := 0) (p' := 0) (s' := false) (A' := none) (n' := 0) (c' := 0) (S' := ⟨#[]⟩) (B' := none) (m' := 0) (d' := 0) (e' := 1) (K1.on b5)
       rw [hX]
       exact ret_cellT rfl Tryz.underlying36 rgot_size rfl rfl KX.h rfl (retG_err 1 (by decide) ((hb8).trans (NX.low.mono (by omega))))
     · rw [if_neg (by omega)] at hE
       have kc : decide (20 < k) = false := decide_eq_false hk1
       have k1 := okZ_of h1.words hok
       have I1 : IV W n1 A1 c1 l1 (toZ n1 l1) := ⟨h1.on hbW, hc1, k1.isZ⟩
       have f1' : Lz 300 (toZ n1 l1) := (len_le_iff I1).1 k1.small
       obtain ⟨p, rfl⟩ := Int.eq_ofNat_of_zero_le (show 0 ≤ k by omega)
       rw [Int.toNat_natCast] at hE
       have hL := fun W' (h : Below W.heap.size W W') => Least_i n1 A1 c1 l1 (toZ n1 l1) p (by omega) W' (I1.on h) f1' (by decide)
       rw [hE] at hL
       clear hE hk0 hk1 hok k1 f1' I1
       go_enter Tryz.func62, Tryz.ntmps62
       go_wp2_with first
        | (go_at_call 97; have hmark := b5; refine (hL _ b5).mono ?_; rintro e w8 ⟨s8, A8, c8, l8, B8, d8, rfl, I8, b8⟩; have q8 := b5.trans (b8.mono b5.size); clear e0 e1 e2 e3 e4 e5 e6 f0 f1 f2 f3 f4 f5 f6; obtain ⟨e0, e1, e2, e3, e4, e5, e6⟩ := cL7 (K1.on q8).h; obtain ⟨f0, f1, f2, f3, f4, f5, f6⟩ := fZ7 (K1.on q8).h)
        | (go_at_call 70; refine hfm.mono ?_; rintro e w5 ⟨rfl, b5⟩; clear e0 e1 e2 e3 e4 e5 e6 f0 f1 f2 f3 f4 f5 f6; obtain ⟨e0, e1, e2, e3, e4, e5, e6⟩ := cL7 (K1.on b5).h; obtain ⟨f0, f1, f2, f3, f4, f5, f6⟩ := fZ7 (K1.on b5).h; obtain ⟨x0, x1⟩ := cL2 (K0.on b5).h)
       have hb8 := hbW.trans (q8.mono hbW.size)
       obtain ⟨X, hX, KX, NX, OX⟩ := storeG (k' := kd E) (p' := (E.2.1 : Int)) (s' := s8) (A' := A8) (n' := l8.length) (c' := c8) (S' := ⟨#[]⟩) (B' := B8) (m' := 0) (d' := d8) (e' := E.2.2) (K1.on q8)
       rw [hX]
       exact ret_cellT rfl Tryz.underlying36 rgot_size rfl rfl KX.h rfl ⟨s8, A8, c8, l8, B8, d8, rfl, I8.nudge NX, (hb8).trans (NX.low.mono (by omega))⟩
def padT (p : Nat) (t : List Nat) : List Nat := List.replicate (p + 1 - t.length) 48 ++ t
def textDot (t : List Nat) (p : Nat) : List Nat := t.take (t.length - p) ++ 46 :: t.drop (t.length - p)
def decL (z : Int) (p : Nat) : List Nat := (if z < 0 then [45] else []) ++ textDot (padT p (textL false 10 z.natAbs)) p
theorem textL_len (n : Nat) (h : n < BB ^ 40) : 1 ≤ (textL false 10 n).length ∧ (textL false 10 n).length ≤ 1281 := by
 unfold textL
 by_cases h0 : n = 0
 · rw [if_pos h0]; decide
 · rw [if_neg h0]
   rw [pow_BB] at h
   have h1 := digs_length (b := 10) (by decide) (32 * 40) n h
   have h2 : 0 < (digs 10 n).length := by rw [digs_pos (by decide) (by omega)]; simp
   simp only [Bool.false_eq_true, if_false, List.nil_append, List.length_reverse, List.length_map]
   omega
theorem strB_size (l : List Nat) : (strB l).size = l.length := by
 show (l.map UInt8.ofNat).toArray.size = _
 simp
theorem strB_append (a b : List Nat) : strB (a ++ b) = strB a ++ strB b := by
 apply ByteArray.ext
 rw [ByteArray.data_append]
 unfold strB
 simp
theorem strB_extract (l : List Nat) (i j : Nat) : (strB l).extract i j = strB ((l.drop i).take (j - i)) := by
 apply ByteArray.ext
 rw [ByteArray.data_extract]
 unfold strB
 simp [List.map_take, List.map_drop]
theorem repeat_zero : ∀ c, (⟨(Lib.repeatL [48] c).toArray⟩ : ByteArray) = strB (List.replicate c 48)
 | 0 => rfl
 | c + 1 => by
  have h := congrArg (fun b : ByteArray => b.data.toList) (repeat_zero c)
  apply ByteArray.ext
  unfold strB at h ⊢
  simp only [Lib.repeatL, List.replicate_succ, List.map_cons] at h ⊢
  rw [h]
  rfl
def textX (a : VA) : List Nat × Int := if a.ok = true then (decL a.z a.q, 0) else ([], 2)
theorem text1_z (n1 : Bool) (A1 : Option Addr) (c1 : Nat) (l1 : List Nat) (z1 : Int) (p : Nat) (B1 : Option Addr) (d1 ga gs : Nat) (hga : ga ≠ gs) (w : World) (Ka : Blk w ga #[.int .i64 3, .int .i64 (p : Int), .bool n1, .slice A1 l1.length c1, .string ⟨#[]⟩, .slice B1 0 d1] 27) (Ks : Blk w gs #[.string ⟨#[]⟩] 9) (I1 : IV w n1 A1 c1 l1 z1) (D1 : IsD z1 p) (hd : DigW w) :
 Calls Tryz.prog 99 #[.pointer (some ⟨ga, 0, none⟩), .pointer (some ⟨gs, 0, none⟩)] w fun e w' => e = .returned (.tuple #[]) ∧ Off (fun k => k = gs) w w' ∧ Blk w' gs #[.string (strB (decL z1 p))] 9 := by
 have ha : (VA.mk 3 (p : Int) n1 A1 c1 l1 ⟨#[]⟩ B1 0 d1).At w := ⟨(I1.on (Below.refl _ w)).rd, I1.cap⟩
 have hdc := decimals_c w.heap.size [(VA.mk 3 (p : Int) n1 A1 c1 l1 ⟨#[]⟩ B1 0 d1)] (w.alloc (.cells #[.int .i64 3, .int .i64 (p : Int), .bool n1, .slice A1 l1.length c1, .string ⟨#[]⟩, .slice B1 0 d1] 27)) (by simp) (vals_one (VA.mk 3 (p : Int) n1 A1 c1 l1 ⟨#[]⟩ B1 0 d1) _ _ ⟨World.alloc_heap_new w _⟩ (ha.on (al1 w _))) (by simp)
 rw [decE_one, VA.ok_made I1.isZ D1, if_pos rfl] at hdc
 have a1 := al1 w (.cells #[.int .i64 3, .int .i64 (p : Int), .bool n1, .slice A1 l1.length c1, .string ⟨#[]⟩, .slice B1 0 d1] 27)
 have hsz := fun W' (h : Below w.heap.size w W') => size_z n1 A1 c1 l1 z1 W' (I1.on h) (D1.lz.mono (by decide))
 have f1 := D1.lz.abs
 obtain ⟨T, hT⟩ : ∃ T, strB (textL false 10 z1.natAbs) = T := ⟨_, rfl⟩
 have hTx : ∀ W' (h : Below w.heap.size w W') s A c l (I : IV W' s A c l (z1.natAbs : Int)), Calls Tryz.prog 100 #[iv s A l.length c, .int .i64 10] W' (fun e w'' => e = .returned (.tuple #[.string T, .int .i64 0]) ∧ Below W'.heap.size W' w'') := fun W' h s A c l I => by
  have := Text_calls s 10 A c l W' I.rd I.cap (hd.on h)
  rw [textR_z (I.ok f1 (by decide)), if_pos (by decide), decide_eq_false (by omega), Int.natAbs_natCast, show (10 : Int).toNat = 10 from rfl, hT] at this
  exact this
 have hTs : T.size = (textL false 10 z1.natAbs).length := by rw [← hT, strB_size]
 obtain ⟨hT1, hT2⟩ := textL_len z1.natAbs D1.lz.lt
 obtain ⟨c, hc⟩ : ∃ c, p + 1 - T.size = c := ⟨_, rfl⟩
 have hcm : max 0 (wrap64 (wrap64 ((p : Int) + 1) - (T.size : Int))) = (c : Int) := by
  have := D1.hi
  unfold wrap64
  omega
 have hRep : ∀ W' (x : Int), x = (c : Int) → Calls Tryz.prog 102 #[.string ⟨#[48]⟩, .int .i64 x] W' (fun e w' => e = .returned (.string (strB (List.replicate c 48))) ∧ Below W'.heap.size W' w') := fun W' x hx => by
  have := D1.hi
  have h := Tryz.strings_Repeat ⟨#[48]⟩ c W' (by omega) (by show 1 * c ≤ _; omega)
  rw [show (⟨#[48]⟩ : ByteArray).data.toList = [48] from rfl, repeat_zero] at h
  rw [hx]
  exact h
 have hnb : ¬ 9223372036854775807 < (strB (List.replicate c 48)).size + T.size := by have := D1.hi; rw [strB_size, List.length_replicate]; omega
 clear f1
 replace hTs := Lib.hid hTs
 replace hc := Lib.hid hc
 replace hT := Lib.hid hT
 obtain ⟨x0, x1, x2, x3, x4, x5⟩ := cL6 Ka.h
 have HD := Lib.hid D1
 have Hsg := Lib.hid I1.sgn
 clear ha D1
 go_enter Tryz.func99, Tryz.ntmps99
 go_upto_region 3 with first
  | (go_at_call 78; refine (need_ok _).mono ?_; rintro e w8 ⟨rfl, rfl⟩)
  | (go_at_call 100; have hmark := q6; refine (hTx _ q6 _ _ _ _ I6).mono ?_; rintro e w7 ⟨rfl, b7⟩; have q7 := q6.trans (b7.mono q6.size); clear y0 y1 y2 y3 y4 y5; obtain ⟨y0, y1, y2, y3, y4, y5⟩ := cL6 (Ka.on q7).h)
  | (go_at_call 101; have hmark := q5; refine (hsz _ q5).mono ?_; rintro e w6 ⟨s6, A6, c6, l6, rfl, I6, b6⟩; have q6 := q5.trans (b6.mono q5.size); clear y0 y1 y2 y3 y4 y5; obtain ⟨y0, y1, y2, y3, y4, y5⟩ := cL6 (Ka.on q6).h)
  | (go_at_call 77; refine hdc.mono ?_; rintro e w5 ⟨hw, b5⟩; obtain rfl := hw.1 rfl; have q5 := a1.trans (b5.mono a1.size); clear x0 x1 x2 x3 x4 x5; obtain ⟨y0, y1, y2, y3, y4, y5⟩ := cL6 (Ka.on q5).h)
 go_upto_region 4 with (go_at_call 102; refine (hRep _ _ rfl).mono ?_; rintro e w8 ⟨rfl, b8⟩; have q8 := q7.trans (b8.mono q7.size); clear y0 y1 y2 y3 y4 y5; obtain ⟨y0, y1, y2, y3, y4, y5⟩ := cL6 (Ka.on q8).h; have k0 := cell_at (Ks.on q8).h 0 _ rfl; have f0 := frozen_at (Ks.on q8).h 0)
 have q8' := q8
 clear y0 y1 y2 y3 y4 y5
 have r0 := cell_at (Ka.on q8).h 1 _ rfl
 obtain ⟨T2, hT2⟩ : ∃ T2, strB (List.replicate c 48) ++ T = T2 := ⟨_, rfl⟩
 try rw [hT2]
 have hTT : T2 = strB (padT p (textL false 10 z1.natAbs)) := by rw [← hT2, ← hT.out, ← strB_append, ← hc.out, hTs.out]; rfl
 have hn2 : T2.size = c + T.size := by rw [← hT2, ByteArray.size_append, strB_size, List.length_replicate]
 obtain ⟨m, hm⟩ : ∃ m, T2.size - p = m := ⟨_, rfl⟩
 have hcx := hc.out
 have hTx := hTs.out
 have hwm : IntKind.i64.wrap ((T2.size : Int) - (p : Int)) = (m : Int) := by rw [IntKind.wrap_i64]; have := HD.out.hi; omega
 have hm1 : (m : Int) ≤ (T2.size : Int) := by omega
 have hm2 : (0 : Int) ≤ (m : Int) := by omega
 replace hm := Lib.hid hm
 replace hn2 := Lib.hid hn2
 replace hTT := Lib.hid hTT
 replace hT2 := Lib.hid hT2
 obtain ⟨Ea, hEa⟩ : ∃ Ea, T2.extract 0 m = Ea := ⟨_, rfl⟩
 obtain ⟨Eb, hEb⟩ : ∃ Eb, T2.extract m T2.size = Eb := ⟨_, rfl⟩
 obtain ⟨Ec, hEc⟩ : ∃ Ec, Ea ++ ⟨#[46]⟩ = Ec := ⟨_, rfl⟩
 obtain ⟨Ed, hEd⟩ : ∃ Ed, Ec ++ Eb = Ed := ⟨_, rfl⟩
 have hsb : T2.size ≤ 5000 := by have := HD.out.hi; have := hn2.out; omega
 have hsa : Ea.size ≤ 5000 := by rw [← hEa, ByteArray.size_extract]; omega
 have hsb : Eb.size ≤ 5000 := by rw [← hEb, ByteArray.size_extract]; omega
 have hsc : Ec.size ≤ 5001 := by rw [← hEc, ByteArray.size_append]; exact Nat.add_le_add hsa (Nat.le_refl 1)
 have hna : ¬ 9223372036854775807 < Ea.size + (⟨#[46]⟩ : ByteArray).size := by show ¬ _ < Ea.size + 1; omega
 have hna' : ¬ 9223372036854775807 < Ea.size + 1 := by omega
 have hnc : ¬ 9223372036854775807 < Ec.size + Eb.size := by omega
 have hEd2 : Ed = strB (textDot (padT p (textL false 10 z1.natAbs)) p) := by
  rw [← hEd, ← hEc, ← hEa, ← hEb, hTT.out, strB_size, strB_extract, strB_extract, List.drop_zero, Nat.sub_zero, show (⟨#[46]⟩ : ByteArray) = strB [46] from rfl, ← strB_append, ← strB_append]
  unfold textDot
  rw [show (padT p (textL false 10 z1.natAbs)).length - p = m by rw [← strB_size, ← hTT.out]; exact hm.out, List.append_assoc]
  rw [List.take_of_length_le (i := (padT p (textL false 10 z1.natAbs)).length - m) (by rw [List.length_drop]; exact Nat.le_refl _)]
  rfl
 have hnd : ¬ 9223372036854775807 < 1 + Ed.size := by rw [← hEd, ByteArray.size_append]; omega
 replace hEd2 := Lib.hid hEd2
 clear hcx hTx hsa hsb hsc
 refine wp_region_any (by kernel_rfl) ?_
 refine pT 0 (Value.string T2) ?_
 try simp only [Act.put, aQ, bQ, cQ]
 refine pT 1 (Value.string T2) ?_
 try simp only [Act.put, aQ, bQ, cQ]
 refine pT 2 (Value.int .i64 (T2.size : Int)) ?_
 try simp only [Act.put, aQ, bQ, cQ]
 refine pT 3 (Value.pointer (some ⟨ga, 1, none⟩)) ?_
 try simp only [Act.put, aQ, bQ, cQ]
 refine pT 8 (Value.string T2) ?_
 try simp only [Act.put, aQ, bQ, cQ]
 refine pT 9 (Value.string T2) ?_
 try simp only [Act.put, aQ, bQ, cQ]
 refine pT 10 (Value.int .i64 (T2.size : Int)) ?_
 try simp only [Act.put, aQ, bQ, cQ]
 refine pT 11 (Value.pointer (some ⟨ga, 1, none⟩)) ?_
 try simp only [Act.put, aQ, bQ, cQ]
 refine wpAny_of_F (S := fun w'' => w''.cell? ⟨ga, 1, none⟩ = some (.int .i64 (p : Int))) (late := [16]) _ _ _ _ ?_
 refine fT 4 6 (Value.int .i64 (p : Int)) r0 ?_
 try simp only [Act.put, aQ, bQ, cQ]
 refine fT 12 6 (Value.int .i64 (p : Int)) r0 ?_
 try simp only [Act.put, aQ, bQ, cQ]
 refine fT 5 6 (Value.int .i64 (m : Int)) r0 ?_
 try simp only [Act.put, aQ, bQ, cQ]
 refine fT 6 6 (Value.string Ea) r0 ?_
 try simp only [Act.put, aQ, bQ, cQ]
 refine fT 7 6 (Value.string Ec) r0 ?_
 try simp only [Act.put, aQ, bQ, cQ]
 refine fT 13 6 (Value.int .i64 (m : Int)) r0 ?_
 try simp only [Act.put, aQ, bQ, cQ]
 refine fT 14 6 (Value.string Eb) r0 ?_
 try simp only [Act.put, aQ, bQ, cQ]
 refine fT 15 6 (Value.string Ed) r0 ?_
 try simp only [Act.put, aQ, bQ, cQ]
 refine wpAnyF_one (i := 16) (by kernel_rfl) rfl (fun K hK => ?_)
 go_simp
 refine hK.out _ _ (Or.inl (by decide)) ?_
 clear hK K
 try simp only [Act.put, aQ, bQ, cQ]
 refine wpAnyF_done (by kernel_rfl) ?_ _
 obtain ⟨X, hX⟩ : ∃ X, (w8.setCell ⟨gs, 0, none⟩ (.string Ed)).drew = X := ⟨_, rfl⟩
 have KX : Blk X ga #[.int .i64 3, .int .i64 (p : Int), .bool n1, .slice A1 l1.length c1, .string ⟨#[]⟩, .slice B1 0 d1] 27 := by rw [← hX]; exact blk_drew (blk_ne hga (Ka.on q8))
 have SX : Blk X gs #[.string Ed] 9 := by rw [← hX]; exact blk_drew ⟨set_blk (Ks.on q8).h 0 _⟩
 have OX : Off (fun k => k = gs) w X := by rw [← hX]; exact ((Off.of_below (P := fun k => k = gs) q8).set (g := gs) (.inl rfl) 0 (.string Ed)).on (below_drew (Below.refl _ _))
 have hsg := Hsg.out
 rw [hX]
 clear hX k0 f0 r0
 obtain ⟨y0, y1, y2, y3, y4, y5⟩ := cL6 KX.h
 have k0 := cell_at SX.h 0 _ rfl
 have f0 := frozen_at SX.h 0
 cases n1
 · have hd : strB (decL z1 p) = Ed := by rw [hEd2.out]; unfold decL; rw [if_neg (of_decide_eq_false hsg.symm)]; rfl
   replace hd := Lib.hid hd
   clear hsg
   go_wp2_with fail
   go_end0
   rw [hd.out]
   exact ⟨rfl, OX, SX⟩
 · have hd : strB (decL z1 p) = ⟨#[45]⟩ ++ Ed := by rw [hEd2.out]; unfold decL; rw [if_pos (of_decide_eq_true hsg.symm), strB_append]; rfl
   replace hd := Lib.hid hd
   clear hsg
   go_wp2_with fail
   go_end0
   rw [hd.out]
   exact ⟨rfl, OX.set (.inl rfl) 0 _, ⟨set_blk SX.h 0 _⟩⟩
theorem text1_no (a : VA) (ga gs : Nat) (w : World) (Ka : Blk w ga #[.int .i64 a.k, .int .i64 a.p, .bool a.s, .slice a.A a.l.length a.c, .string a.S, .slice a.B a.m a.d] 27) (Ks : Blk w gs #[.string ⟨#[]⟩] 9) (ha : a.At w) (hno : a.ok = false) :
 Calls Tryz.prog 99 #[.pointer (some ⟨ga, 0, none⟩), .pointer (some ⟨gs, 0, none⟩)] w fun e w' => e = .panicked (failure 2) ∧ Off (fun k => k = gs) w w' ∧ Blk w' gs #[.string ⟨#[]⟩] 9 := by
 have hdc := decimals_c w.heap.size [a] (w.alloc (.cells #[.int .i64 a.k, .int .i64 a.p, .bool a.s, .slice a.A a.l.length a.c, .string a.S, .slice a.B a.m a.d] 27)) (by simp) (vals_one a _ _ ⟨World.alloc_heap_new w _⟩ (ha.on (al1 w _))) (by simp)
 rw [decE_one, if_neg (by rw [hno]; decide)] at hdc
 clear hno
 obtain ⟨x0, x1, x2, x3, x4, x5⟩ := cL6 Ka.h
 have a1 := al1 w (.cells #[.int .i64 a.k, .int .i64 a.p, .bool a.s, .slice a.A a.l.length a.c, .string a.S, .slice a.B a.m a.d] 27)
 go_enter Tryz.func99, Tryz.ntmps99
 go_wp2_with (go_at_call 77; refine hdc.mono ?_; rintro e w5 ⟨hw, b5⟩; obtain rfl := hw.2 (by decide); have q5 := a1.trans (b5.mono a1.size))
 exact ⟨rfl, rfl, .of_below q5, Ks.on q5⟩
theorem text1_all (a : VA) (ga gs : Nat) (hga : ga ≠ gs) (w : World) (Ka : Blk w ga #[.int .i64 a.k, .int .i64 a.p, .bool a.s, .slice a.A a.l.length a.c, .string a.S, .slice a.B a.m a.d] 27) (Ks : Blk w gs #[.string ⟨#[]⟩] 9) (ha : a.At w) (hd : DigW w) :
 Calls Tryz.prog 99 #[.pointer (some ⟨ga, 0, none⟩), .pointer (some ⟨gs, 0, none⟩)] w fun e w' => Went (textX a).2 e ∧ Off (fun k => k = gs) w w' ∧ Blk w' gs #[.string (strB (textX a).1)] 9 := by
 unfold textX
 cases hok : a.ok
 · rw [if_neg (by decide)]
   exact (text1_no a ga gs w Ka Ks ha hok).mono fun e w' h => ⟨⟨fun h => absurd h (by decide), fun _ => h.1⟩, h.2⟩
 · rw [if_pos rfl]
   obtain ⟨p, s1, A1, c1, l1, B1, d1, e1, i1, D1, -, q1⟩ := VA.destruct ha.rd.words hok
   rw [q1]
   generalize a.z = za at *
   subst e1
   exact (text1_z s1 A1 c1 l1 za p B1 d1 ga gs hga w Ka Ks ⟨ha.rd, ha.cap, i1⟩ D1 hd).mono fun e w' h => ⟨⟨fun _ => h.1, fun h => absurd rfl h⟩, h.2⟩
theorem DText_calls (a : VA) (w : World) (ha : a.At w) (hd : DigW w) : Calls Tryz.prog 23 #[a.val] w fun e w' => e = .returned (.tuple #[.string (strB (textX a).1), .int .i64 (textX a).2]) ∧ Below w.heap.size w w' := by
 have hmf := mkf
 obtain ⟨W, hW, hbW, K0, K1, hszW⟩ := box2 w #[.int .i64 a.k, .int .i64 a.p, .bool a.s, .slice a.A a.l.length a.c, .string a.S, .slice a.B a.m a.d] 27 #[.string ⟨#[]⟩] 9
 have hal : Below W.heap.size W (W.alloc (.cells #[.int .i64 0] 30)) := al1 W _
 have lw := hszW
 have hv := guard_calls 99 #[.pointer (some ⟨w.heap.size, 0, none⟩), .pointer (some ⟨w.heap.size + 1, 0, none⟩)] (enters_of Tryz.func99 (by kernel_rfl) rfl) W (textX a).2
  (fun w' => Off (fun k => k = w.heap.size + 1) w w' ∧ Blk w' (w.heap.size + 1) #[.string (strB (textX a).1)] 9)
  ((text1_all a _ _ (by omega) _ (K0.on hal) (K1.on hal) ((ha.on hbW).on hal) ((hd.on hbW).on hal)).mono (by
   rintro e w' ⟨h1, h2, h3⟩
   have hle := h2.size
   rw [World.size_alloc] at hle
   exact ⟨h1, h2.blk (by omega) ⟨World.alloc_heap_new W _⟩, by omega, (Off.of_below (hbW.trans (hal.mono hbW.size))).trans h2, h3⟩))
 generalize strB (textX a).1 = S at *
 generalize (textX a).2 = er at *
 replace hszW := Lib.hid hszW
 replace lw := Lib.hid lw
 go_enter Tryz.func23, Tryz.ntmps23
 go_wp2_with (go_at_call 98; refine hv.mono ?_; rintro e w5 ⟨rfl, w4, ⟨o4, K4⟩, n5⟩; have K5 : Blk w5 (w.heap.size + 1) #[.string S] 9 := ⟨(n5.low.block _ (by have := lw.out; omega)).trans K4.h⟩; have u0 := cell_at K5.h 0 _ rfl; have f0 := frozen_at K5.h 0)
 have hb4 : Below w.heap.size w w4 := o4.below (Nat.le_refl _) (by rintro k rfl; omega)
 have hb5 := hb4.trans (n5.low.mono (by have := lw.out; omega))
 have KX : Blk (w5.setCell ⟨w.heap.size + 1, 0, none⟩ (.string S)) (w.heap.size + 1) #[.string S] 9 := ⟨set_blk K5.h 0 _⟩
 have c5 := cell_at KX.h 0 _ rfl
 refine bodyPost_ret (v := .tuple #[.string S, .int .i64 er]) ?_ rfl ⟨rfl, hb5.setCell (by dsimp only; omega) _⟩
 rw [results_cell_tmp rfl]
 simp [asAddr, Result.andThen, go_sem, c5]
end Dc
end Go.Proofs.YtjghnghceeijeaaGreatDoor
