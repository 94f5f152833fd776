/-
  Contracts of the walks below.
-/
import Derived.Test.YtjghnghceeijeaaGreatDoorDp30
set_option maxRecDepth 100000
set_option maxHeartbeats 4000000
set_option linter.unusedVariables false
set_option linter.unusedSimpArgs false
namespace Go.Proofs.YtjghnghceeijeaaGreatDoor
namespace Dc
open Go.RowKit Go.Shelf Go.BigFrame Go.Proofs.YtjghnghceeijeaaGreatDoor.Nm
attribute [local go_sem] Oper.semAt_some
theorem blk4_s0 {W : World} {g : Nat} {x x0 y z u : Value} {t : TypeId} (h : Blk W g #[x0, y, z, u] t) : Blk (W.setCell ⟨g, 0, none⟩ x) g #[x, y, z, u] t := ⟨set_blk h.h 0 x⟩
theorem blk4_s1 {W : World} {g : Nat} {x y0 y z u : Value} {t : TypeId} (h : Blk W g #[x, y0, z, u] t) : Blk (W.setCell ⟨g, 1, none⟩ y) g #[x, y, z, u] t := ⟨set_blk h.h 1 y⟩
theorem blk4_s2 {W : World} {g : Nat} {x y z0 z u : Value} {t : TypeId} (h : Blk W g #[x, y, z0, u] t) : Blk (W.setCell ⟨g, 2, none⟩ z) g #[x, y, z, u] t := ⟨set_blk h.h 2 z⟩
theorem blk4_s3 {W : World} {g : Nat} {x y z u0 u : Value} {t : TypeId} (h : Blk W g #[x, y, z, u0] t) : Blk (W.setCell ⟨g, 3, none⟩ u) g #[x, y, z, u] t := ⟨set_blk h.h 3 u⟩
theorem iv_set4 {W : World} {g i : Nat} {v : Value} {s b b' : Bool} {A B B' : Option Addr} {c n d n' d' : Nat} {l : List Nat} {z : Int} {t : TypeId} (h : IV W s A c l z) (hb : Blk W g #[.bool b, .slice B n d, .bool b', .slice B' n' d'] t) : IV (W.setCell ⟨g, i, none⟩ v) s A c l z := ⟨rd_set h.rd hb ccells_no i v, h.cap, h.isZ⟩
theorem is_c (x : VA) (w : World) (h1 : x.At w) :
 Calls Tryz.prog 31 #[x.val] w fun e w' => e = .returned (.bool x.ok) ∧ Below w.heap.size w w' := by
 obtain ⟨k, p, s, A, c, l, S, B, m, d⟩ := x
 have h1' : Rd w A l := h1.rd
 have hc1 : l.length ≤ c := h1.cap
 unfold VA.ok isD
 dsimp only [VA.val]
 obtain ⟨W, hW, hbW, K0, hszW⟩ := box1 w #[.int .i64 k, .int .i64 p, .bool s, .slice A l.length c, .string S, .slice B m d] 27
 obtain ⟨x0, x1, x2, x3, x4, x5⟩ := cL6 K0.h
 have hfm := Formed_calls s A c l W (h1'.on hbW) hc1
 obtain ⟨r, hr⟩ : ∃ r : Bool, (decide (k = 3) && S.toList == [] && decide (m = 0) && decide (1 ≤ p) && decide (p ≤ 20) && okI s l && decide (l.length ≤ 40) && (decide (p = 1) || decide (toZ s l % 10 ≠ 0))) = r := ⟨_, rfl⟩
 rw [hr]
 replace hr := Lib.hid hr
 by_cases h0 : k = 3
 · subst h0
   cases hS : (S.toList == [])
   · obtain rfl : r = false := by rw [← hr.out]; simp [hS]
     clear hr hfm
     go_enter Tryz.func31, Tryz.ntmps31
     go_wp2_with fail
     go_ret
     exact ⟨rfl, hbW⟩
   · by_cases hm : m = 0
     · subst hm
       by_cases hp1 : 1 ≤ p
       · have e3 : decide (p < 1) = false := decide_eq_false (by omega)
         by_cases hp2 : p ≤ 20
         · have e4 : decide ((20 : Int) < p) = false := decide_eq_false (by omega)
           cases hok : okI s l
           · rw [hok] at hfm
             obtain rfl : r = false := by rw [← hr.out]; simp [hok]
             clear hr hp1 hp2
             go_enter Tryz.func31, Tryz.ntmps31
             go_wp2_with (go_at_call 70; refine hfm.mono ?_; rintro e w5 ⟨rfl, b5⟩; obtain ⟨x0, x1, x2, x3, x4, x5⟩ := cL6 (K0.on b5).h)
             go_ret
             exact ⟨rfl, hbW.trans (b5.mono hbW.size)⟩
           · rw [hok] at hfm
             by_cases h40 : l.length ≤ 40
             · have e40 : decide ((40 : Int) < (l.length : Int)) = false := decide_eq_false (by omega)
               by_cases hp : p = 1
               · have ep : (p == 1) = true := by rw [hp]; rfl
                 obtain rfl : r = true := by rw [← hr.out]; simp [hok, h40, hp, hS]
                 clear hr hp1 hp2 hp
                 go_enter Tryz.func31, Tryz.ntmps31
                 go_wp2_with (go_at_call 70; refine hfm.mono ?_; rintro e w5 ⟨rfl, b5⟩; obtain ⟨x0, x1, x2, x3, x4, x5⟩ := cL6 (K0.on b5).h)
                 go_ret
                 exact ⟨rfl, hbW.trans (b5.mono hbW.size)⟩
               · have ep : (p == 1) = false := beq_eq_false_iff_ne.2 hp
                 have hz := (okZ_of h1'.words hok).isZ
                 generalize toZ s l = z at *
                 have I0 : IV w s A c l z := ⟨h1', hc1, hz⟩
                 have f0 : Lz 40 z := (len_le_iff I0).1 h40
                 replace hr : Hid (r = decide (z % 10 ≠ 0)) := by
                  show r = _
                  rw [← hr.out]
                  simp [hok, h40, hp, hp1, hp2, hS]
                 clear hok hp2 h40 hp1 hp
                 go_enter Tryz.func31, Tryz.ntmps31
                 go_upto_region 7 with (go_at_call 70; refine hfm.mono ?_; rintro e w5 ⟨rfl, b5⟩; obtain ⟨x0, x1, x2, x3, x4, x5⟩ := cL6 (K0.on b5).h)
                 clear hfm e3 e4 e40 ep
                 have hb5 := hbW.trans (b5.mono hbW.size)
                 replace K0 := K0.on b5
                 have I5 := I0.on hb5
                 clear x0 x1 x2 x3 x4 x5
                 go_cut [3] from 42 to 45 (fun pv wx => ∃ G s1 A1' c1' l1' s2 A2' c2' l2', pv = .pointer (some ⟨G, 0, none⟩) ∧ Blk wx G #[.bool s1, .slice A1' (List.length l1') c1', .bool s2, .slice A2' (List.length l2') c2'] 111 ∧ IV wx s1 A1' c1' l1' (z / 10) ∧ IV wx s2 A2' c2' l2' (z % 10) ∧ Below w5.heap.size w5 wx ∧ w5.heap.size ≤ G)
                 case first =>
                  have hdiv := fun W' (h : Below w5.heap.size w5 W') s' A' c' l' (I : IV W' s' A' c' l' 10) => rdiv_i s s' A A' c c' l l' z 10 W' (I5.on h) I f0 (Lz.small (k := 1) (by decide) (by decide)) (by decide) (by decide) (by decide)
                  have x2 := cell_at K0.h 2 _ rfl
                  have x3 := cell_at K0.h 3 _ rfl
                  go_region_held3 (fun w'' => w''.cell? ⟨w.heap.size, 2, none⟩ = some (.bool s) ∧ w''.cell? ⟨w.heap.size, 3, none⟩ = some (.slice A l.length c)) ((first | (with_reducible exact ⟨x2, x3⟩) | (with_reducible exact rd2 ⟨x2, x3⟩) | (refine keep_two K0 ?_; (repeat' (with_reducible first | exact Below.refl _ _ | exact q6 | exact q7 | refine below_drew ?_ | refine below_al ?_ _ | refine below_set ?_ _ ?_)); (all_goals (first | exact q6.size | exact q7.size | exact Nat.le_refl _)))))
                   ((first
                    | (go_at_call 103; have hmark := q6; refine (hdiv _ (by (repeat' (with_reducible first | exact Below.refl _ _ | exact q6 | exact q7 | refine below_drew ?_ | refine below_al ?_ _ | refine below_set ?_ _ ?_))) _ _ _ _ (by (repeat' (with_reducible first | exact I6 | refine iv_up ?_)))).mono ?_; rintro e w7 ⟨s7, A7, c7, l7, s8, A8, c8, l8, rfl, I7, I8, b7⟩; have p7 : Below w6.heap.size w6 w7 := (by refine below_via ?_ b7; (repeat' (with_reducible first | exact Below.refl _ _ | exact q6 | exact q7 | refine below_drew ?_ | refine below_al ?_ _ | refine below_set ?_ _ ?_))); have q7 := q6.trans (p7.mono q6.size); (try (replace Ta := Ta.on p7)); (first | (have Ta : Blk w7 w6.heap.size #[.bool false, .slice none 0 0, .bool false, .slice none 0 0] 111 := (by with_reducible exact blk_al1 b7)) | skip); clear x2 x3; have x2 : w7.cell? ⟨w.heap.size, 2, none⟩ = some (.bool s) := cell_at (K0.on q7).h 2 _ rfl; have x3 : w7.cell? ⟨w.heap.size, 3, none⟩ = some (.slice A l.length c) := cell_at (K0.on q7).h 3 _ rfl; (try (have ta0 := cell_at Ta.h 0 _ rfl; have ta1 := cell_at Ta.h 1 _ rfl; have ta2 := cell_at Ta.h 2 _ rfl; have ta3 := cell_at Ta.h 3 _ rfl; have ta4 := frozen_at Ta.h 0; have ta5 := frozen_at Ta.h 1; have ta6 := frozen_at Ta.h 2; have ta7 := frozen_at Ta.h 3)))
                    | (go_at_call 45; refine (rof_i 10 _ (by decide) (by decide)).mono ?_; rintro e w6 ⟨s6, A6, c6, l6, rfl, I6, b6⟩; have q6 : Below w5.heap.size w5 w6 := (by refine below_via ?_ b6; (repeat' (with_reducible first | exact Below.refl _ _ | exact q6 | exact q7 | refine below_drew ?_ | refine below_al ?_ _ | refine below_set ?_ _ ?_))); have p6 := q6; (first | (have Ta : Blk w6 w5.heap.size #[.bool false, .slice none 0 0, .bool false, .slice none 0 0] 111 := (by with_reducible exact blk_al1d b6)) | skip); clear x2 x3; have x2 : w6.cell? ⟨w.heap.size, 2, none⟩ = some (.bool s) := cell_at (K0.on q6).h 2 _ rfl; have x3 : w6.cell? ⟨w.heap.size, 3, none⟩ = some (.slice A l.length c) := cell_at (K0.on q6).h 3 _ rfl)))
                  all_goals
                   go_wp2_with fail
                   go_meet
                   refine ⟨_, s7, A7, c7, l7, s8, A8, c8, l8, rfl, ?_, ?_, ?_, ?_, ?_⟩
                   all_goals (repeat' (with_reducible first | exact I7 | exact I8 | exact Ta | exact q7 | exact blk_new _ _ _ | apply blk_drew | apply iv_drew | apply below_drew | apply blk_up | apply iv_up | apply below_al | apply blk4_s3 | apply blk4_s2 | apply blk4_s1 | apply blk4_s0 | apply iv_set4 | apply below_set))
                   all_goals (first | exact q6.size | exact q7.size | exact Nat.le_refl _)
                 case rest =>
                  obtain ⟨G, s9, A9, c9, l9, s8, A8, c8, l8, rfl, KG, IG, IR, bG, hG⟩ := hcut
                  have g2 := cell_at KG.h 2 _ rfl
                  have g3 := cell_at KG.h 3 _ rfl
                  have hzc := rzero_c s8 A8 c8 l8 (z % 10) wc IR
                  have hbc := hb5.trans (bG.mono hb5.size)
                  have hd : r = !decide (z % 10 = 0) := by rw [hr.out]; simp
                  clear I0 I5 f0 hz hr
                  obtain ⟨zb, hzb⟩ : ∃ zb, decide (z % 10 = 0) = zb := ⟨_, rfl⟩
                  rw [hzb] at hd hzc
                  subst hd
                  clear hzb
                  go_wp2_with (go_at_call 93; refine hzc.mono ?_; rintro e w9 ⟨rfl, b9⟩)
                  go_ret
                  exact ⟨rfl, hbc.trans (b9.mono hbc.size)⟩
             · have e40 : decide ((40 : Int) < (l.length : Int)) = true := decide_eq_true (by omega)
               obtain rfl : r = false := by rw [← hr.out]; simp [h40]
               clear hr hp1 hp2
               go_enter Tryz.func31, Tryz.ntmps31
               go_wp2_with (go_at_call 70; refine hfm.mono ?_; rintro e w5 ⟨rfl, b5⟩; obtain ⟨x0, x1, x2, x3, x4, x5⟩ := cL6 (K0.on b5).h)
               go_ret
               exact ⟨rfl, hbW.trans (b5.mono hbW.size)⟩
         · have e4 : decide ((20 : Int) < p) = true := decide_eq_true (by omega)
           obtain rfl : r = false := by rw [← hr.out]; simp [hp2]
           clear hr hfm hp1
           go_enter Tryz.func31, Tryz.ntmps31
           go_wp2_with fail
           go_ret
           exact ⟨rfl, hbW⟩
       · have e3 : decide (p < 1) = true := decide_eq_true (by omega)
         obtain rfl : r = false := by rw [← hr.out]; simp [hp1]
         clear hr hfm
         go_enter Tryz.func31, Tryz.ntmps31
         go_wp2_with fail
         go_ret
         exact ⟨rfl, hbW⟩
     · have hm' : 0 < m := by omega
       obtain rfl : r = false := by rw [← hr.out]; simp [hm]
       clear hr hfm
       go_enter Tryz.func31, Tryz.ntmps31
       go_wp2_with fail
       go_ret
       exact ⟨rfl, hbW⟩
 · have e0 : (k != 3) = true := by rw [bne_iff_ne]; exact h0
   obtain rfl : r = false := by rw [← hr.out]; simp [h0]
   clear hr hfm
   go_enter Tryz.func31, Tryz.ntmps31
   go_wp2_with fail
   go_ret
   exact ⟨rfl, hbW⟩
theorem gcells_no {k p e : Int} {s : Bool} {A : Option Addr} {n c : Nat} {S : ByteArray} {B : Option Addr} {m d : Nat} (i x : Nat) : ((#[.int .i64 k, .int .i64 p, .bool s, .slice A n c, .string S, .slice B m d, .int .i64 e] : Array Value))[i]? ≠ some (.int .u32 (x : Int)) := by
 intro h
 rcases i with _ | _ | _ | _ | _ | _ | _ | i <;> simp at h
theorem storeG {W : World} {g : Nat} {t : TypeId} {k p e k' p' e' : Int} {s s' : Bool} {A A' : Option Addr} {n c n' c' : Nat} {S S' : ByteArray} {B B' : Option Addr} {m d m' d' : Nat} (h : Blk W g #[.int .i64 k, .int .i64 p, .bool s, .slice A n c, .string S, .slice B m d, .int .i64 e] t) :
 ∃ X, (((((((W.setCell ⟨g, 0, none⟩ (.int .i64 k')).setCell ⟨g, 1, none⟩ (.int .i64 p')).setCell ⟨g, 2, none⟩ (.bool s')).setCell ⟨g, 3, none⟩ (.slice A' n' c')).setCell ⟨g, 4, none⟩ (.string S')).setCell ⟨g, 5, none⟩ (.slice B' m' d')).setCell ⟨g, 6, none⟩ (.int .i64 e')) = X ∧ Blk X g #[.int .i64 k', .int .i64 p', .bool s', .slice A' n' c', .string S', .slice B' m' d', .int .i64 e'] t ∧ Nudge g W X ∧ Off (fun k => k = g) W X := by
 have h0 : Blk (W.setCell ⟨g, 0, none⟩ (.int .i64 k')) g #[.int .i64 k', .int .i64 p, .bool s, .slice A n c, .string S, .slice B m d, .int .i64 e] t := ⟨set_blk h.h 0 _⟩
 have q0 : Nudge g W (W.setCell ⟨g, 0, none⟩ (.int .i64 k')) := (Nudge.of_below (.refl _ W) (Nat.le_of_lt (blk_lt h))).set (Nat.le_refl _) h gcells_no 0 _
 have o0 : Off (fun k => k = g) W (W.setCell ⟨g, 0, none⟩ (.int .i64 k')) := (Off.refl (fun k => k = g) W).set (.inl rfl) 0 _
 generalize W.setCell ⟨g, 0, none⟩ (.int .i64 k') = X0 at *
 have h1 : Blk (X0.setCell ⟨g, 1, none⟩ (.int .i64 p')) g #[.int .i64 k', .int .i64 p', .bool s, .slice A n c, .string S, .slice B m d, .int .i64 e] t := ⟨set_blk h0.h 1 _⟩
 have q1 : Nudge g W (X0.setCell ⟨g, 1, none⟩ (.int .i64 p')) := q0.set (Nat.le_refl _) h0 gcells_no 1 _
 have o1 : Off (fun k => k = g) W (X0.setCell ⟨g, 1, none⟩ (.int .i64 p')) := o0.set (.inl rfl) 1 _
 generalize X0.setCell ⟨g, 1, none⟩ (.int .i64 p') = X1 at *
 have h2 : Blk (X1.setCell ⟨g, 2, none⟩ (.bool s')) g #[.int .i64 k', .int .i64 p', .bool s', .slice A n c, .string S, .slice B m d, .int .i64 e] t := ⟨set_blk h1.h 2 _⟩
 have q2 : Nudge g W (X1.setCell ⟨g, 2, none⟩ (.bool s')) := q1.set (Nat.le_refl _) h1 gcells_no 2 _
 have o2 : Off (fun k => k = g) W (X1.setCell ⟨g, 2, none⟩ (.bool s')) := o1.set (.inl rfl) 2 _
 generalize X1.setCell ⟨g, 2, none⟩ (.bool s') = X2 at *
 have h3 : Blk (X2.setCell ⟨g, 3, none⟩ (.slice A' n' c')) g #[.int .i64 k', .int .i64 p', .bool s', .slice A' n' c', .string S, .slice B m d, .int .i64 e] t := ⟨set_blk h2.h 3 _⟩
 have q3 : Nudge g W (X2.setCell ⟨g, 3, none⟩ (.slice A' n' c')) := q2.set (Nat.le_refl _) h2 gcells_no 3 _
 have o3 : Off (fun k => k = g) W (X2.setCell ⟨g, 3, none⟩ (.slice A' n' c')) := o2.set (.inl rfl) 3 _
 generalize X2.setCell ⟨g, 3, none⟩ (.slice A' n' c') = X3 at *
 have h4 : Blk (X3.setCell ⟨g, 4, none⟩ (.string S')) g #[.int .i64 k', .int .i64 p', .bool s', .slice A' n' c', .string S', .slice B m d, .int .i64 e] t := ⟨set_blk h3.h 4 _⟩
 have q4 : Nudge g W (X3.setCell ⟨g, 4, none⟩ (.string S')) := q3.set (Nat.le_refl _) h3 gcells_no 4 _
 have o4 : Off (fun k => k = g) W (X3.setCell ⟨g, 4, none⟩ (.string S')) := o3.set (.inl rfl) 4 _
 generalize X3.setCell ⟨g, 4, none⟩ (.string S') = X4 at *
 have h5 : Blk (X4.setCell ⟨g, 5, none⟩ (.slice B' m' d')) g #[.int .i64 k', .int .i64 p', .bool s', .slice A' n' c', .string S', .slice B' m' d', .int .i64 e] t := ⟨set_blk h4.h 5 _⟩
 have q5 : Nudge g W (X4.setCell ⟨g, 5, none⟩ (.slice B' m' d')) := q4.set (Nat.le_refl _) h4 gcells_no 5 _
 have o5 : Off (fun k => k = g) W (X4.setCell ⟨g, 5, none⟩ (.slice B' m' d')) := o4.set (.inl rfl) 5 _
 generalize X4.setCell ⟨g, 5, none⟩ (.slice B' m' d') = X5 at *
 have h6 : Blk (X5.setCell ⟨g, 6, none⟩ (.int .i64 e')) g #[.int .i64 k', .int .i64 p', .bool s', .slice A' n' c', .string S', .slice B' m' d', .int .i64 e'] t := ⟨set_blk h5.h 6 _⟩
 have q6 : Nudge g W (X5.setCell ⟨g, 6, none⟩ (.int .i64 e')) := q5.set (Nat.le_refl _) h5 gcells_no 6 _
 have o6 : Off (fun k => k = g) W (X5.setCell ⟨g, 6, none⟩ (.int .i64 e')) := o5.set (.inl rfl) 6 _
 generalize X5.setCell ⟨g, 6, none⟩ (.int .i64 e') = X6 at *
 exact ⟨_, rfl, h6, q6, o6⟩
theorem rgot_size : (Tryz.prog.info? 36).map (·.size) = some 7 := by kernel_rfl
theorem retG_end {x : DR} {w X : World} {s : Bool} {A : Option Addr} {c : Nat} {l : List Nat} {B : Option Addr} {d : Nat} {k p e : Int} (hk : k = kd x) (hp : p = (x.2.1 : Int)) (he : e = x.2.2) (I : IV X s A c l x.1) (hb : Below w.heap.size w X) :
 RetG x w (.returned (.agg #[.int .i64 k, .int .i64 p, .bool s, .slice A l.length c, .string ⟨#[]⟩, .slice B 0 d, .int .i64 e])) X := ⟨s, A, c, l, B, d, by rw [hk, hp, he], I, hb⟩
theorem retG_err {w X : World} (e : Int) (he : e ≠ 0) (hb : Below w.heap.size w X) : RetG (err e) w (.returned (.agg #[.int .i64 0, .int .i64 0, .bool false, .slice none 0 0, .string ⟨#[]⟩, .slice none 0 0, .int .i64 e])) X :=
 ⟨false, none, 0, [], none, 0, by rw [kd_no (x := err e) he]; rfl, IV.zero X, hb⟩
def stripM (z : Int) (k : Nat) : DR := if (lim (strip z k).1.natAbs).length ≤ 40 then ((strip z k).1, (strip z k).2, 0) else err 3
theorem madeE_strip (z : Int) (p : Nat) : madeE z p = if p = 0 then stripM (z * 10) 1 else stripM z p := by
 unfold madeE madeZ stripM
 by_cases h : p = 0
 · rw [if_pos h, if_pos h]; rfl
 · rw [if_neg h, if_neg h]
theorem stripM_step {z : Int} {k : Nat} (hk : 1 < k) (h : z % 10 = 0) : stripM z k = stripM (z / 10) (k - 1) := by
 obtain ⟨m, rfl⟩ : ∃ m, k = m + 2 := ⟨k - 2, by omega⟩
 unfold stripM
 rw [strip, if_pos h]
 rfl
theorem Least_i (n1 : Bool) (A1 : Option Addr) (c1 : Nat) (l1 : List Nat) (z1 : Int) (p : Nat) (hp20 : p ≤ 20) (w : World) (I1 : IV w n1 A1 c1 l1 z1) {k0 : Nat} (f1 : Lz k0 z1) (hk0 : k0 ≤ 50000) :
 Calls Tryz.prog 97 #[iv n1 A1 l1.length c1, .int .i64 (p : Int)] w (RetG (madeE z1 p) w) := by
 obtain ⟨W, hW, hbW, K0, K1, hszW⟩ := box2 w #[.bool n1, .slice A1 l1.length c1] 24 #[.int .i64 0, .int .i64 0, .bool false, .slice none 0 0, .string ⟨#[]⟩, .slice none 0 0, .int .i64 0] 36
 obtain ⟨E, hE⟩ : ∃ E, madeE z1 p = E := ⟨_, rfl⟩
 rw [hE]
 rw [madeE_strip] at hE
 replace hE := Lib.hid hE
 replace hszW := Lib.hid hszW
 replace hk0 := Lib.hid hk0
 have J1 := I1.on hbW
 go_enter Tryz.func97, Tryz.ntmps97
 go_upto_if 7 with fail
 go_cut [1] from 8 to 10 (fun pv wx => ∃ (k : Nat) (z : Int) (s : Bool) (A : Option Addr) (c : Nat) (l : List Nat), pv = .int .i64 (k : Int) ∧ 1 ≤ k ∧ k ≤ 20 ∧ Blk wx w.heap.size #[.bool s, .slice A (List.length l) c] 24 ∧ IV wx s A c l z ∧ Lz (k0 + 1) z ∧ Below w.heap.size w wx ∧ stripM z k = E ∧ Blk wx (w.heap.size + 1) #[.int .i64 0, .int .i64 0, .bool false, .slice none 0 0, .string ⟨#[]⟩, .slice none 0 0, .int .i64 0] 36)
 case first =>
  by_cases h0 : p = 0
  · subst h0
    have hE2 := hE.out
    rw [if_pos rfl] at hE2
    have M1 := fun W' (h : Below W.heap.size W W') s' A' c' l' (I : IV W' s' A' c' l' 10) => rtimes_i n1 s' A1 A' c1 c' l1 l' z1 10 W' (J1.on h) I f1 (Lz.small (k := 1) (by decide) (by decide)) (Nat.le_trans hk0.out (by decide)) (by decide)
    have fm : Lz (k0 + 1) (z1 * 10) := f1.mul (Lz.small (k := 1) (by decide) (by decide))
    generalize z1 * 10 = zt at *
    go_upto_region 2 with fail
    obtain ⟨g0, g1⟩ := cL2 K0.h
    refine wp_region_any (by kernel_rfl) ?_
    refine wpAny_of_F (S := fun w'' => w''.cell? ⟨w.heap.size, 0, none⟩ = some (.bool n1) ∧ w''.cell? ⟨w.heap.size, 1, none⟩ = some (.slice A1 l1.length c1)) (late := [3]) _ _ _ _ ?_
    refine fT 0 6 (Value.agg #[.bool n1, .slice A1 l1.length c1]) ⟨g0, g1⟩ ?_
    try simp only [Act.put, aQ, bQ, cQ]
    refine wpAnyF_one (i := 1) (by kernel_rfl) rfl (fun K hK => ?_)
    go_simp
    go_at_call 45; refine (rof_i 10 _ (by decide) (by decide)).mono ?_; rintro e w11 ⟨s11, A11, c11, l11, rfl, I11, b11⟩; have q11 := (below_drew (Below.refl W.heap.size W)).trans b11; replace g0 := cell_at (K0.on q11).h 0 _ rfl; replace g1 := cell_at (K0.on q11).h 1 _ rfl
    go_wp2_with fail
    refine hK.out _ _ (Or.inr ⟨g0, g1⟩) ?_
    clear hK K
    try simp only [Act.put, aQ, bQ, cQ]
    refine wpAnyF_one (i := 2) (by kernel_rfl) rfl (fun K hK => ?_)
    go_simp
    go_at_call 34; refine (M1 _ q11 _ _ _ _ I11).mono ?_; rintro e w12 ⟨s12, A12, c12, l12, rfl, I12, b12⟩; have q12 := q11.trans (b12.mono q11.size); replace g0 := cell_at (K0.on q12).h 0 _ rfl; replace g1 := cell_at (K0.on q12).h 1 _ rfl; obtain ⟨j0, j1⟩ := fZ2 (K0.on q12).h
    go_wp2_with fail
    refine hK.out _ _ (Or.inr ⟨g0, g1⟩) ?_
    clear hK K
    try simp only [Act.put, aQ, bQ, cQ]
    refine wpAnyF_one (i := 3) (by kernel_rfl) rfl (fun K hK => ?_)
    go_simp
    refine hK.out _ _ (Or.inl (by decide)) ?_
    clear hK K
    try simp only [Act.put, aQ, bQ, cQ]
    refine wpAnyF_done (by kernel_rfl) ?_ _
    obtain ⟨X, hX, KX, NX, OX⟩ := storeI (s' := s12) (A' := A12) (n' := l12.length) (c' := c12) (K0.on q12)
    rw [hX]
    have hbX := (hbW.trans (q12.mono hbW.size)).trans (NX.low.mono (Nat.le_refl _))
    have K1X := OX.one (K1.on q12) (by omega)
    clear g0 g1 j0 j1 hX M1
    go_wp2_with fail
    go_meet
    exact ⟨1, zt, s12, A12, c12, l12, rfl, Nat.le_refl _, by decide, KX, I12.nudge NX, fm, hbX, hE2, K1X⟩
  · have hpI : ((p : Int) == 0) = false := beq_eq_false_iff_ne.2 (by omega)
    have hE2 := hE.out
    rw [if_neg h0] at hE2
    go_wp2_with fail
    go_meet
    exact ⟨p, z1, n1, A1, c1, l1, rfl, by omega, hp20, K0, J1, f1.mono (by omega), hbW, hE2, K1⟩
 case rest =>
  obtain ⟨k1, z2, s2, A2, c2, l2, rfl, h11, h20, KN, IN, fN, hbN, hEN, KR⟩ := hcut
  clear hE
  replace hEN := Lib.hid hEN
  clear J1 I1 f1 hW hbW hszW K0 K1
  go_wp2_with fail
  go_loopw [1] (fun iv Wl => ∃ (k : Nat) (z : Int) (s : Bool) (A : Option Addr) (c : Nat) (l : List Nat), iv = .int .i64 (k : Int) ∧ 1 ≤ k ∧ k ≤ 20 ∧ Blk Wl w.heap.size #[.bool s, .slice A (List.length l) c] 24 ∧ IV Wl s A c l z ∧ Lz (k0 + 1) z ∧ Below w.heap.size w Wl ∧ Hid (stripM z2 k1 = stripM z k) ∧ Blk Wl (w.heap.size + 1) #[.int .i64 0, .int .i64 0, .bool false, .slice none 0 0, .string ⟨#[]⟩, .slice none 0 0, .int .i64 0] 36) (fun iv _ => (intOf iv).toNat)
  case atStart => exact ⟨k1, z2, s2, A2, c2, l2, rfl, h11, h20, KN, IN, fN, hbN, rfl, KR⟩
  case round =>
   obtain ⟨k, z, s, A, c, l, rfl, hk1, hk20, D0, Iz, fz, hbl, hm, D1⟩ := hrel
   have hE := hEN
   clear KN IN fN KR
   have lw1 := blk_lt D1
   by_cases hk : 1 < k
   · have hkI : decide ((1 : Int) < (k : Int)) = true := decide_eq_true (by omega)
     have hdiv := fun W' (h : Below wr.heap.size wr W') s' A' c' l' (I : IV W' s' A' c' l' 10) => rdiv_i s s' A A' c c' l l' z 10 W' (Iz.on h) I fz (Lz.small (k := 1) (by decide) (by decide)) (by have := hk0.out; omega) (by decide) (by decide)
     have fq : Lz (k0 + 1) (z / 10) := fz.le (Int.natAbs_ediv_le_natAbs z 10)
     go_upto_region 5 with fail
     go_cut [5] from 11 to 23 (fun pv wx => ∃ G s1 A1' c1' l1' s2 A2' c2' l2', pv = .pointer (some ⟨G, 0, none⟩) ∧ Blk wx G #[.bool s1, .slice A1' (List.length l1') c1', .bool s2, .slice A2' (List.length l2') c2'] 111 ∧ IV wx s1 A1' c1' l1' (z / 10) ∧ IV wx s2 A2' c2' l2' (z % 10) ∧ Below wr.heap.size wr wx ∧ wr.heap.size ≤ G)
     case first =>
      obtain ⟨x0, x1⟩ := cL2 D0.h
      go_region_held3 (fun w'' => w''.cell? ⟨w.heap.size, 0, none⟩ = some (.bool s) ∧ w''.cell? ⟨w.heap.size, 1, none⟩ = some (.slice A l.length c)) ((first | (with_reducible exact ⟨x0, x1⟩) | (with_reducible exact rd2 ⟨x0, x1⟩) | (refine keep2i D0 ?_; (repeat' (with_reducible first | exact Below.refl _ _ | exact q6 | exact q7 | refine below_drew ?_ | refine below_al ?_ _ | refine below_set ?_ _ ?_)); (all_goals (first | exact q6.size | exact q7.size | exact Nat.le_refl _)))))
       ((first
        | (go_at_call 103; have hmark := q6; refine (hdiv _ (by (repeat' (with_reducible first | exact Below.refl _ _ | exact q6 | exact q7 | refine below_drew ?_ | refine below_al ?_ _ | refine below_set ?_ _ ?_))) _ _ _ _ (by (repeat' (with_reducible first | exact I6 | refine iv_up ?_)))).mono ?_; rintro e w7 ⟨s7, A7, c7, l7, s8, A8, c8, l8, rfl, I7, I8, b7⟩; have p7 : Below w6.heap.size w6 w7 := (by refine below_via ?_ b7; (repeat' (with_reducible first | exact Below.refl _ _ | exact q6 | exact q7 | refine below_drew ?_ | refine below_al ?_ _ | refine below_set ?_ _ ?_))); have q7 := q6.trans (p7.mono q6.size); (try (replace Ta := Ta.on p7)); (first | (have Ta : Blk w7 w6.heap.size #[.bool false, .slice none 0 0, .bool false, .slice none 0 0] 111 := (by with_reducible exact blk_al1 b7)) | skip); clear x0 x1; have x0 : w7.cell? ⟨w.heap.size, 0, none⟩ = some (.bool s) := cell_at (D0.on q7).h 0 _ rfl; have x1 : w7.cell? ⟨w.heap.size, 1, none⟩ = some (.slice A l.length c) := cell_at (D0.on q7).h 1 _ rfl; (try (have ta0 := cell_at Ta.h 0 _ rfl; have ta1 := cell_at Ta.h 1 _ rfl; have ta2 := cell_at Ta.h 2 _ rfl; have ta3 := cell_at Ta.h 3 _ rfl; have ta4 := frozen_at Ta.h 0; have ta5 := frozen_at Ta.h 1; have ta6 := frozen_at Ta.h 2; have ta7 := frozen_at Ta.h 3)))
        | (go_at_call 45; refine (rof_i 10 _ (by decide) (by decide)).mono ?_; rintro e w6 ⟨s6, A6, c6, l6, rfl, I6, b6⟩; have q6 : Below wr.heap.size wr w6 := (by refine below_via ?_ b6; (repeat' (with_reducible first | exact Below.refl _ _ | exact q6 | exact q7 | refine below_drew ?_ | refine below_al ?_ _ | refine below_set ?_ _ ?_))); have p6 := q6; (first | (have Ta : Blk w6 wr.heap.size #[.bool false, .slice none 0 0, .bool false, .slice none 0 0] 111 := (by with_reducible exact blk_al1d b6)) | skip); clear x0 x1; have x0 : w6.cell? ⟨w.heap.size, 0, none⟩ = some (.bool s) := cell_at (D0.on q6).h 0 _ rfl; have x1 : w6.cell? ⟨w.heap.size, 1, none⟩ = some (.slice A l.length c) := cell_at (D0.on q6).h 1 _ rfl)))
      all_goals
       go_wp2_with fail
       go_meet
       refine ⟨_, s7, A7, c7, l7, s8, A8, c8, l8, rfl, ?_, ?_, ?_, ?_, ?_⟩
       all_goals (repeat' (with_reducible first | exact I7 | exact I8 | exact Ta | exact q7 | exact blk_new _ _ _ | apply blk_drew | apply iv_drew | apply below_drew | apply blk_up | apply iv_up | apply below_al | apply blk4_s3 | apply blk4_s2 | apply blk4_s1 | apply blk4_s0 | apply iv_set4 | apply below_set))
       all_goals (first | exact q6.size | exact q7.size | exact Nat.le_refl _)
     case rest =>
      obtain ⟨G, s9, A9, c9, l9, s8, A8, c8, l8, rfl, KG, IG, IR, bG, hG⟩ := hcut
      replace D0 := D0.on bG
      replace D1 := D1.on bG
      have Iz' := Iz.on bG
      replace hbl := hbl.trans (bG.mono hbl.size)
      have hzc := rzero_c s8 A8 c8 l8 (z % 10) wc IR
      have g2 := cell_at KG.h 2 _ rfl
      have g3 := cell_at KG.h 3 _ rfl
      clear hdiv Iz
      by_cases hz0 : z % 10 = 0
      · have hm2 := Lib.hid (hm.out.trans (stripM_step hk hz0))
        rw [decide_eq_true hz0] at hzc
        clear hz0 hm
        generalize z / 10 = zq at *
        go_upto_region 7 with (go_at_call 93; refine hzc.mono ?_; rintro e w9 ⟨rfl, b9⟩)
        obtain ⟨g0, g1⟩ := cL2 (KG.on b9).h
        obtain ⟨y0, y1⟩ := cL2 (D0.on b9).h
        obtain ⟨f0, f1⟩ := fZ2 (D0.on b9).h
        obtain ⟨X, hX, KX, NX, OX⟩ := storeI (s' := s9) (A' := A9) (n' := l9.length) (c' := c9) (D0.on b9)
        have DX := OX.one (D1.on b9) (by omega)
        have hbX := (hbl.trans (b9.mono hbl.size)).trans (NX.low.mono (Nat.le_refl _))
        go_wp2_with fail
        go_roundw
        case rel => exact ⟨k - 1, zq, s9, A9, c9, l9, by simp; omega, by omega, by omega, KX, (IG.on b9).nudge NX, fq, hbX, hm2, DX⟩
        case measure => simp only [intOf]; omega
      · have hst : strip z k = (z, k) := strip_id z k (.inr hz0)
        rw [decide_eq_false hz0] at hzc
        clear hz0
        go_upto_region 9 with (go_at_call 93; refine hzc.mono ?_; rintro e w9 ⟨rfl, b9⟩)
        replace D0 := D0.on b9
        replace D1 := D1.on b9
        replace Iz' := Iz'.on b9
        replace hbl := hbl.trans (b9.mono hbl.size)
        clear g2 g3 KG IG IR hzc
        by_cases h40 : l.length ≤ 40
        · have hc40 : decide ((40 : Int) < (l.length : Int)) = false := decide_eq_false (by omega)
          have hE2 : E = (z, k, 0) := hE.out.symm.trans (by rw [hm.out]; unfold stripM; rw [hst]; exact if_pos ((len_le_iff Iz').1 h40).len)
          obtain ⟨a0, a1⟩ := cL2 D0.h
          obtain ⟨r0, r1, r2, r3, r4, r5, r6⟩ := cL7 D1.h
          obtain ⟨f0, f1, f2, f3, f4, f5, f6⟩ := fZ7 D1.h
          replace hE2 := Lib.hid hE2
          clear hm h40 hE hst
          go_wp2_with fail
          obtain ⟨X, hX, KX, NX, OX⟩ := storeG (k' := 3) (p' := (k : Int)) (s' := s) (A' := A) (n' := l.length) (c' := c) (S' := ⟨#[]⟩) (B' := none) (m' := 0) (d' := 0) (e' := 0) D1
          rw [hX]
          exact ret_cellT rfl Tryz.underlying36 rgot_size rfl rfl KX.h rfl (by rw [hE2.out]; exact retG_end rfl rfl rfl (Iz'.nudge NX) (hbl.trans (NX.low.mono (by omega))))
        · have hc40 : decide ((40 : Int) < (l.length : Int)) = true := decide_eq_true (by omega)
          have hE2 : E = err 3 := hE.out.symm.trans (by rw [hm.out]; unfold stripM; rw [hst]; exact if_neg (fun h => h40 ((len_le_iff Iz').2 ⟨h⟩)))
          obtain ⟨a0, a1⟩ := cL2 D0.h
          obtain ⟨r0, r1, r2, r3, r4, r5, r6⟩ := cL7 D1.h
          obtain ⟨f0, f1, f2, f3, f4, f5, f6⟩ := fZ7 D1.h
          replace hE2 := Lib.hid hE2
          clear hm h40 hE hst
          go_wp2_with fail
          obtain ⟨X, hX, KX, NX, OX⟩ := storeG (k' := 0) (p' := 0) (s' := false) (A' := none) (n' := 0) (c' := 0) (S' := ⟨#[]⟩) (B' := none) (m' := 0) (d' := 0) (e' := 3) D1
          rw [hX]
          exact ret_cellT rfl Tryz.underlying36 rgot_size rfl rfl KX.h rfl (by rw [hE2.out]; exact retG_err 3 (by decide) (hbl.trans (NX.low.mono (by omega))))
   · obtain rfl : k = 1 := by omega
     have hst : strip z 1 = (z, 1) := rfl
     have hkI : decide ((1 : Int) < ((1 : Nat) : Int)) = false := decide_eq_false (by omega)
     clear hk
     go_upto_region 9 with fail
     by_cases h40 : l.length ≤ 40
     · have hc40 : decide ((40 : Int) < (l.length : Int)) = false := decide_eq_false (by omega)
       have hE2 : E = (z, 1, 0) := hE.out.symm.trans (by rw [hm.out]; unfold stripM; rw [hst]; exact if_pos ((len_le_iff Iz).1 h40).len)
       obtain ⟨a0, a1⟩ := cL2 D0.h
       obtain ⟨r0, r1, r2, r3, r4, r5, r6⟩ := cL7 D1.h
       obtain ⟨f0, f1, f2, f3, f4, f5, f6⟩ := fZ7 D1.h
       replace hE2 := Lib.hid hE2
       clear hm h40 hE hst
       go_wp2_with fail
       obtain ⟨X, hX, KX, NX, OX⟩ := storeG (k' := 3) (p' := (1 : Int)) (s' := s) (A' := A) (n' := l.length) (c' := c) (S' := ⟨#[]⟩) (B' := none) (m' := 0) (d' := 0) (e' := 0) D1
       rw [hX]
       exact ret_cellT rfl Tryz.underlying36 rgot_size rfl rfl KX.h rfl (by rw [hE2.out]; exact retG_end rfl rfl rfl (Iz.nudge NX) (hbl.trans (NX.low.mono (by omega))))
     · have hc40 : decide ((40 : Int) < (l.length : Int)) = true := decide_eq_true (by omega)
       have hE2 : E = err 3 := hE.out.symm.trans (by rw [hm.out]; unfold stripM; rw [hst]; exact if_neg (fun h => h40 ((len_le_iff Iz).2 ⟨h⟩)))
       obtain ⟨a0, a1⟩ := cL2 D0.h
       obtain ⟨r0, r1, r2, r3, r4, r5, r6⟩ := cL7 D1.h
       obtain ⟨f0, f1, f2, f3, f4, f5, f6⟩ := fZ7 D1.h
       replace hE2 := Lib.hid hE2
       clear hm h40 hE hst
       go_wp2_with fail
       obtain ⟨X, hX, KX, NX, OX⟩ := storeG (k' := 0) (p' := 0) (s' := false) (A' := none) (n' := 0) (c' := 0) (S' := ⟨#[]⟩) (B' := none) (m' := 0) (d' := 0) (e' := 3) D1
       rw [hX]
       exact ret_cellT rfl Tryz.underlying36 rgot_size rfl rfl KX.h rfl (by rw [hE2.out]; exact retG_err 3 (by decide) (hbl.trans (NX.low.mono (by omega))))
theorem set7_ne {W : World} {a i g : Nat} {x0 x1 x2 x3 x4 x5 x6 : Value} {v : Value} (h : W.cell? ⟨a, i, none⟩ = some v) (hne : a ≠ g) : (((((((W.setCell ⟨g, 0, none⟩ x0).setCell ⟨g, 1, none⟩ x1).setCell ⟨g, 2, none⟩ x2).setCell ⟨g, 3, none⟩ x3).setCell ⟨g, 4, none⟩ x4).setCell ⟨g, 5, none⟩ x5).setCell ⟨g, 6, none⟩ x6).cell? ⟨a, i, none⟩ = some v := cell_set_ne (cell_set_ne (cell_set_ne (cell_set_ne (cell_set_ne (cell_set_ne (cell_set_ne h hne) hne) hne) hne) hne) hne) hne
theorem drew4 {W : World} {a0 a1 a2 a3 : Addr} {x0 x1 x2 x3 : Option Value} (h : W.cell? a0 = x0 ∧ W.cell? a1 = x1 ∧ W.cell? a2 = x2 ∧ W.cell? a3 = x3) : W.drew.cell? a0 = x0 ∧ W.drew.cell? a1 = x1 ∧ W.drew.cell? a2 = x2 ∧ W.drew.cell? a3 = x3 := h
theorem units_i (n1 n2 : Bool) (A1 A2 : Option Addr) (c1 c2 : Nat) (l1 l2 : List Nat) (z1 z2 : Int) (w : World) (I1 : IV w n1 A1 c1 l1 z1) (I2 : IV w n2 A2 c2 l2 z2) {k j : Nat} (f1 : Lz k z1) (f2 : Lz j z2) (hk : k ≤ 2000) (hj : j ≤ 2000) (h0 : z2 ≠ 0) :
 Calls Tryz.prog 95 #[iv n1 A1 l1.length c1, iv n2 A2 l2.length c2] w (RetG (stripE (nearZ (z1 * 10 ^ 20) z2)) w) := by
 obtain ⟨W, hW, hbW, K0, K1, K2, hszW⟩ := box3 w #[.bool n1, .slice A1 l1.length c1] 24 #[.bool n2, .slice A2 l2.length c2] 24 #[.int .i64 0, .int .i64 0, .bool false, .slice none 0 0, .string ⟨#[]⟩, .slice none 0 0, .int .i64 0] 36
 have J1 := I1.on hbW
 have J2 := I2.on hbW
 have hT : ∀ W', Calls Tryz.prog 35 #[.int .i64 20] W' (RetI (10 ^ 20) W') := fun W' => Ten_i 20 (by decide) W'
 have ft : Lz 3 ((10 : Int) ^ 20) := lz_ten 20 (by decide)
 have fm := f1.mul ft
 have hM := fun W' (h : Below W.heap.size W W') s A c l (I : IV W' s A c l (10 ^ 20)) => rtimes_i n1 s A1 A c1 c l1 l z1 (10 ^ 20) W' (J1.on h) I f1 ft (by omega) (by decide)
 generalize (10 : Int) ^ 20 = t at *
 have hN := fun W' (h : Below W.heap.size W W') s A c l (I : IV W' s A c l (z1 * t)) => Near_i s n2 A A2 c c2 l l2 (z1 * t) z2 W' I (J2.on h) fm f2 (by omega) (by omega) h0
 have fn : Lz (k + 3 + 1) (nearZ (z1 * t) z2) := fm.near h0
 generalize z1 * t = m at *
 generalize nearZ m z2 = n at *
 have hL : ∀ W' s A c l (I : IV W' s A c l n), Calls Tryz.prog 97 #[iv s A (List.length l) c, .int .i64 20] W' (RetG (stripE n) W') := fun W' s A c l I => Least_i s A c l n 20 (by decide) W' I fn (by omega)
 clear fn fm ft f1 f2 h0 hk hj I1 I2
 obtain ⟨E, hE⟩ : ∃ E, stripE n = E := ⟨_, rfl⟩
 rw [hE] at hL ⊢
 clear hE
 replace hszW := Lib.hid hszW
 go_enter Tryz.func95, Tryz.ntmps95
 go_upto_region 1 with fail
 have x0 : W.cell? ⟨w.heap.size, 0, none⟩ = some (.bool n1) := cell_at K0.h 0 _ rfl
 have x1 : W.cell? ⟨w.heap.size, 1, none⟩ = some (.slice A1 l1.length c1) := cell_at K0.h 1 _ rfl
 have y0 : W.cell? ⟨w.heap.size + 1, 0, none⟩ = some (.bool n2) := cell_at K1.h 0 _ rfl
 have y1 : W.cell? ⟨w.heap.size + 1, 1, none⟩ = some (.slice A2 l2.length c2) := cell_at K1.h 1 _ rfl
 have hne0 : w.heap.size ≠ w.heap.size + 1 + 1 := by omega
 have hne1 : w.heap.size + 1 ≠ w.heap.size + 1 + 1 := by omega
 go_region_held3 (fun w'' => w''.cell? ⟨w.heap.size, 0, none⟩ = some (.bool n1) ∧ w''.cell? ⟨w.heap.size, 1, none⟩ = some (.slice A1 l1.length c1) ∧ w''.cell? ⟨w.heap.size + 1, 0, none⟩ = some (.bool n2) ∧ w''.cell? ⟨w.heap.size + 1, 1, none⟩ = some (.slice A2 l2.length c2)) ((first | (with_reducible exact ⟨x0, x1, y0, y1⟩) | (with_reducible exact drew4 ⟨x0, x1, y0, y1⟩) | (with_reducible exact ⟨set7_ne x0 hne0, set7_ne x1 hne0, set7_ne y0 hne1, set7_ne y1 hne1⟩)))
  ((first
   | (go_at_call 97; have hmark := q7; refine (hL _ _ _ _ _ I7).mono ?_; rintro e w8 ⟨s8, A8, c8, l8, B8, d8, rfl, I8, b8⟩; have q8 := q7.trans (b8.mono q7.size); clear x0 x1 y0 y1; have x0 : w8.cell? ⟨w.heap.size, 0, none⟩ = some (.bool n1) := cell_at (K0.on q8).h 0 _ rfl; have x1 : w8.cell? ⟨w.heap.size, 1, none⟩ = some (.slice A1 l1.length c1) := cell_at (K0.on q8).h 1 _ rfl; have y0 : w8.cell? ⟨w.heap.size + 1, 0, none⟩ = some (.bool n2) := cell_at (K1.on q8).h 0 _ rfl; have y1 : w8.cell? ⟨w.heap.size + 1, 1, none⟩ = some (.slice A2 l2.length c2) := cell_at (K1.on q8).h 1 _ rfl; obtain ⟨e0, e1, e2, e3, e4, e5, e6⟩ := cL7 (K2.on q8).h; obtain ⟨f0, f1, f2, f3, f4, f5, f6⟩ := fZ7 (K2.on q8).h)
   | (go_at_call 133; have hmark := q6; refine (hN _ q6 _ _ _ _ I6).mono ?_; rintro e w7 ⟨s7, A7, c7, l7, rfl, I7, b7⟩; have q7 := q6.trans (b7.mono q6.size); clear x0 x1 y0 y1; have x0 : w7.cell? ⟨w.heap.size, 0, none⟩ = some (.bool n1) := cell_at (K0.on q7).h 0 _ rfl; have x1 : w7.cell? ⟨w.heap.size, 1, none⟩ = some (.slice A1 l1.length c1) := cell_at (K0.on q7).h 1 _ rfl; have y0 : w7.cell? ⟨w.heap.size + 1, 0, none⟩ = some (.bool n2) := cell_at (K1.on q7).h 0 _ rfl; have y1 : w7.cell? ⟨w.heap.size + 1, 1, none⟩ = some (.slice A2 l2.length c2) := cell_at (K1.on q7).h 1 _ rfl)
   | (go_at_call 34; have hmark := q5; refine (hM _ q5 _ _ _ _ I5).mono ?_; rintro e w6 ⟨s6, A6, c6, l6, rfl, I6, b6⟩; have q6 := q5.trans (b6.mono q5.size); clear x0 x1 y0 y1; have x0 : w6.cell? ⟨w.heap.size, 0, none⟩ = some (.bool n1) := cell_at (K0.on q6).h 0 _ rfl; have x1 : w6.cell? ⟨w.heap.size, 1, none⟩ = some (.slice A1 l1.length c1) := cell_at (K0.on q6).h 1 _ rfl; have y0 : w6.cell? ⟨w.heap.size + 1, 0, none⟩ = some (.bool n2) := cell_at (K1.on q6).h 0 _ rfl; have y1 : w6.cell? ⟨w.heap.size + 1, 1, none⟩ = some (.slice A2 l2.length c2) := cell_at (K1.on q6).h 1 _ rfl)
   | (go_at_call 35; refine (hT _).mono ?_; rintro e w5 ⟨s5, A5, c5, l5, rfl, I5, b5⟩; have q5 := (below_drew (Below.refl W.heap.size W)).trans b5; clear x0 x1 y0 y1; have x0 : w5.cell? ⟨w.heap.size, 0, none⟩ = some (.bool n1) := cell_at (K0.on q5).h 0 _ rfl; have x1 : w5.cell? ⟨w.heap.size, 1, none⟩ = some (.slice A1 l1.length c1) := cell_at (K0.on q5).h 1 _ rfl; have y0 : w5.cell? ⟨w.heap.size + 1, 0, none⟩ = some (.bool n2) := cell_at (K1.on q5).h 0 _ rfl; have y1 : w5.cell? ⟨w.heap.size + 1, 1, none⟩ = some (.slice A2 l2.length c2) := cell_at (K1.on q5).h 1 _ rfl)))
 have hb8 := hbW.trans (q8.mono hbW.size)
 go_wp2_with fail
 obtain ⟨X, hX, KX, NX, OX⟩ := storeG (k' := kd E) (p' := (E.2.1 : Int)) (s' := s8) (A' := A8) (n' := l8.length) (c' := c8) (S' := ⟨#[]⟩) (B' := B8) (m' := 0) (d' := d8) (e' := E.2.2) (K2.on q8)
 rw [hX]
 exact ret_cellT rfl Tryz.underlying36 rgot_size rfl rfl KX.h rfl ⟨s8, A8, c8, l8, B8, d8, rfl, I8.nudge NX, (hb8).trans (NX.low.mono (by omega))⟩
theorem RMake_i (n1 : Bool) (A1 : Option Addr) (c1 : Nat) (l1 : List Nat) (k : Int) (w : World) (h1 : Rd w A1 l1) (hc1 : l1.length ≤ c1) :
 Calls Tryz.prog 62 #[iv n1 A1 l1.length c1, .int .i64 k] w (RetG (makeX n1 l1 k) w) := by
 obtain ⟨W, hW, hbW, K0, K1, hszW⟩ := box2 w #[.bool n1, .slice A1 l1.length c1] 24 #[.int .i64 0, .int .i64 0, .bool false, .slice none 0 0, .string ⟨#[]⟩, .slice none 0 0, .int .i64 0] 36
 obtain ⟨x0, x1⟩ := cL2 K0.h
 obtain ⟨e0, e1, e2, e3, e4, e5, e6⟩ := cL7 K1.h
 obtain ⟨f0, f1, f2, f3, f4, f5, f6⟩ := fZ7 K1.h
 have hfm := Formed_calls n1 A1 c1 l1 W (h1.on hbW) hc1
 obtain ⟨E, hE⟩ : ∃ E, makeX n1 l1 k = E := ⟨_, rfl⟩
 rw [hE]
 unfold makeX at hE
 cases hok : okI n1 l1
 · rw [hok] at hfm hE
   rw [if_neg (by decide)] at hE
   subst hE
   go_enter Tryz.func62, Tryz.ntmps62
   go_wp2_with (go_at_call 70; refine hfm.mono ?_; rintro e w5 ⟨rfl, b5⟩; clear e0 e1 e2 e3 e4 e5 e6 f0 f1 f2 f3 f4 f5 f6; obtain ⟨e0, e1, e2, e3, e4, e5, e6⟩ := cL7 (K1.on b5).h; obtain ⟨f0, f1, f2, f3, f4, f5, f6⟩ := fZ7 (K1.on b5).h)
   have hb8 := hbW.trans (b5.mono hbW.size)
   obtain ⟨X, hX, KX, NX, OX⟩ := storeG (k' := 0) (p' := 0) (s' := false) (A' := none) (n' := 0) (c' := 0) (S' := ⟨#[]⟩) (B' := none) (m' := 0) (d' := 0) (e' := 2) (K1.on b5)
   rw [hX]
   exact ret_cellT rfl Tryz.underlying36 rgot_size rfl rfl KX.h rfl (retG_err 2 (by decide) ((hb8).trans (NX.low.mono (by omega))))
 · rw [hok] at hfm hE
   rw [if_pos rfl] at hE
   by_cases hk0 : k < 0
   · rw [if_pos (.inl hk0)] at hE
     subst hE
     have kb : decide (k < 0) = true := decide_eq_true hk0
     clear hok
     go_enter Tryz.func62, Tryz.ntmps62
     go_wp2_with (go_at_call 70; refine hfm.mono ?_; rintro e w5 ⟨rfl, b5⟩; clear e0 e1 e2 e3 e4 e5 e6 f0 f1 f2 f3 f4 f5 f6; obtain ⟨e0, e1, e2, e3, e4, e5, e6⟩ := cL7 (K1.on b5).h; obtain ⟨f0, f1, f2, f3, f4, f5, f6⟩ := fZ7 (K1.on b5).h)
     have hb8 := hbW.trans (b5.mono hbW.size)
     obtain ⟨X, hX, KX, NX, OX⟩ := storeG (k' := 0) (p' := 0) (s' := false) (A' := none) (n' := 0) (c' := 0) (S' := ⟨#[]⟩) (B' := none) (m' := 0) (d' := 0) (e' := 1) (K1.on b5)
     rw [hX]
     exact ret_cellT rfl Tryz.underlying36 rgot_size rfl rfl KX.h rfl (retG_err 1 (by decide) ((hb8).trans (NX.low.mono (by omega))))
   · have kb : decide (k < 0) = false := decide_eq_false hk0
     by_cases hk1 : 20 < k
     · rw [if_pos (.inr hk1)] at hE
       subst hE
       have kc : decide (20 < k) = true := decide_eq_true hk1
       clear hok
       go_enter Tryz.func62, Tryz.ntmps62
       go_wp2_with (go_at_call 70; refine hfm.mono ?_; rintro e w5 ⟨rfl, b5⟩; clear e0 e1 e2 e3 e4 e5 e6 f0 f1 f2 f3 f4 f5 f6; obtain ⟨e0, e1, e2, e3, e4, e5, e6⟩ := cL7 (K1.on b5).h; obtain ⟨f0, f1, f2, f3, f4, f5, f6⟩ := fZ7 (K1.on b5).h)
       have hb8 := hbW.trans (b5.mono hbW.size)
       obtain ⟨X, hX, KX, NX, OX⟩ := storeG (k' := 0) (p' := 0) (s' := false) (A' := none) (n' := 0) (c' := 0) (S' := ⟨#[]⟩) (B' := none) (m' := 0) (d' := 0) (e' := 1) (K1.on b5)
       rw [hX]
       exact ret_cellT rfl Tryz.underlying36 rgot_size rfl rfl KX.h rfl (retG_err 1 (by decide) ((hb8).trans (NX.low.mono (by omega))))
     · rw [if_neg (by omega)] at hE
       have kc : decide (20 < k) = false := decide_eq_false hk1
       have k1 := okZ_of h1.words hok
       have I1 : IV W n1 A1 c1 l1 (toZ n1 l1) := ⟨h1.on hbW, hc1, k1.isZ⟩
       have f1' : Lz 300 (toZ n1 l1) := (len_le_iff I1).1 k1.small
       obtain ⟨p, rfl⟩ := Int.eq_ofNat_of_zero_le (show 0 ≤ k by omega)
       rw [Int.toNat_natCast] at hE
       have hL := fun W' (h : Below W.heap.size W W') => Least_i n1 A1 c1 l1 (toZ n1 l1) p (by omega) W' (I1.on h) f1' (by decide)
       rw [hE] at hL
       clear hE hk0 hk1 hok k1 f1' I1
       go_enter Tryz.func62, Tryz.ntmps62
       go_wp2_with first
        | (go_at_call 97; have hmark := b5; refine (hL _ b5).mono ?_; rintro e w8 ⟨s8, A8, c8, l8, B8, d8, rfl, I8, b8⟩; have q8 := b5.trans (b8.mono b5.size); clear e0 e1 e2 e3 e4 e5 e6 f0 f1 f2 f3 f4 f5 f6; obtain ⟨e0, e1, e2, e3, e4, e5, e6⟩ := cL7 (K1.on q8).h; obtain ⟨f0, f1, f2, f3, f4, f5, f6⟩ := fZ7 (K1.on q8).h)
        | (go_at_call 70; refine hfm.mono ?_; rintro e w5 ⟨rfl, b5⟩; clear e0 e1 e2 e3 e4 e5 e6 f0 f1 f2 f3 f4 f5 f6; obtain ⟨e0, e1, e2, e3, e4, e5, e6⟩ := cL7 (K1.on b5).h; obtain ⟨f0, f1, f2, f3, f4, f5, f6⟩ := fZ7 (K1.on b5).h; obtain ⟨x0, x1⟩ := cL2 (K0.on b5).h)
       have hb8 := hbW.trans (q8.mono hbW.size)
       obtain ⟨X, hX, KX, NX, OX⟩ := storeG (k' := kd E) (p' := (E.2.1 : Int)) (s' := s8) (A' := A8) (n' := l8.length) (c' := c8) (S' := ⟨#[]⟩) (B' := B8) (m' := 0) (d' := d8) (e' := E.2.2) (K1.on q8)
       rw [hX]
       exact ret_cellT rfl Tryz.underlying36 rgot_size rfl rfl KX.h rfl ⟨s8, A8, c8, l8, B8, d8, rfl, I8.nudge NX, (hb8).trans (NX.low.mono (by omega))⟩
end Dc
end Go.Proofs.YtjghnghceeijeaaGreatDoor
