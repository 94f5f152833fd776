/-
  The law NumOrder: the walk.
  NumOrder: the row, the card. For every input the law returns true. The integers that came in are whatever the row lets in; the digits' table reads as the program's text lays it (the card ties it).
-/
import Derived.Test.YtlhmbbpkhahbeaaDoorNumMhRng1
import Derived.Test.YtlhmbbpkhahbeaaDoorTie
import Derived.Test.YtlhmbbpkhahbeaaDoorCards
import Derived.SevenTiedAt
namespace Go.Proofs.YtlhmbbpkhahbeaaDoor
namespace Nm
open Go.RowKit Go.Shelf Go.BigFrame
attribute [local go_sem] Oper.semAt_some

theorem cmp_bounds (a b : Int) : -1 ≤ cmpZ a b ∧ cmpZ a b ≤ 1 := by
  unfold cmpZ
  repeat' split
  all_goals omega
theorem orders (a b c : Int) : cmpZ (a + c) (b + c) = cmpZ a b ∧ cmpZ b a = -cmpZ a b ∧ (0 < cmpZ a b ∨ 0 < cmpZ b c ∨ cmpZ a c ≤ 0) ∧ (cmpZ a b < 0 ∨ cmpZ b c < 0 ∨ 0 ≤ cmpZ a c) ∧ (decide (a = b) = (cmpZ a b == 0)) := by
  refine ⟨?_, ?_, ?_, ?_, ?_⟩
  · unfold cmpZ
    by_cases h1 : a < b
    · rw [if_pos h1, if_pos (by omega)]
    · rw [if_neg h1, if_neg (by omega)]
      by_cases h2 : b < a
      · rw [if_pos h2, if_pos (by omega)]
      · rw [if_neg h2, if_neg (by omega)]
  · unfold cmpZ; split <;> split <;> (try split) <;> omega
  · unfold cmpZ; repeat' split
    all_goals omega
  · unfold cmpZ; repeat' split
    all_goals omega
  · by_cases h : a = b
    · subst h
      have : cmpZ a a = 0 := by unfold cmpZ; rw [if_neg (by omega), if_neg (by omega)]
      rw [this]; simp
    · have : cmpZ a b ≠ 0 := by unfold cmpZ; repeat' split
                                all_goals omega
      rw [decide_eq_false h, eq_comm, beq_eq_false_iff_ne]
      exact this

set_option maxRecDepth 100000 in
set_option maxHeartbeats 16000000 in
theorem NumOrder_calls (s1 s2 s3 : Bool) (A1 A2 A3 : Option Addr) (c1 c2 c3 : Nat) (l1 l2 l3 : List Nat) (w : World) (h1 : Rd w A1 l1) (h2 : Rd w A2 l2) (h3 : Rd w A3 l3) (hc1 : l1.length ≤ c1) (hc2 : l2.length ≤ c2) (hc3 : l3.length ≤ c3) (hd : DigW w) :
    Calls Tryd.prog 12 #[iv s1 A1 l1.length c1, iv s2 A2 l2.length c2, iv s3 A3 l3.length c3] w fun e w' => e = .returned (.bool true) ∧ Below w.heap.size w w' := by
  obtain ⟨W, hW, hbw, B1, B2, B3, hsz⟩ := three_boxes w s1 s2 s3 A1 A2 A3 c1 c2 c3 l1 l2 l3 h1 h2 h3 hc1 hc2 hc3
  have hsz1 : w.heap.size + 1 < W.heap.size := by omega
  have hsz0 : w.heap.size < W.heap.size := by omega
  have x0 := cell_at B1.blk 0 _ rfl
  have x1 := cell_at B1.blk 1 _ rfl
  have x2 := cell_at B2.blk 0 _ rfl
  have x3 := cell_at B2.blk 1 _ rfl
  have x4 := cell_at B3.blk 0 _ rfl
  have x5 := cell_at B3.blk 1 _ rfl
  have hal : ∀ o, Below W.heap.size W (W.alloc o) := fun o => (Below.refl _ W).alloc (Nat.le_refl _) _
  obtain ⟨b60, h60⟩ : ∃ b, ((okI s1 l1 && decide (l1.length ≤ 100)) && ((okI s2 l2 && decide (l2.length ≤ 100)) && (okI s3 l3 && decide (l3.length ≤ 100)))) = b := ⟨_, rfl⟩
  have f60 := lformed_three 100 W.heap.size s1 s2 s3 A1 A2 A3 c1 c2 c3 l1 l2 l3 _ (args3_blk W s1 s2 s3 A1 A2 A3 c1 c2 c3 l1 l2 l3) (B1.rd.on (hal _)) (B2.rd.on (hal _)) (B3.rd.on (hal _)) hc1 hc2 hc3 _ h60
  have hdW := hd.on hbw
  cases b60
  · clear h60
    go_enter Tryd.func12, Tryd.ntmps12
    go_wp2_with first
      | (go_at_call 17; refine (sane_calls _ (hdW.on bm)).mono ?_; rintro e w9 ⟨rfl, b9⟩)
      | (go_at_call 35; refine f60.mono ?_; rintro e w4 ⟨rfl, b4⟩; have bm := (hal (.cells #[.bool s1, .slice A1 l1.length c1, .bool s2, .slice A2 l2.length c2, .bool s3, .slice A3 l3.length c3] 24)).trans (b4.mono (hal (.cells #[.bool s1, .slice A1 l1.length c1, .bool s2, .slice A2 l2.length c2, .bool s3, .slice A3 l3.length c3] 24)).size))
    go_ret
    exact ⟨rfl, (hbw.trans (bm.mono hbw.size)).trans (b9.mono (hbw.trans (bm.mono hbw.size)).size)⟩
  · have hw1 := h1.words
    have hw2 := h2.words
    have hw3 := h3.words
    obtain ⟨p1, p23⟩ := Bool.and_eq_true_iff.1 h60
    obtain ⟨p2, p3⟩ := Bool.and_eq_true_iff.1 p23
    obtain ⟨z1, e1⟩ := formed_ok hw1 p1
    obtain ⟨z2, e2⟩ := formed_ok hw2 p2
    obtain ⟨z3, e3⟩ := formed_ok hw3 p3
    clear h60 p1 p23 p2 p3
    obtain ⟨a, ha⟩ : ∃ a, toZ s1 l1 = a := ⟨_, rfl⟩
    obtain ⟨b, hb⟩ : ∃ b, toZ s2 l2 = b := ⟨_, rfl⟩
    obtain ⟨c, hc⟩ : ∃ c, toZ s3 l3 = c := ⟨_, rfl⟩
    rw [ha] at z1
    rw [hb] at z2
    rw [hc] at z3
    clear ha hb hc
    rw [← z1.len] at e1
    rw [← z2.len] at e2
    rw [← z3.len] at e3
    have T4 := Lib.hid (Nat.le_trans (len_add e1 e3) (show 100 + 1 ≤ 300 by decide))
    have T5 := Lib.hid (Nat.le_trans (len_add e2 e3) (show 100 + 1 ≤ 300 by decide))
    obtain ⟨q1, q2, q3, q4, q5⟩ := orders a b c
    obtain ⟨x, hx⟩ : ∃ x, cmpZ a b = x := ⟨_, rfl⟩
    obtain ⟨y, hy⟩ : ∃ y, cmpZ b c = y := ⟨_, rfl⟩
    obtain ⟨z, hz⟩ : ∃ z, cmpZ a c = z := ⟨_, rfl⟩
    rw [hx] at q1 q2 q3 q4 q5
    rw [hy] at q3 q4
    rw [hz] at q3 q4
    have K1 := fun W' h1 h2 k1 k2 => Compare_z s1 s2 A1 A2 c1 c2 l1 l2 a b W' h1 h2 k1 k2 z1 z2
    have K2 := fun W' h1 h2 k1 k2 => Compare_z s2 s3 A2 A3 c2 c3 l2 l3 b c W' h1 h2 k1 k2 z2 z3
    have K3 := fun W' h1 h2 k1 k2 => Compare_z s1 s3 A1 A3 c1 c3 l1 l3 a c W' h1 h2 k1 k2 z1 z3
    have K4 := fun W' h1 h2 k1 k2 => Compare_z s2 s1 A2 A1 c2 c1 l2 l1 b a W' h1 h2 k1 k2 z2 z1
    have K5 := fun W' s A cc l s' A' cc' l' h1 h2 k1 k2 z1 z2 => Compare_z s s' A A' cc cc' l l' (a + c) (b + c) W' h1 h2 k1 k2 z1 z2
    have K6 := fun W' h1 h2 k1 k2 => Same_calls s1 s2 A1 A2 c1 c2 l1 l2 W' h1 h2 k1 k2
    rw [hx] at K1
    rw [hy] at K2
    rw [hz] at K3
    rw [q2] at K4
    rw [q1] at K5
    rw [sameI_z z1.isZ z2.isZ, q5] at K6
    have bx1 : -1 ≤ x ∧ x ≤ 1 := by rw [← hx]; exact cmp_bounds a b
    obtain ⟨bx1, bx2⟩ := bx1
    have Q3 := Lib.hid q3
    have Q4 := Lib.hid q4
    clear q1 q2 q3 q4 q5 hx hy hz e1 e2 e3
    go_enter Tryd.func12, Tryd.ntmps12
    go_wp2_with first
      | (go_at_call 35; refine f60.mono ?_; rintro e X ⟨rfl, b4⟩; have byX := (hal (.cells #[.bool s1, .slice A1 l1.length c1, .bool s2, .slice A2 l2.length c2, .bool s3, .slice A3 l3.length c3] 24)).trans (b4.mono (hal (.cells #[.bool s1, .slice A1 l1.length c1, .bool s2, .slice A2 l2.length c2, .bool s3, .slice A3 l3.length c3] 24)).size); replace B1 := B1.on byX; replace B2 := B2.on byX; replace B3 := B3.on byX)
    have hdX := hdW.on byX
    clear hW x0 x1 x2 x3 x4 x5
    have y1a : X.cell? ⟨w.heap.size, 0, none⟩ = some (.bool s1) := cell_at B1.blk 0 _ rfl
    have y1b : X.cell? ⟨w.heap.size, 1, none⟩ = some (.slice A1 l1.length c1) := cell_at B1.blk 1 _ rfl
    have y2a : X.cell? ⟨w.heap.size + 1, 0, none⟩ = some (.bool s2) := cell_at B2.blk 0 _ rfl
    have y2b : X.cell? ⟨w.heap.size + 1, 1, none⟩ = some (.slice A2 l2.length c2) := cell_at B2.blk 1 _ rfl
    have y3a : X.cell? ⟨w.heap.size + 1 + 1, 0, none⟩ = some (.bool s3) := cell_at B3.blk 0 _ rfl
    have y3b : X.cell? ⟨w.heap.size + 1 + 1, 1, none⟩ = some (.slice A3 l3.length c3) := cell_at B3.blk 1 _ rfl
    go_region_held3 (fun w'' => w''.cell? ⟨w.heap.size, 0, none⟩ = some (.bool s1) ∧ w''.cell? ⟨w.heap.size, 1, none⟩ = some (.slice A1 l1.length c1) ∧ w''.cell? ⟨w.heap.size + 1, 0, none⟩ = some (.bool s2) ∧ w''.cell? ⟨w.heap.size + 1, 1, none⟩ = some (.slice A2 l2.length c2) ∧ w''.cell? ⟨w.heap.size + 1 + 1, 0, none⟩ = some (.bool s3) ∧ w''.cell? ⟨w.heap.size + 1 + 1, 1, none⟩ = some (.slice A3 l3.length c3)) ((first | (with_reducible exact ⟨y1a, y1b, y2a, y2b, y3a, y3b⟩) | exact ⟨y1a, y1b, y2a, y2b, y3a, y3b⟩))
      ((first
        | (go_at_call 47; have hmark := q51; refine (K3 w51 (B1.rd.on q51) (B3.rd.on q51) B1.cap B3.cap).mono ?_; rintro e w52 ⟨rfl, b52⟩; clear y1a y1b y2a y2b y3a y3b; have q52 := q51.trans (b52.mono q51.size); have y1a : w52.cell? ⟨w.heap.size, 0, none⟩ = some (.bool s1) := cell_at (B1.on q52).blk 0 _ rfl; have y1b : w52.cell? ⟨w.heap.size, 1, none⟩ = some (.slice A1 l1.length c1) := cell_at (B1.on q52).blk 1 _ rfl; have y2a : w52.cell? ⟨w.heap.size + 1, 0, none⟩ = some (.bool s2) := cell_at (B2.on q52).blk 0 _ rfl; have y2b : w52.cell? ⟨w.heap.size + 1, 1, none⟩ = some (.slice A2 l2.length c2) := cell_at (B2.on q52).blk 1 _ rfl; have y3a : w52.cell? ⟨w.heap.size + 1 + 1, 0, none⟩ = some (.bool s3) := cell_at (B3.on q52).blk 0 _ rfl; have y3b : w52.cell? ⟨w.heap.size + 1 + 1, 1, none⟩ = some (.slice A3 l3.length c3) := cell_at (B3.on q52).blk 1 _ rfl)
        | (go_at_call 47; have hmark := q50; refine (K2 w50 (B2.rd.on q50) (B3.rd.on q50) B2.cap B3.cap).mono ?_; rintro e w51 ⟨rfl, b51⟩; clear y1a y1b y2a y2b y3a y3b; have q51 := q50.trans (b51.mono q50.size); have y1a : w51.cell? ⟨w.heap.size, 0, none⟩ = some (.bool s1) := cell_at (B1.on q51).blk 0 _ rfl; have y1b : w51.cell? ⟨w.heap.size, 1, none⟩ = some (.slice A1 l1.length c1) := cell_at (B1.on q51).blk 1 _ rfl; have y2a : w51.cell? ⟨w.heap.size + 1, 0, none⟩ = some (.bool s2) := cell_at (B2.on q51).blk 0 _ rfl; have y2b : w51.cell? ⟨w.heap.size + 1, 1, none⟩ = some (.slice A2 l2.length c2) := cell_at (B2.on q51).blk 1 _ rfl; have y3a : w51.cell? ⟨w.heap.size + 1 + 1, 0, none⟩ = some (.bool s3) := cell_at (B3.on q51).blk 0 _ rfl; have y3b : w51.cell? ⟨w.heap.size + 1 + 1, 1, none⟩ = some (.slice A3 l3.length c3) := cell_at (B3.on q51).blk 1 _ rfl)
        | (go_at_call 47; refine (K1 _ (B1.rd.on (below_drew (Below.refl _ X))) (B2.rd.on (below_drew (Below.refl _ X))) B1.cap B2.cap).mono ?_; rintro e w50 ⟨rfl, b50⟩; clear y1a y1b y2a y2b y3a y3b; have q50 := (below_drew (Below.refl _ X)).trans b50; have y1a : w50.cell? ⟨w.heap.size, 0, none⟩ = some (.bool s1) := cell_at (B1.on q50).blk 0 _ rfl; have y1b : w50.cell? ⟨w.heap.size, 1, none⟩ = some (.slice A1 l1.length c1) := cell_at (B1.on q50).blk 1 _ rfl; have y2a : w50.cell? ⟨w.heap.size + 1, 0, none⟩ = some (.bool s2) := cell_at (B2.on q50).blk 0 _ rfl; have y2b : w50.cell? ⟨w.heap.size + 1, 1, none⟩ = some (.slice A2 l2.length c2) := cell_at (B2.on q50).blk 1 _ rfl; have y3a : w50.cell? ⟨w.heap.size + 1 + 1, 0, none⟩ = some (.bool s3) := cell_at (B3.on q50).blk 0 _ rfl; have y3b : w50.cell? ⟨w.heap.size + 1 + 1, 1, none⟩ = some (.slice A3 l3.length c3) := cell_at (B3.on q50).blk 1 _ rfl)))
    replace B1 := B1.on q52
    replace B2 := B2.on q52
    replace B3 := B3.on q52
    have bb := byX.trans (q52.mono byX.size)
    have hdY := hdX.on q52
    have u1a := cell_at B1.blk 0 _ rfl
    have u1b := cell_at B1.blk 1 _ rfl
    have u3a := cell_at B3.blk 0 _ rfl
    have u3b := cell_at B3.blk 1 _ rfl
    go_wp2_with first
      | (go_at_call 20; refine (K6 _ B1.rd B2.rd B1.cap B2.cap).mono ?_; rintro e w65 ⟨rfl, b65⟩; have q65 := q64.trans (b65.mono q64.size); replace B1 := B1.on b65; replace B2 := B2.on b65; replace B4 := B4.on b65; replace B5 := B5.on b65; replace hdY := hdY.on b65; clear b65)
      | (go_at_call 47; have hmark := q63; refine (K4 _ B2.rd B1.rd B2.cap B1.cap).mono ?_; rintro e w64 ⟨rfl, b64⟩; have q64 := q63.trans (b64.mono q63.size); replace B1 := B1.on b64; replace B2 := B2.on b64; replace B4 := B4.on b64; replace B5 := B5.on b64; replace hdY := hdY.on b64; clear b64; clear u1a u1b u2a u2b; have u1a := cell_at B1.blk 0 _ rfl; have u1b := cell_at B1.blk 1 _ rfl; have u2a := cell_at B2.blk 0 _ rfl; have u2b := cell_at B2.blk 1 _ rfl)
      | (go_at_call 17; refine (sane_calls _ hdY).mono ?_; rintro e w63 ⟨rfl, b63⟩; have q63 := q62.trans (b63.mono q62.size); replace B1 := B1.on b63; replace B2 := B2.on b63; replace B4 := B4.on b63; replace B5 := B5.on b63; replace hdY := hdY.on b63; clear b63; have u1a := cell_at B1.blk 0 _ rfl; have u1b := cell_at B1.blk 1 _ rfl; have u2a := cell_at B2.blk 0 _ rfl; have u2b := cell_at B2.blk 1 _ rfl)
      | (go_at_call 47; have hmark := by61; refine (K5 _ s4 A4 c4 l4 s5 A5 c5 l5 B4.rd B5.rd B4.cap B5.cap z4 z5).mono ?_; rintro e w62 ⟨rfl, b62⟩; have q62 := by61.trans (b62.mono by61.size); replace B1 := B1.on b62; replace B2 := B2.on b62; replace B4 := B4.on b62; replace B5 := B5.on b62; replace hdY := hdY.on b62; clear b62; clear u4a u4b u5a u5b)
      | (go_at_call 42; have hmark := by60; refine (Add_z s2 s3 A2 A3 c2 c3 l2 l3 b c _ B2.rd B3.rd B2.cap B3.cap z2 z3 T5.out).mono ?_; rintro e w61 ⟨s5, A5, c5, l5, rfl, z5, n5, r5, b61⟩; obtain ⟨bx61, B5⟩ := one_box w61 s5 A5 c5 l5 r5 n5; have by61 := (by60.trans (b61.mono by60.size)).trans (bx61.mono (by60.trans (b61.mono by60.size)).size); replace B1 := (B1.on b61).on bx61; replace B2 := (B2.on b61).on bx61; replace B3 := (B3.on b61).on bx61; replace B4 := (B4.on b61).on bx61; replace hdY := (hdY.on b61).on bx61; clear bx61 b61 r5 n5; clear u2a u2b u3a u3b; have u4a := cell_at B4.blk 0 _ rfl; have u4b := cell_at B4.blk 1 _ rfl; have u5a := cell_at B5.blk 0 _ rfl; have u5b := cell_at B5.blk 1 _ rfl)
      | (go_at_call 42; refine (Add_z s1 s3 A1 A3 c1 c3 l1 l3 a c _ B1.rd B3.rd B1.cap B3.cap z1 z3 T4.out).mono ?_; rintro e w60 ⟨s4, A4, c4, l4, rfl, z4, n4, r4, b60⟩; obtain ⟨bx60, B4⟩ := one_box w60 s4 A4 c4 l4 r4 n4; have by60 := (bb.trans (b60.mono bb.size)).trans (bx60.mono (bb.trans (b60.mono bb.size)).size); replace B1 := (B1.on b60).on bx60; replace B2 := (B2.on b60).on bx60; replace B3 := (B3.on b60).on bx60; replace hdY := (hdY.on b60).on bx60; clear bx60 b60 r4 n4; clear u1a u1b u3a u3b; have u2a := cell_at B2.blk 0 _ rfl; have u2b := cell_at B2.blk 1 _ rfl; have u3a := cell_at B3.blk 0 _ rfl; have u3b := cell_at B3.blk 1 _ rfl)
    all_goals go_ret
    all_goals refine ⟨?_, hbw.trans (q65.mono hbw.size)⟩
    all_goals refine congrArg (fun b => Ending.returned (Value.bool b)) (a₂ := true) ?_
    all_goals (have h3 := Q3.out; have h4 := Q4.out; first | rfl | (simp only [Bool.and_eq_true, Bool.or_eq_true, decide_eq_true_eq]; omega) | (exfalso; omega) | (exfalso; rename_i hx1 hx2 hx3; rw [if_pos hx3] at hx1; injection hx1 with hx1; injection hx1 with hx1; exact hx2 hx1.symm))

end Nm
end Go.Proofs.YtlhmbbpkhahbeaaDoor
namespace Go.Proofs.YtlhmbbpkhahbeaaDoor
namespace Nm
open Go.ChangeShapes Go.WideShapes Go.ChangeAt Go.WideMaps Go.WideElems Go.RowKit

set_option maxRecDepth 100000 in
theorem numOrder_lifted (os : Os) (started : os.Started) (H : Type) (enc : TypeId × Value → H) :
    ReturnsInHanded {} Tryd.checked os 12 .any (fun w args => (Rows.numOrderSpec.pre enc Tryd.prog Tryd.f12 [] false w args ∧ laidMetH Tryd.prog laidL w) ∧ sizedMet enc Tryd.prog Tryd.f12 (OpenSpec.ofChange Rows.numOrderSpec) false w args)
      (Rows.numOrderSpec.post enc Tryd.prog Tryd.f12 false true false false) := by
  refine returnsInHanded_of_change_and (C := Tryd.checked) (X := fun w _ => laidMetH Tryd.prog laidL w) (fun _ _ _ hh h => h.of_heap hh) own started (by kernel_rfl) Tryd.func12
    (ChangeSpec.witness_shaped (enc := enc) (C := Tryd.checked) (os := os) (X := fun w _ => laidMetH Tryd.prog laidL w) false (World.doorLaid Tryd.prog 14 os) #[.agg #[.bool false, .slice none 0 0], .agg #[.bool false, .slice none 0 0], .agg #[.bool false, .slice none 0 0]] 8 rfl (World.shaped_of_RefB (by kernel_rfl) (by kernel_rfl)) (by kernel_rfl) (by kernel_rfl) (by kernel_rfl) (door_met os _)) ?_
  intro W base args ds gs before hval0 hW _ hsz0 hL _
  have hval : ∀ (j : Nat) t v, Tryd.f12.params[j]? = some t → args[j]? = some v → Value.okWide Tryd.prog W .any base t v := hval0
  have hsz : (DataW.weightsEach Tryd.prog (Tryd.f12.params.toList ++ Rows.numOrderSpec.plain.varTypes Tryd.prog) (ds ++ gs)).all (· ≤ reachBytes) = true := hsz0
  have hW' := hW
  obtain ⟨p, q, hA0, hV, rfl, hfz, hnd⟩ := hW
  have hA : DataW.TrodAll enc Tryd.prog W 0 (fun _ => true) true Tryd.f12.params.toList args.toList ds p := hA0
  rw [Tryd.params12] at hA hval hsz
  obtain ⟨v0, v1, v2, d0, d1, d2, p0, p1, p2, rfl, rfl, rfl, h0, h1, h2⟩ := trodAll_three hA
  obtain ⟨rfl, rfl⟩ := trodVars_none hV
  have hw0 : ∀ n ∈ d0.weights Tryd.prog 24, n ≤ reachBytes := fun n hn => by simpa using List.all_eq_true.1 hsz n (DataW.weights_mem_each (j := 0) rfl rfl n hn)
  obtain ⟨n1, A1, c1, l1, rfl, r1, k1⟩ := open_intZ (hval 0 _ v0 rfl rfl) h0 hw0
  have hw1 : ∀ n ∈ d1.weights Tryd.prog 24, n ≤ reachBytes := fun n hn => by simpa using List.all_eq_true.1 hsz n (DataW.weights_mem_each (j := 1) rfl rfl n hn)
  obtain ⟨n2, A2, c2, l2, rfl, r2, k2⟩ := open_intZ (hval 1 _ v1 rfl rfl) h1 hw1
  have hw2 : ∀ n ∈ d2.weights Tryd.prog 24, n ≤ reachBytes := fun n hn => by simpa using List.all_eq_true.1 hsz n (DataW.weights_mem_each (j := 2) rfl rfl n hn)
  obtain ⟨n3, A3, c3, l3, rfl, r3, k3⟩ := open_intZ (hval 2 _ v2 rfl rfl) h2 hw2
  have hd := dig_of_laid hL
  clear hA0 hval0
  try simp only [List.append_nil] at hW'
  have hlt : ∀ x ∈ p0 ++ p1 ++ p2, x.block < W.heap.size := fun x hx => hW'.lt x (by simpa using hx)
  refine (NumOrder_calls n1 n2 n3 A1 A2 A3 c1 c2 c3 l1 l2 l3 W r1 r2 r3 k1 k2 k3 hd).mono fun e W' ⟨he, hb⟩ => ?_
  subst he
  refine ⟨_, rfl, _, _, _, [], _, [], hW', trodAll_mk1 (shut_bool uBool true), trodAll_mk3 (Below.trod laidOut (by kernel_rfl) (of_decide_eq_true (by kernel_rfl)) h0 hb (fun x hx => hlt x (by simp [hx]))) (Below.trod laidOut (by kernel_rfl) (of_decide_eq_true (by kernel_rfl)) h1 hb (fun x hx => hlt x (by simp [hx]))) (Below.trod laidOut (by kernel_rfl) (of_decide_eq_true (by kernel_rfl)) h2 hb (fun x hx => hlt x (by simp [hx]))), rfl, hb.frame _, fun h => by cases h⟩

theorem numOrder_holds : Rows.NumOrderSaid :=
  OpenClaim.holds_of_wide 12 Tryd.f12 rfl rfl rfl rfl rfl rfl rfl ⟨rfl, rfl, rfl, rfl, rfl⟩ rfl rfl rfl rfl rfl (by kernel_rfl) Tryd.func12 (by kernel_rfl)
    (of_decide_eq_true (by kernel_rfl)) (by unfold Func.isWrapper; first | (rw [if_pos (by decide +kernel)]; kernel_rfl) | (rw [if_neg (by decide +kernel)]; exact ⟨rfl, rfl⟩))
    (fun os started H enc _ => numOrder_lifted os started H enc)

theorem numOrder_card : Rows.NumOrderCardSaid :=
  Claim7.holds_tied_plain_at .later [] [.data] true (true, "81631b405a98d3f071c31393904156c9da5fef14bbd5c556ce9417642a36c1bb") true
    numOrder_holds (fun _ h => by cases h) (by kernel_rfl) (fun _ h => by cases h) numOrder_row_tie rfl ⟨rfl, rfl⟩ (by kernel_rfl) rfl
    (fun f fn hf hfn => by
      obtain rfl : f = 12 := Option.some.inj ((show Tryd.prog.funcNamed "zermelo/zermelolaw01.NumOrder" = some 12 by kernel_rfl).symm.trans hf) |>.symm
      obtain rfl : fn = Tryd.f12 := (Option.some.inj (Tryd.func12.symm.trans hfn)).symm
      exact ⟨by kernel_rfl, fun j t ht => by
        have hp := Tryd.params12
        rw [hp] at ht
        have hall : (Tryd.f12.params.toList.all fun u => !Tryd.prog.wantsStandIn u) = true := by kernel_rfl
        rw [hp] at hall
        have hm := Array.mem_toList_iff.2 (Array.mem_of_getElem? ht)
        exact (show Tryd.prog.wantsStandIn t = false by simpa using List.all_eq_true.1 hall t hm)⟩)
    (by kernel_rfl)

end Nm
end Go.Proofs.YtlhmbbpkhahbeaaDoor
