/-
  The law NumRings: the walk.
  NumRings: the row, the card. For every input the law returns true. The integers that came in are whatever the row lets in; the digits' table reads as the program's text lays it (the card ties it).
-/
import Derived.Test.YtlhmbbpkhahbeaaDoorNumMh9
import Derived.Test.YtlhmbbpkhahbeaaDoorTie
import Derived.Test.YtlhmbbpkhahbeaaDoorCards
import Derived.SevenTiedAt
namespace Go.Proofs.YtlhmbbpkhahbeaaDoor
namespace Nm
open Go.RowKit Go.Shelf Go.BigFrame
attribute [local go_sem] Oper.semAt_some

theorem rings (a b c : Int) : a + b = b + a ∧ a + b + c = a + (b + c) ∧ a + b - b = a ∧ a * b = b * a ∧ a * b * c = a * (b * c) ∧ a * (b + c) = a * b + a * c :=
  ⟨Int.add_comm a b, Int.add_assoc a b c, Int.add_sub_cancel a b, Int.mul_comm a b, Int.mul_assoc a b c, Int.mul_add a b c⟩

theorem formed_ok {n : Bool} {l : List Nat} {m : Nat} (hw : Words l) (h : (okI n l && decide (l.length ≤ m)) = true) : OkZ n l (toZ n l) ∧ l.length ≤ m := by
  rw [Bool.and_eq_true, decide_eq_true_eq] at h
  exact ⟨okZ_of hw h.1, h.2⟩

set_option maxRecDepth 100000 in
set_option maxHeartbeats 16000000 in
theorem NumRings_calls (s1 s2 s3 : Bool) (A1 A2 A3 : Option Addr) (c1 c2 c3 : Nat) (l1 l2 l3 : List Nat) (w : World) (h1 : Rd w A1 l1) (h2 : Rd w A2 l2) (h3 : Rd w A3 l3) (hc1 : l1.length ≤ c1) (hc2 : l2.length ≤ c2) (hc3 : l3.length ≤ c3) (hd : DigW w) :
    Calls Tryd.prog 11 #[iv s1 A1 l1.length c1, iv s2 A2 l2.length c2, iv s3 A3 l3.length c3] w fun e w' => e = .returned (.bool true) ∧ Below w.heap.size w w' := by
  obtain ⟨W, hW, hbw, B1, B2, B3, hsz⟩ := three_boxes w s1 s2 s3 A1 A2 A3 c1 c2 c3 l1 l2 l3 h1 h2 h3 hc1 hc2 hc3
  have hsz1 : w.heap.size + 1 < W.heap.size := by omega
  have hsz0 : w.heap.size < W.heap.size := by omega
  have x0 := cell_at B1.blk 0 _ rfl
  have x1 := cell_at B1.blk 1 _ rfl
  have x2 := cell_at B2.blk 0 _ rfl
  have x3 := cell_at B2.blk 1 _ rfl
  have x4 := cell_at B3.blk 0 _ rfl
  have x5 := cell_at B3.blk 1 _ rfl
  have hal : ∀ o, Below W.heap.size W (W.alloc o) := fun o => (Below.refl _ W).alloc (Nat.le_refl _) _
  obtain ⟨b60, h60⟩ : ∃ b, ((okI s1 l1 && decide (l1.length ≤ 60)) && ((okI s2 l2 && decide (l2.length ≤ 60)) && (okI s3 l3 && decide (l3.length ≤ 60)))) = b := ⟨_, rfl⟩
  have f60 := lformed_three 60 W.heap.size s1 s2 s3 A1 A2 A3 c1 c2 c3 l1 l2 l3 _ (args3_blk W s1 s2 s3 A1 A2 A3 c1 c2 c3 l1 l2 l3) (B1.rd.on (hal _)) (B2.rd.on (hal _)) (B3.rd.on (hal _)) hc1 hc2 hc3 _ h60
  have hdW := hd.on hbw
  cases b60
  · clear h60
    go_enter Tryd.func11, Tryd.ntmps11
    go_wp2_with first
      | (go_at_call 17; refine (sane_calls _ (hdW.on bm)).mono ?_; rintro e w9 ⟨rfl, b9⟩)
      | (go_at_call 35; refine f60.mono ?_; rintro e w4 ⟨rfl, b4⟩; have bm := (hal (.cells #[.bool s1, .slice A1 l1.length c1, .bool s2, .slice A2 l2.length c2, .bool s3, .slice A3 l3.length c3] 24)).trans (b4.mono (hal (.cells #[.bool s1, .slice A1 l1.length c1, .bool s2, .slice A2 l2.length c2, .bool s3, .slice A3 l3.length c3] 24)).size))
    go_ret
    exact ⟨rfl, (hbw.trans (bm.mono hbw.size)).trans (b9.mono (hbw.trans (bm.mono hbw.size)).size)⟩
  · have hw1 := h1.words
    have hw2 := h2.words
    have hw3 := h3.words
    obtain ⟨p1, p23⟩ := Bool.and_eq_true_iff.1 h60
    obtain ⟨p2, p3⟩ := Bool.and_eq_true_iff.1 p23
    obtain ⟨z1, e1⟩ := formed_ok hw1 p1
    obtain ⟨z2, e2⟩ := formed_ok hw2 p2
    obtain ⟨z3, e3⟩ := formed_ok hw3 p3
    clear h60 p1 p23 p2 p3
    obtain ⟨a, ha⟩ : ∃ a, toZ s1 l1 = a := ⟨_, rfl⟩
    obtain ⟨b, hb⟩ : ∃ b, toZ s2 l2 = b := ⟨_, rfl⟩
    obtain ⟨c, hc⟩ : ∃ c, toZ s3 l3 = c := ⟨_, rfl⟩
    rw [ha] at z1
    rw [hb] at z2
    rw [hc] at z3
    clear ha hb hc
    rw [← z1.len] at e1
    rw [← z2.len] at e2
    rw [← z3.len] at e3
    have t4 := len_add e1 e2
    have t5 := len_add e2 e1
    have t6 := len_add t4 (Nat.le_trans e3 (Nat.le_succ 60))
    have t7 := len_add e2 e3
    have t8 := len_add (Nat.le_trans e1 (Nat.le_succ 60)) t7
    have t9 := len_sub t4 (Nat.le_trans e2 (Nat.le_succ 60))
    have t10 := len_mul e1 e2
    have t11 := len_mul e2 e1
    have t12 := len_mul t10 e3
    have t13 := len_mul e2 e3
    have t14 := len_mul e1 t13
    have t15 := len_mul e1 t7
    have t16 := len_mul e1 e3
    have t17 := len_add t10 t16
    have T4 := Lib.hid (Nat.le_trans t4 (show _ ≤ 300 by omega))
    have T5 := Lib.hid (Nat.le_trans t5 (show _ ≤ 300 by omega))
    have T6 := Lib.hid (Nat.le_trans t6 (show _ ≤ 300 by omega))
    have T7 := Lib.hid (Nat.le_trans t7 (show _ ≤ 300 by omega))
    have T8 := Lib.hid (Nat.le_trans t8 (show _ ≤ 300 by omega))
    have T9 := Lib.hid (Nat.le_trans t9 (show _ ≤ 300 by omega))
    have T10 := Lib.hid (Nat.le_trans t10 (show _ ≤ 300 by omega))
    have T11 := Lib.hid (Nat.le_trans t11 (show _ ≤ 300 by omega))
    have T12 := Lib.hid (Nat.le_trans t12 (show _ ≤ 300 by omega))
    have T13 := Lib.hid (Nat.le_trans t13 (show _ ≤ 300 by omega))
    have T14 := Lib.hid (Nat.le_trans t14 (show _ ≤ 300 by omega))
    have T15 := Lib.hid (Nat.le_trans t15 (show _ ≤ 300 by omega))
    have T16 := Lib.hid (Nat.le_trans t16 (show _ ≤ 300 by omega))
    have T17 := Lib.hid (Nat.le_trans t17 (show _ ≤ 300 by omega))
    clear t4 t5 t6 t7 t8 t9 t10 t11 t12 t13 t14 t15 t16 t17 e1 e2 e3
    obtain ⟨q1, q2, q3, q4, q5, q6⟩ := rings a b c
    have Q1 := Lib.hid q1
    have Q2 := Lib.hid q2
    have Q3 := Lib.hid q3
    have Q4 := Lib.hid q4
    have Q5 := Lib.hid q5
    have Q6 := Lib.hid q6
    clear q1 q2 q3 q4 q5 q6
    go_enter Tryd.func11, Tryd.ntmps11
    go_wp2_with first
      | (go_at_call 42; have hmark := by26; refine (Add_z s10 s16 A10 A16 c10 c16 l10 l16 _ _ _ B10.rd B16.rd B10.cap B16.cap z10 z16 T17.out).mono ?_; rintro e w27 ⟨s17, A17, c17, l17, rfl, z17, n17, r17, b27⟩; obtain ⟨bx27, B17⟩ := one_box w27 s17 A17 c17 l17 r17 n17; have by27 := (by26.trans (b27.mono by26.size)).trans (bx27.mono (by26.trans (b27.mono by26.size)).size); replace B1 := (B1.on b27).on bx27; replace B2 := (B2.on b27).on bx27; replace B3 := (B3.on b27).on bx27; replace B4 := (B4.on b27).on bx27; replace B5 := (B5.on b27).on bx27; replace B6 := (B6.on b27).on bx27; replace B7 := (B7.on b27).on bx27; replace B8 := (B8.on b27).on bx27; replace B9 := (B9.on b27).on bx27; replace B10 := (B10.on b27).on bx27; replace B11 := (B11.on b27).on bx27; replace B12 := (B12.on b27).on bx27; replace B13 := (B13.on b27).on bx27; replace B14 := (B14.on b27).on bx27; replace B15 := (B15.on b27).on bx27; replace B16 := (B16.on b27).on bx27; clear bx27 b27 r17 n17; clear u10a u10b; clear u16a u16b)
      | (go_at_call 39; have hmark := by25; refine (Mul_z s1 s3 A1 A3 c1 c3 l1 l3 _ _ _ B1.rd B3.rd B1.cap B3.cap z1 z3 T16.out).mono ?_; rintro e w26 ⟨s16, A16, c16, l16, rfl, z16, n16, r16, b26⟩; obtain ⟨bx26, B16⟩ := one_box w26 s16 A16 c16 l16 r16 n16; have by26 := (by25.trans (b26.mono by25.size)).trans (bx26.mono (by25.trans (b26.mono by25.size)).size); replace B1 := (B1.on b26).on bx26; replace B2 := (B2.on b26).on bx26; replace B3 := (B3.on b26).on bx26; replace B4 := (B4.on b26).on bx26; replace B5 := (B5.on b26).on bx26; replace B6 := (B6.on b26).on bx26; replace B7 := (B7.on b26).on bx26; replace B8 := (B8.on b26).on bx26; replace B9 := (B9.on b26).on bx26; replace B10 := (B10.on b26).on bx26; replace B11 := (B11.on b26).on bx26; replace B12 := (B12.on b26).on bx26; replace B13 := (B13.on b26).on bx26; replace B14 := (B14.on b26).on bx26; replace B15 := (B15.on b26).on bx26; clear bx26 b26 r16 n16; clear u1a u1b; clear u3a u3b; have u10a := cell_at B10.blk 0 _ rfl; have u10b := cell_at B10.blk 1 _ rfl; have u16a := cell_at B16.blk 0 _ rfl; have u16b := cell_at B16.blk 1 _ rfl)
      | (go_at_call 39; have hmark := by24; refine (Mul_z s1 s7 A1 A7 c1 c7 l1 l7 _ _ _ B1.rd B7.rd B1.cap B7.cap z1 z7 T15.out).mono ?_; rintro e w25 ⟨s15, A15, c15, l15, rfl, z15, n15, r15, b25⟩; obtain ⟨bx25, B15⟩ := one_box w25 s15 A15 c15 l15 r15 n15; have by25 := (by24.trans (b25.mono by24.size)).trans (bx25.mono (by24.trans (b25.mono by24.size)).size); replace B1 := (B1.on b25).on bx25; replace B2 := (B2.on b25).on bx25; replace B3 := (B3.on b25).on bx25; replace B4 := (B4.on b25).on bx25; replace B5 := (B5.on b25).on bx25; replace B6 := (B6.on b25).on bx25; replace B7 := (B7.on b25).on bx25; replace B8 := (B8.on b25).on bx25; replace B9 := (B9.on b25).on bx25; replace B10 := (B10.on b25).on bx25; replace B11 := (B11.on b25).on bx25; replace B12 := (B12.on b25).on bx25; replace B13 := (B13.on b25).on bx25; replace B14 := (B14.on b25).on bx25; clear bx25 b25 r15 n15; clear u1a u1b; clear u7a u7b; have u1a := cell_at B1.blk 0 _ rfl; have u1b := cell_at B1.blk 1 _ rfl; have u3a := cell_at B3.blk 0 _ rfl; have u3b := cell_at B3.blk 1 _ rfl)
      | (go_at_call 39; have hmark := by23; refine (Mul_z s1 s13 A1 A13 c1 c13 l1 l13 _ _ _ B1.rd B13.rd B1.cap B13.cap z1 z13 T14.out).mono ?_; rintro e w24 ⟨s14, A14, c14, l14, rfl, z14, n14, r14, b24⟩; obtain ⟨bx24, B14⟩ := one_box w24 s14 A14 c14 l14 r14 n14; have by24 := (by23.trans (b24.mono by23.size)).trans (bx24.mono (by23.trans (b24.mono by23.size)).size); replace B1 := (B1.on b24).on bx24; replace B2 := (B2.on b24).on bx24; replace B3 := (B3.on b24).on bx24; replace B4 := (B4.on b24).on bx24; replace B5 := (B5.on b24).on bx24; replace B6 := (B6.on b24).on bx24; replace B7 := (B7.on b24).on bx24; replace B8 := (B8.on b24).on bx24; replace B9 := (B9.on b24).on bx24; replace B10 := (B10.on b24).on bx24; replace B11 := (B11.on b24).on bx24; replace B12 := (B12.on b24).on bx24; replace B13 := (B13.on b24).on bx24; clear bx24 b24 r14 n14; clear u1a u1b; clear u13a u13b; have u1a := cell_at B1.blk 0 _ rfl; have u1b := cell_at B1.blk 1 _ rfl; have u7a := cell_at B7.blk 0 _ rfl; have u7b := cell_at B7.blk 1 _ rfl)
      | (go_at_call 39; have hmark := by22; refine (Mul_z s2 s3 A2 A3 c2 c3 l2 l3 _ _ _ B2.rd B3.rd B2.cap B3.cap z2 z3 T13.out).mono ?_; rintro e w23 ⟨s13, A13, c13, l13, rfl, z13, n13, r13, b23⟩; obtain ⟨bx23, B13⟩ := one_box w23 s13 A13 c13 l13 r13 n13; have by23 := (by22.trans (b23.mono by22.size)).trans (bx23.mono (by22.trans (b23.mono by22.size)).size); replace B1 := (B1.on b23).on bx23; replace B2 := (B2.on b23).on bx23; replace B3 := (B3.on b23).on bx23; replace B4 := (B4.on b23).on bx23; replace B5 := (B5.on b23).on bx23; replace B6 := (B6.on b23).on bx23; replace B7 := (B7.on b23).on bx23; replace B8 := (B8.on b23).on bx23; replace B9 := (B9.on b23).on bx23; replace B10 := (B10.on b23).on bx23; replace B11 := (B11.on b23).on bx23; replace B12 := (B12.on b23).on bx23; clear bx23 b23 r13 n13; clear u2a u2b; clear u3a u3b; have u1a := cell_at B1.blk 0 _ rfl; have u1b := cell_at B1.blk 1 _ rfl; have u13a := cell_at B13.blk 0 _ rfl; have u13b := cell_at B13.blk 1 _ rfl)
      | (go_at_call 39; have hmark := by21; refine (Mul_z s10 s3 A10 A3 c10 c3 l10 l3 _ _ _ B10.rd B3.rd B10.cap B3.cap z10 z3 T12.out).mono ?_; rintro e w22 ⟨s12, A12, c12, l12, rfl, z12, n12, r12, b22⟩; obtain ⟨bx22, B12⟩ := one_box w22 s12 A12 c12 l12 r12 n12; have by22 := (by21.trans (b22.mono by21.size)).trans (bx22.mono (by21.trans (b22.mono by21.size)).size); replace B1 := (B1.on b22).on bx22; replace B2 := (B2.on b22).on bx22; replace B3 := (B3.on b22).on bx22; replace B4 := (B4.on b22).on bx22; replace B5 := (B5.on b22).on bx22; replace B6 := (B6.on b22).on bx22; replace B7 := (B7.on b22).on bx22; replace B8 := (B8.on b22).on bx22; replace B9 := (B9.on b22).on bx22; replace B10 := (B10.on b22).on bx22; replace B11 := (B11.on b22).on bx22; clear bx22 b22 r12 n12; clear u3a u3b; clear u10a u10b; have u2a := cell_at B2.blk 0 _ rfl; have u2b := cell_at B2.blk 1 _ rfl; have u3a := cell_at B3.blk 0 _ rfl; have u3b := cell_at B3.blk 1 _ rfl)
      | (go_at_call 39; have hmark := by20; refine (Mul_z s2 s1 A2 A1 c2 c1 l2 l1 _ _ _ B2.rd B1.rd B2.cap B1.cap z2 z1 T11.out).mono ?_; rintro e w21 ⟨s11, A11, c11, l11, rfl, z11, n11, r11, b21⟩; obtain ⟨bx21, B11⟩ := one_box w21 s11 A11 c11 l11 r11 n11; have by21 := (by20.trans (b21.mono by20.size)).trans (bx21.mono (by20.trans (b21.mono by20.size)).size); replace B1 := (B1.on b21).on bx21; replace B2 := (B2.on b21).on bx21; replace B3 := (B3.on b21).on bx21; replace B4 := (B4.on b21).on bx21; replace B5 := (B5.on b21).on bx21; replace B6 := (B6.on b21).on bx21; replace B7 := (B7.on b21).on bx21; replace B8 := (B8.on b21).on bx21; replace B9 := (B9.on b21).on bx21; replace B10 := (B10.on b21).on bx21; clear bx21 b21 r11 n11; clear u1a u1b; clear u2a u2b; have u3a := cell_at B3.blk 0 _ rfl; have u3b := cell_at B3.blk 1 _ rfl; have u10a := cell_at B10.blk 0 _ rfl; have u10b := cell_at B10.blk 1 _ rfl)
      | (go_at_call 39; have hmark := by19; refine (Mul_z s1 s2 A1 A2 c1 c2 l1 l2 _ _ _ B1.rd B2.rd B1.cap B2.cap z1 z2 T10.out).mono ?_; rintro e w20 ⟨s10, A10, c10, l10, rfl, z10, n10, r10, b20⟩; obtain ⟨bx20, B10⟩ := one_box w20 s10 A10 c10 l10 r10 n10; have by20 := (by19.trans (b20.mono by19.size)).trans (bx20.mono (by19.trans (b20.mono by19.size)).size); replace B1 := (B1.on b20).on bx20; replace B2 := (B2.on b20).on bx20; replace B3 := (B3.on b20).on bx20; replace B4 := (B4.on b20).on bx20; replace B5 := (B5.on b20).on bx20; replace B6 := (B6.on b20).on bx20; replace B7 := (B7.on b20).on bx20; replace B8 := (B8.on b20).on bx20; replace B9 := (B9.on b20).on bx20; clear bx20 b20 r10 n10; clear u1a u1b; clear u2a u2b; have u1a := cell_at B1.blk 0 _ rfl; have u1b := cell_at B1.blk 1 _ rfl; have u2a := cell_at B2.blk 0 _ rfl; have u2b := cell_at B2.blk 1 _ rfl)
      | (go_at_call 43; have hmark := by18; refine (Sub_z s4 s2 A4 A2 c4 c2 l4 l2 _ _ _ B4.rd B2.rd B4.cap B2.cap z4 z2 T9.out).mono ?_; rintro e w19 ⟨s9, A9, c9, l9, rfl, z9, n9, r9, b19⟩; obtain ⟨bx19, B9⟩ := one_box w19 s9 A9 c9 l9 r9 n9; have by19 := (by18.trans (b19.mono by18.size)).trans (bx19.mono (by18.trans (b19.mono by18.size)).size); replace B1 := (B1.on b19).on bx19; replace B2 := (B2.on b19).on bx19; replace B3 := (B3.on b19).on bx19; replace B4 := (B4.on b19).on bx19; replace B5 := (B5.on b19).on bx19; replace B6 := (B6.on b19).on bx19; replace B7 := (B7.on b19).on bx19; replace B8 := (B8.on b19).on bx19; clear bx19 b19 r9 n9; clear u2a u2b; clear u4a u4b; have u1a := cell_at B1.blk 0 _ rfl; have u1b := cell_at B1.blk 1 _ rfl; have u2a := cell_at B2.blk 0 _ rfl; have u2b := cell_at B2.blk 1 _ rfl)
      | (go_at_call 42; have hmark := by17; refine (Add_z s1 s7 A1 A7 c1 c7 l1 l7 _ _ _ B1.rd B7.rd B1.cap B7.cap z1 z7 T8.out).mono ?_; rintro e w18 ⟨s8, A8, c8, l8, rfl, z8, n8, r8, b18⟩; obtain ⟨bx18, B8⟩ := one_box w18 s8 A8 c8 l8 r8 n8; have by18 := (by17.trans (b18.mono by17.size)).trans (bx18.mono (by17.trans (b18.mono by17.size)).size); replace B1 := (B1.on b18).on bx18; replace B2 := (B2.on b18).on bx18; replace B3 := (B3.on b18).on bx18; replace B4 := (B4.on b18).on bx18; replace B5 := (B5.on b18).on bx18; replace B6 := (B6.on b18).on bx18; replace B7 := (B7.on b18).on bx18; clear bx18 b18 r8 n8; clear u1a u1b; clear u7a u7b; have u2a := cell_at B2.blk 0 _ rfl; have u2b := cell_at B2.blk 1 _ rfl; have u4a := cell_at B4.blk 0 _ rfl; have u4b := cell_at B4.blk 1 _ rfl)
      | (go_at_call 42; have hmark := by16; refine (Add_z s2 s3 A2 A3 c2 c3 l2 l3 _ _ _ B2.rd B3.rd B2.cap B3.cap z2 z3 T7.out).mono ?_; rintro e w17 ⟨s7, A7, c7, l7, rfl, z7, n7, r7, b17⟩; obtain ⟨bx17, B7⟩ := one_box w17 s7 A7 c7 l7 r7 n7; have by17 := (by16.trans (b17.mono by16.size)).trans (bx17.mono (by16.trans (b17.mono by16.size)).size); replace B1 := (B1.on b17).on bx17; replace B2 := (B2.on b17).on bx17; replace B3 := (B3.on b17).on bx17; replace B4 := (B4.on b17).on bx17; replace B5 := (B5.on b17).on bx17; replace B6 := (B6.on b17).on bx17; clear bx17 b17 r7 n7; clear u2a u2b; clear u3a u3b; have u1a := cell_at B1.blk 0 _ rfl; have u1b := cell_at B1.blk 1 _ rfl; have u7a := cell_at B7.blk 0 _ rfl; have u7b := cell_at B7.blk 1 _ rfl)
      | (go_at_call 42; have hmark := by15; refine (Add_z s4 s3 A4 A3 c4 c3 l4 l3 _ _ _ B4.rd B3.rd B4.cap B3.cap z4 z3 T6.out).mono ?_; rintro e w16 ⟨s6, A6, c6, l6, rfl, z6, n6, r6, b16⟩; obtain ⟨bx16, B6⟩ := one_box w16 s6 A6 c6 l6 r6 n6; have by16 := (by15.trans (b16.mono by15.size)).trans (bx16.mono (by15.trans (b16.mono by15.size)).size); replace B1 := (B1.on b16).on bx16; replace B2 := (B2.on b16).on bx16; replace B3 := (B3.on b16).on bx16; replace B4 := (B4.on b16).on bx16; replace B5 := (B5.on b16).on bx16; clear bx16 b16 r6 n6; clear u3a u3b; clear u4a u4b; have u2a := cell_at B2.blk 0 _ rfl; have u2b := cell_at B2.blk 1 _ rfl; have u3a := cell_at B3.blk 0 _ rfl; have u3b := cell_at B3.blk 1 _ rfl)
      | (go_at_call 42; have hmark := by14; refine (Add_z s2 s1 A2 A1 c2 c1 l2 l1 _ _ _ B2.rd B1.rd B2.cap B1.cap z2 z1 T5.out).mono ?_; rintro e w15 ⟨s5, A5, c5, l5, rfl, z5, n5, r5, b15⟩; obtain ⟨bx15, B5⟩ := one_box w15 s5 A5 c5 l5 r5 n5; have by15 := (by14.trans (b15.mono by14.size)).trans (bx15.mono (by14.trans (b15.mono by14.size)).size); replace B1 := (B1.on b15).on bx15; replace B2 := (B2.on b15).on bx15; replace B3 := (B3.on b15).on bx15; replace B4 := (B4.on b15).on bx15; clear bx15 b15 r5 n5; clear u1a u1b; clear u2a u2b; have u3a := cell_at B3.blk 0 _ rfl; have u3b := cell_at B3.blk 1 _ rfl; have u4a := cell_at B4.blk 0 _ rfl; have u4b := cell_at B4.blk 1 _ rfl)
      | (go_at_call 42; have hmark := bm; refine (Add_z s1 s2 A1 A2 c1 c2 l1 l2 _ _ _ B1.rd B2.rd B1.cap B2.cap z1 z2 T4.out).mono ?_; rintro e w14 ⟨s4, A4, c4, l4, rfl, z4, n4, r4, b14⟩; obtain ⟨bx14, B4⟩ := one_box w14 s4 A4 c4 l4 r4 n4; have by14 := (bm.trans (b14.mono bm.size)).trans (bx14.mono (bm.trans (b14.mono bm.size)).size); replace B1 := (B1.on b14).on bx14; replace B2 := (B2.on b14).on bx14; replace B3 := (B3.on b14).on bx14; clear bx14 b14 r4 n4; clear u1a u1b; clear u2a u2b; have u1a := cell_at B1.blk 0 _ rfl; have u1b := cell_at B1.blk 1 _ rfl; have u2a := cell_at B2.blk 0 _ rfl; have u2b := cell_at B2.blk 1 _ rfl)
      | (go_at_call 35; refine f60.mono ?_; rintro e w4 ⟨rfl, b4⟩; have bm := (hal (.cells #[.bool s1, .slice A1 l1.length c1, .bool s2, .slice A2 l2.length c2, .bool s3, .slice A3 l3.length c3] 24)).trans (b4.mono (hal (.cells #[.bool s1, .slice A1 l1.length c1, .bool s2, .slice A2 l2.length c2, .bool s3, .slice A3 l3.length c3] 24)).size); replace B1 := B1.on bm; replace B2 := B2.on bm; replace B3 := B3.on bm; have u1a := cell_at B1.blk 0 _ rfl; have u1b := cell_at B1.blk 1 _ rfl; have u2a := cell_at B2.blk 0 _ rfl; have u2b := cell_at B2.blk 1 _ rfl)
    have hE := two_blk w27 (.cells #[.bool s17, .slice A17 l17.length c17] 24) (.cells #[.int .i64 0, .int .i64 0, .int .i64 0, .int .i64 0, .int .i64 0, .int .i64 0, .int .i64 0, .int .i64 0, .int .i64 0, .int .i64 0, .int .i64 0, .int .i64 0, .int .i64 0, .int .i64 0] 28)
    have hE2 : Below (w27.alloc (.cells #[.bool s17, .slice A17 l17.length c17] 24)).heap.size (w27.alloc (.cells #[.bool s17, .slice A17 l17.length c17] 24)) ((w27.alloc (.cells #[.bool s17, .slice A17 l17.length c17] 24)).alloc (.cells #[.int .i64 0, .int .i64 0, .int .i64 0, .int .i64 0, .int .i64 0, .int .i64 0, .int .i64 0, .int .i64 0, .int .i64 0, .int .i64 0, .int .i64 0, .int .i64 0, .int .i64 0, .int .i64 0] 28)) := (Below.refl _ _).alloc (Nat.le_refl _) _
    replace B1 := B1.on hE2
    replace B2 := B2.on hE2
    replace B3 := B3.on hE2
    replace B4 := B4.on hE2
    replace B5 := B5.on hE2
    replace B6 := B6.on hE2
    replace B7 := B7.on hE2
    replace B8 := B8.on hE2
    replace B9 := B9.on hE2
    replace B10 := B10.on hE2
    replace B11 := B11.on hE2
    replace B12 := B12.on hE2
    replace B13 := B13.on hE2
    replace B14 := B14.on hE2
    replace B15 := B15.on hE2
    replace B16 := B16.on hE2
    replace B17 := B17.on hE2
    have byX := by27.trans (hE2.mono by27.size)
    obtain ⟨X, hX⟩ : ∃ X, (w27.alloc (.cells #[.bool s17, .slice A17 l17.length c17] 24)).alloc (.cells #[.int .i64 0, .int .i64 0, .int .i64 0, .int .i64 0, .int .i64 0, .int .i64 0, .int .i64 0, .int .i64 0, .int .i64 0, .int .i64 0, .int .i64 0, .int .i64 0, .int .i64 0, .int .i64 0] 28) = X := ⟨_, rfl⟩
    rw [hX] at B1 B2 B3 B4 B5 B6 B7 B8 B9 B10 B11 B12 B13 B14 B15 B16 B17 byX hE ⊢
    clear hX hE2 hW x0 x1 x2 x3 x4 x5
    have hcell : ∀ k, k < 14 → X.cell? ⟨w27.heap.size + 1, k, none⟩ = some (.int .i64 0) := by
      intro k hk
      rcases k with _ | k
      · exact cell_at hE 0 _ rfl
      rcases k with _ | k
      · exact cell_at hE 1 _ rfl
      rcases k with _ | k
      · exact cell_at hE 2 _ rfl
      rcases k with _ | k
      · exact cell_at hE 3 _ rfl
      rcases k with _ | k
      · exact cell_at hE 4 _ rfl
      rcases k with _ | k
      · exact cell_at hE 5 _ rfl
      rcases k with _ | k
      · exact cell_at hE 6 _ rfl
      rcases k with _ | k
      · exact cell_at hE 7 _ rfl
      rcases k with _ | k
      · exact cell_at hE 8 _ rfl
      rcases k with _ | k
      · exact cell_at hE 9 _ rfl
      rcases k with _ | k
      · exact cell_at hE 10 _ rfl
      rcases k with _ | k
      · exact cell_at hE 11 _ rfl
      rcases k with _ | k
      · exact cell_at hE 12 _ rfl
      rcases k with _ | k
      · exact cell_at hE 13 _ rfl
      omega
    have Hcell := Lib.hid hcell
    have hdX := hdW.on byX
    clear hcell
    go_loop [144] (fun iv => ∃ k : Nat, iv = .int .i64 (k : Int) ∧ k ≤ 14) (fun iv => 14 - (intOf iv).toNat)
    case atStart => exact ⟨0, rfl, by omega⟩
    case round =>
      obtain ⟨k, rfl, hk⟩ := hrel
      by_cases hlt : k < 14
      · have hc := Hcell.out k hlt
        have hkI : (k : Int) < 14 := by omega
        go_wp2_with fail
        go_round
        case rel => exact ⟨k + 1, by simp, by omega⟩
        case measure => simp only [intOf]; omega
      · have hkI : ¬ (k : Int) < 14 := by omega
        go_wp2_with first
          | (go_at_call 20; have hmark := q35; refine (Same_z s15 s17 A15 A17 c15 c17 l15 l17 _ _ _ B15.rd B17.rd B15.cap B17.cap z15 z17 Q6.out).mono ?_; rintro e w36 ⟨rfl, b36⟩; have q36 := q35.trans (b36.mono q35.size); replace B1 := B1.on b36; replace B4 := B4.on b36; replace B5 := B5.on b36; replace B6 := B6.on b36; replace B8 := B8.on b36; replace B9 := B9.on b36; replace B10 := B10.on b36; replace B11 := B11.on b36; replace B12 := B12.on b36; replace B14 := B14.on b36; replace B15 := B15.on b36; replace B17 := B17.on b36; clear u15a u15b; clear u17a u17b)
          | (go_at_call 20; have hmark := q34; refine (Same_z s12 s14 A12 A14 c12 c14 l12 l14 _ _ _ B12.rd B14.rd B12.cap B14.cap z12 z14 Q5.out).mono ?_; rintro e w35 ⟨rfl, b35⟩; have q35 := q34.trans (b35.mono q34.size); replace B1 := B1.on b35; replace B4 := B4.on b35; replace B5 := B5.on b35; replace B6 := B6.on b35; replace B8 := B8.on b35; replace B9 := B9.on b35; replace B10 := B10.on b35; replace B11 := B11.on b35; replace B12 := B12.on b35; replace B14 := B14.on b35; replace B15 := B15.on b35; replace B17 := B17.on b35; clear u12a u12b; clear u14a u14b; have u15a := cell_at B15.blk 0 _ rfl; have u15b := cell_at B15.blk 1 _ rfl; have u17a := cell_at B17.blk 0 _ rfl; have u17b := cell_at B17.blk 1 _ rfl)
          | (go_at_call 20; have hmark := q33; refine (Same_z s10 s11 A10 A11 c10 c11 l10 l11 _ _ _ B10.rd B11.rd B10.cap B11.cap z10 z11 Q4.out).mono ?_; rintro e w34 ⟨rfl, b34⟩; have q34 := q33.trans (b34.mono q33.size); replace B1 := B1.on b34; replace B4 := B4.on b34; replace B5 := B5.on b34; replace B6 := B6.on b34; replace B8 := B8.on b34; replace B9 := B9.on b34; replace B10 := B10.on b34; replace B11 := B11.on b34; replace B12 := B12.on b34; replace B14 := B14.on b34; replace B15 := B15.on b34; replace B17 := B17.on b34; clear u10a u10b; clear u11a u11b; have u12a := cell_at B12.blk 0 _ rfl; have u12b := cell_at B12.blk 1 _ rfl; have u14a := cell_at B14.blk 0 _ rfl; have u14b := cell_at B14.blk 1 _ rfl)
          | (go_at_call 20; have hmark := q32; refine (Same_z s9 s1 A9 A1 c9 c1 l9 l1 _ _ _ B9.rd B1.rd B9.cap B1.cap z9 z1 Q3.out).mono ?_; rintro e w33 ⟨rfl, b33⟩; have q33 := q32.trans (b33.mono q32.size); replace B1 := B1.on b33; replace B4 := B4.on b33; replace B5 := B5.on b33; replace B6 := B6.on b33; replace B8 := B8.on b33; replace B9 := B9.on b33; replace B10 := B10.on b33; replace B11 := B11.on b33; replace B12 := B12.on b33; replace B14 := B14.on b33; replace B15 := B15.on b33; replace B17 := B17.on b33; clear u1a u1b; clear u9a u9b; have u10a := cell_at B10.blk 0 _ rfl; have u10b := cell_at B10.blk 1 _ rfl; have u11a := cell_at B11.blk 0 _ rfl; have u11b := cell_at B11.blk 1 _ rfl)
          | (go_at_call 20; have hmark := q31; refine (Same_z s6 s8 A6 A8 c6 c8 l6 l8 _ _ _ B6.rd B8.rd B6.cap B8.cap z6 z8 Q2.out).mono ?_; rintro e w32 ⟨rfl, b32⟩; have q32 := q31.trans (b32.mono q31.size); replace B1 := B1.on b32; replace B4 := B4.on b32; replace B5 := B5.on b32; replace B6 := B6.on b32; replace B8 := B8.on b32; replace B9 := B9.on b32; replace B10 := B10.on b32; replace B11 := B11.on b32; replace B12 := B12.on b32; replace B14 := B14.on b32; replace B15 := B15.on b32; replace B17 := B17.on b32; clear u6a u6b; clear u8a u8b; have u1a := cell_at B1.blk 0 _ rfl; have u1b := cell_at B1.blk 1 _ rfl; have u9a := cell_at B9.blk 0 _ rfl; have u9b := cell_at B9.blk 1 _ rfl)
          | (go_at_call 20; have hmark := q30; refine (Same_z s4 s5 A4 A5 c4 c5 l4 l5 _ _ _ B4.rd B5.rd B4.cap B5.cap z4 z5 Q1.out).mono ?_; rintro e w31 ⟨rfl, b31⟩; have q31 := q30.trans (b31.mono q30.size); replace B1 := B1.on b31; replace B4 := B4.on b31; replace B5 := B5.on b31; replace B6 := B6.on b31; replace B8 := B8.on b31; replace B9 := B9.on b31; replace B10 := B10.on b31; replace B11 := B11.on b31; replace B12 := B12.on b31; replace B14 := B14.on b31; replace B15 := B15.on b31; replace B17 := B17.on b31; clear u4a u4b; clear u5a u5b; have u6a := cell_at B6.blk 0 _ rfl; have u6b := cell_at B6.blk 1 _ rfl; have u8a := cell_at B8.blk 0 _ rfl; have u8b := cell_at B8.blk 1 _ rfl)
          | (go_at_call 17; refine (sane_calls _ hdX).mono ?_; rintro e w30 ⟨rfl, b30⟩; have q30 := byX.trans (b30.mono byX.size); replace B1 := B1.on b30; replace B4 := B4.on b30; replace B5 := B5.on b30; replace B6 := B6.on b30; replace B8 := B8.on b30; replace B9 := B9.on b30; replace B10 := B10.on b30; replace B11 := B11.on b30; replace B12 := B12.on b30; replace B14 := B14.on b30; replace B15 := B15.on b30; replace B17 := B17.on b30; have u4a := cell_at B4.blk 0 _ rfl; have u4b := cell_at B4.blk 1 _ rfl; have u5a := cell_at B5.blk 0 _ rfl; have u5b := cell_at B5.blk 1 _ rfl)
        go_ret
        exact ⟨rfl, hbw.trans (q36.mono hbw.size)⟩

end Nm
end Go.Proofs.YtlhmbbpkhahbeaaDoor
namespace Go.Proofs.YtlhmbbpkhahbeaaDoor
namespace Nm
open Go.ChangeShapes Go.WideShapes Go.ChangeAt Go.WideMaps Go.WideElems Go.RowKit

set_option maxRecDepth 100000 in
theorem numRings_lifted (os : Os) (started : os.Started) (H : Type) (enc : TypeId × Value → H) :
    ReturnsInHanded {} Tryd.checked os 11 .any (fun w args => (Rows.numRingsSpec.pre enc Tryd.prog Tryd.f11 [] false w args ∧ laidMetH Tryd.prog laidL w) ∧ sizedMet enc Tryd.prog Tryd.f11 (OpenSpec.ofChange Rows.numRingsSpec) false w args)
      (Rows.numRingsSpec.post enc Tryd.prog Tryd.f11 false true false false) := by
  refine returnsInHanded_of_change_and (C := Tryd.checked) (X := fun w _ => laidMetH Tryd.prog laidL w) (fun _ _ _ hh h => h.of_heap hh) own started (by kernel_rfl) Tryd.func11
    (ChangeSpec.witness_shaped (enc := enc) (C := Tryd.checked) (os := os) (X := fun w _ => laidMetH Tryd.prog laidL w) false (World.doorLaid Tryd.prog 14 os) #[.agg #[.bool false, .slice none 0 0], .agg #[.bool false, .slice none 0 0], .agg #[.bool false, .slice none 0 0]] 8 rfl (World.shaped_of_RefB (by kernel_rfl) (by kernel_rfl)) (by kernel_rfl) (by kernel_rfl) (by kernel_rfl) (door_met os _)) ?_
  intro W base args ds gs before hval0 hW _ hsz0 hL _
  have hval : ∀ (j : Nat) t v, Tryd.f11.params[j]? = some t → args[j]? = some v → Value.okWide Tryd.prog W .any base t v := hval0
  have hsz : (DataW.weightsEach Tryd.prog (Tryd.f11.params.toList ++ Rows.numRingsSpec.plain.varTypes Tryd.prog) (ds ++ gs)).all (· ≤ reachBytes) = true := hsz0
  have hW' := hW
  obtain ⟨p, q, hA0, hV, rfl, hfz, hnd⟩ := hW
  have hA : DataW.TrodAll enc Tryd.prog W 0 (fun _ => true) true Tryd.f11.params.toList args.toList ds p := hA0
  rw [Tryd.params11] at hA hval hsz
  obtain ⟨v0, v1, v2, d0, d1, d2, p0, p1, p2, rfl, rfl, rfl, h0, h1, h2⟩ := trodAll_three hA
  obtain ⟨rfl, rfl⟩ := trodVars_none hV
  have hw0 : ∀ n ∈ d0.weights Tryd.prog 24, n ≤ reachBytes := fun n hn => by simpa using List.all_eq_true.1 hsz n (DataW.weights_mem_each (j := 0) rfl rfl n hn)
  obtain ⟨n1, A1, c1, l1, rfl, r1, k1⟩ := open_intZ (hval 0 _ v0 rfl rfl) h0 hw0
  have hw1 : ∀ n ∈ d1.weights Tryd.prog 24, n ≤ reachBytes := fun n hn => by simpa using List.all_eq_true.1 hsz n (DataW.weights_mem_each (j := 1) rfl rfl n hn)
  obtain ⟨n2, A2, c2, l2, rfl, r2, k2⟩ := open_intZ (hval 1 _ v1 rfl rfl) h1 hw1
  have hw2 : ∀ n ∈ d2.weights Tryd.prog 24, n ≤ reachBytes := fun n hn => by simpa using List.all_eq_true.1 hsz n (DataW.weights_mem_each (j := 2) rfl rfl n hn)
  obtain ⟨n3, A3, c3, l3, rfl, r3, k3⟩ := open_intZ (hval 2 _ v2 rfl rfl) h2 hw2
  have hd := dig_of_laid hL
  clear hA0 hval0
  try simp only [List.append_nil] at hW'
  have hlt : ∀ x ∈ p0 ++ p1 ++ p2, x.block < W.heap.size := fun x hx => hW'.lt x (by simpa using hx)
  refine (NumRings_calls n1 n2 n3 A1 A2 A3 c1 c2 c3 l1 l2 l3 W r1 r2 r3 k1 k2 k3 hd).mono fun e W' ⟨he, hb⟩ => ?_
  subst he
  refine ⟨_, rfl, _, _, _, [], _, [], hW', trodAll_mk1 (shut_bool uBool true), trodAll_mk3 (Below.trod laidOut (by kernel_rfl) (of_decide_eq_true (by kernel_rfl)) h0 hb (fun x hx => hlt x (by simp [hx]))) (Below.trod laidOut (by kernel_rfl) (of_decide_eq_true (by kernel_rfl)) h1 hb (fun x hx => hlt x (by simp [hx]))) (Below.trod laidOut (by kernel_rfl) (of_decide_eq_true (by kernel_rfl)) h2 hb (fun x hx => hlt x (by simp [hx]))), rfl, hb.frame _, fun h => by cases h⟩

theorem numRings_holds : Rows.NumRingsSaid :=
  OpenClaim.holds_of_wide 11 Tryd.f11 rfl rfl rfl rfl rfl rfl rfl ⟨rfl, rfl, rfl, rfl, rfl⟩ rfl rfl rfl rfl rfl (by kernel_rfl) Tryd.func11 (by kernel_rfl)
    (of_decide_eq_true (by kernel_rfl)) (by unfold Func.isWrapper; first | (rw [if_pos (by decide +kernel)]; kernel_rfl) | (rw [if_neg (by decide +kernel)]; exact ⟨rfl, rfl⟩))
    (fun os started H enc _ => numRings_lifted os started H enc)

theorem numRings_card : Rows.NumRingsCardSaid :=
  Claim7.holds_tied_plain_at .later [] [.data] true (true, "81631b405a98d3f071c31393904156c9da5fef14bbd5c556ce9417642a36c1bb") true
    numRings_holds (fun _ h => by cases h) (by kernel_rfl) (fun _ h => by cases h) numRings_row_tie rfl ⟨rfl, rfl⟩ (by kernel_rfl) rfl
    (fun f fn hf hfn => by
      obtain rfl : f = 11 := Option.some.inj ((show Tryd.prog.funcNamed "zermelo/zermelolaw01.NumRings" = some 11 by kernel_rfl).symm.trans hf) |>.symm
      obtain rfl : fn = Tryd.f11 := (Option.some.inj (Tryd.func11.symm.trans hfn)).symm
      exact ⟨by kernel_rfl, fun j t ht => by
        have hp := Tryd.params11
        rw [hp] at ht
        have hall : (Tryd.f11.params.toList.all fun u => !Tryd.prog.wantsStandIn u) = true := by kernel_rfl
        rw [hp] at hall
        have hm := Array.mem_toList_iff.2 (Array.mem_of_getElem? ht)
        exact (show Tryd.prog.wantsStandIn t = false by simpa using List.all_eq_true.1 hall t hm)⟩)
    (by kernel_rfl)

end Nm
end Go.Proofs.YtlhmbbpkhahbeaaDoor
