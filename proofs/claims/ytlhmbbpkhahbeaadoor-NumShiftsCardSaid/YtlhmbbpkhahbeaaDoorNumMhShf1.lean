/-
  The law NumShifts: the walk.
  NumShifts: the row, the card. For every input the law returns true. The integers that came in are whatever the row lets in; the digits' table reads as the program's text lays it (the card ties it).
-/
import Derived.Test.YtlhmbbpkhahbeaaDoorNumMhDvs1
import Derived.Test.YtlhmbbpkhahbeaaDoorTie
import Derived.Test.YtlhmbbpkhahbeaaDoorCards
import Derived.SevenTiedAt
namespace Go.Proofs.YtlhmbbpkhahbeaaDoor
namespace Nm
open Go.RowKit Go.Shelf Go.BigFrame
attribute [local go_sem] Oper.semAt_some

theorem blen_shift {a : Nat} (n : Nat) (ha : a ≠ 0) : blen (a * 2 ^ n) = blen a + n := by
  refine blen_of ?_ ?_
  · rw [Nat.pow_add]; exact Nat.mul_lt_mul_of_pos_right (blen_lt a) (Nat.two_pow_pos n)
  · rw [Nat.pow_add, ← Nat.mul_assoc]; exact Nat.mul_le_mul_right _ (blen_le ha)
theorem blen_down (a n : Nat) : blen (a / 2 ^ n) = blen a - n := by
  rcases Nat.lt_or_ge n (blen a) with h | h
  · have ha : a ≠ 0 := by rintro rfl; simp [blen] at h
    obtain ⟨k, hk⟩ : ∃ k, blen a = k + 1 + n := ⟨blen a - n - 1, by omega⟩
    have h1 := blen_lt a
    have h2 := blen_le ha
    rw [hk] at h1 h2 ⊢
    rw [show k + 1 + n - n = k + 1 by omega]
    refine blen_of ?_ ?_
    · rw [Nat.div_lt_iff_lt_mul (Nat.two_pow_pos n), ← Nat.pow_add]; exact h1
    · have h3 : 2 ^ k * 2 ^ n ≤ a := by
        rw [← Nat.pow_add]
        rw [show k + 1 + n = k + n + 1 by omega, Nat.pow_succ] at h2
        omega
      have h4 := (Nat.le_div_iff_mul_le (Nat.two_pow_pos n)).2 h3
      rw [Nat.pow_succ]; omega
  · have h1 : a < 2 ^ n := Nat.lt_of_lt_of_le (blen_lt a) (Nat.pow_le_pow_right (by decide) h)
    rw [Nat.div_eq_of_lt h1, blen_zero]; omega
theorem pow_nat (n : Nat) : ((2 : Int) ^ n) = ((2 ^ n : Nat) : Int) := by rw [Int.natCast_pow]; rfl
theorem shift_facts (a n : Nat) : divZ ((a : Int) * 2 ^ n) (2 ^ n) = a ∧ modZ ((a : Int) * 2 ^ n) (2 ^ n) = 0 ∧ divZ (a : Int) (2 ^ n) = ((a / 2 ^ n : Nat) : Int) := by
  have hp : (0 : Int) < 2 ^ n := by rw [pow_nat]; exact_mod_cast Nat.two_pow_pos n
  have h1 : divZ ((a : Int) * 2 ^ n) (2 ^ n) = a := by unfold divZ; rw [if_pos hp]; exact Int.mul_ediv_cancel _ (by omega)
  refine ⟨h1, ?_, ?_⟩
  · unfold modZ; rw [h1, Int.mul_comm]; omega
  · unfold divZ; rw [if_pos hp, pow_nat]; rfl

set_option maxRecDepth 100000 in
set_option maxHeartbeats 16000000 in
theorem NumShifts_calls (s1 : Bool) (A1 : Option Addr) (c1 : Nat) (l1 : List Nat) (n : Nat) (w : World) (h1 : Rd w A1 l1) (hc1 : l1.length ≤ c1) (hn : n < 256) (hd : DigW w) :
    Calls Tryd.prog 9 #[iv s1 A1 l1.length c1, .int .u8 (n : Int)] w fun e w' => e = .returned (.bool true) ∧ Below w.heap.size w w' := by
  obtain ⟨hbw, B1⟩ := one_box w s1 A1 c1 l1 h1 hc1
  obtain ⟨W, hW⟩ : ∃ W, w.alloc (.cells #[.bool s1, .slice A1 l1.length c1] 24) = W := ⟨_, rfl⟩
  rw [hW] at hbw B1
  have hsz0 : w.heap.size < W.heap.size := by rw [← hW]; simp
  have x0 := cell_at B1.blk 0 _ rfl
  have x1 := cell_at B1.blk 1 _ rfl
  have hal : ∀ o, Below W.heap.size W (W.alloc o) := fun o => (Below.refl _ W).alloc (Nat.le_refl _) _
  obtain ⟨b60, h60⟩ : ∃ b, (okI s1 l1 && decide (l1.length ≤ 60)) = b := ⟨_, rfl⟩
  have f60 := lformed_one 60 W.heap.size s1 A1 c1 l1 _ (World.alloc_heap_new W (.cells #[.bool s1, .slice A1 l1.length c1] 24)) (B1.rd.on (hal _)) hc1 _ h60
  have hdW := hd.on hbw
  cases b60
  · clear h60
    go_enter Tryd.func9, Tryd.ntmps9
    go_wp2_with first
      | (go_at_call 17; refine (sane_calls _ (hdW.on bm)).mono ?_; rintro e w9 ⟨rfl, b9⟩)
      | (go_at_call 35; refine f60.mono ?_; rintro e w4 ⟨rfl, b4⟩; have bm := (hal (.cells #[.bool s1, .slice A1 l1.length c1] 24)).trans (b4.mono (hal (.cells #[.bool s1, .slice A1 l1.length c1] 24)).size))
    go_ret
    exact ⟨rfl, (hbw.trans (bm.mono hbw.size)).trans (b9.mono (hbw.trans (bm.mono hbw.size)).size)⟩
  · have hw1 := h1.words
    obtain ⟨z1, e1⟩ := formed_ok hw1 h60
    clear h60
    cases s1
    · obtain ⟨a, ha⟩ : ∃ a, val l1 = a := ⟨_, rfl⟩
      have za : toZ false l1 = (a : Int) := by rw [← ha]; rfl
      rw [za] at z1
      clear ha za
      rw [← z1.len] at e1
      have hwr : IntKind.i64.wrap (n : Int) = (n : Int) := by rw [IntKind.wrap_i64]; omega
      have tp : (lim ((2 : Int) ^ n).natAbs).length ≤ 8 := by
        rw [pow_nat, Int.natAbs_natCast]
        exact len_of_bits (m := n + 1) (Nat.pow_lt_pow_right (by decide) (Nat.lt_succ_self n)) (by omega)
      have T3 := Lib.hid (Nat.le_trans tp (show 8 ≤ 300 by decide))
      have T4 := Lib.hid (Nat.le_trans (len_mul e1 tp) (show 60 + 8 ≤ 300 by decide))
      obtain ⟨f1, f2, f3⟩ := shift_facts a n
      have hP : (2 : Int) ^ n ≠ 0 := by have := Nat.two_pow_pos n; rw [pow_nat]; omega
      obtain ⟨m1, hm1⟩ : ∃ m, blen a = m := ⟨_, rfl⟩
      have hm1b : m1 ≤ 1920 := by
        rw [← hm1]
        have h2 := lt_of_length_le e1
        rw [Int.natAbs_natCast] at h2
        exact Nat.le_trans (blen_lt_of (bits_of_len h2)) (by decide)
      have b3 : blen (((a / 2 ^ n : Nat) : Int)).natAbs = m1 - n := by rw [Int.natAbs_natCast, blen_down, hm1]
      have b1' : blen ((a : Int)).natAbs = m1 := by rw [Int.natAbs_natCast, hm1]
      have b2 : a ≠ 0 → blen (((a : Int) * 2 ^ n)).natAbs = m1 + n := fun h => by rw [pow_nat, ← Int.natCast_mul, Int.natAbs_natCast, blen_shift n h, hm1]
      have b2z : a = 0 → blen (((a : Int) * 2 ^ n)).natAbs = 0 := fun h => by rw [h]; simp [blen_zero]
      have hmax : (((m1 - n : Nat) : Int) == max 0 ((m1 : Int) - (n : Int))) = true := by rw [beq_iff_eq]; omega
      have hmax' : ((m1 - n : Nat) : Int) = max 0 ((m1 : Int) - (n : Int)) := by omega
      have H3 := Lib.hid b3
      have H1 := Lib.hid b1'
      have H2 := Lib.hid b2
      have H2z := Lib.hid b2z
      have hmI : (m1 : Int) ≤ 1920 := by omega
      have hnI : (n : Int) < 256 := by omega
      have Hmx := Lib.hid hmax'
      obtain ⟨P, hPe⟩ : ∃ P : Int, (2 : Int) ^ n = P := ⟨_, rfl⟩
      have K3 := fun s A c l (h : OkZ s l 2) W' h1 hc => Pow_z s n A c l 2 W' h1 hc h (by omega) T3.out
      rw [hPe] at K3 T4 f1 f2 f3 hP H2 H2z
      have D1 := fun s A c l s' A' c' l' W' h1 h2 k1 k2 z z' => Div_z s s' A A' c c' l l' ((a : Int) * P) P W' h1 h2 k1 k2 z z' hP
      have D2 := fun s A c l s' A' c' l' W' h1 h2 k1 k2 z z' => Div_z s s' A A' c c' l l' (a : Int) P W' h1 h2 k1 k2 z z' hP
      rw [f1, f2] at D1
      rw [f3] at D2
      clear T3 hPe f1 f2 f3 b3 b1' b2 b2z hmax' e1 tp hm1
      by_cases h0 : a = 0
      · go_enter Tryd.func9, Tryd.ntmps9
        go_wp2_with first
          | (go_at_call 20; have hmark := by18; refine (Same_z s5 false A5 A1 c5 c1 l5 l1 _ _ _ B5.rd B1.rd B5.cap B1.cap z5 z1 rfl).mono ?_; rintro e w19 ⟨rfl, b19⟩; have by19 := by18.trans (b19.mono by18.size); replace B1 := B1.on b19; replace B3 := B3.on b19; replace B4 := B4.on b19; replace B5 := B5.on b19; replace B6 := B6.on b19; replace B7 := B7.on b19; replace B8 := B8.on b19; clear b19; have y60 : ((l6.length : Int) == 0) = true := (by rw [z6.nil rfl]; rfl); have y61 : (l6.length == 0) = true := (by rw [z6.nil rfl]; rfl); have y10 : ((l1.length : Int) == 0) = true := (by rw [z1.nil (by omega)]; rfl); have y11 : (l1.length == 0) = true := (by rw [z1.nil (by omega)]; rfl); clear u1a u1b; clear u5a u5b; have u1a := cell_at B1.blk 0 _ rfl; have u1b := cell_at B1.blk 1 _ rfl; have u6a := cell_at B6.blk 0 _ rfl; have u6b := cell_at B6.blk 1 _ rfl)
          | (go_at_call 17; have hmark := by17; refine (sane_calls _ (hdW.on by17)).mono ?_; rintro e w18 ⟨rfl, b18⟩; have by18 := by17.trans (b18.mono by17.size); replace B1 := B1.on b18; replace B3 := B3.on b18; replace B4 := B4.on b18; replace B5 := B5.on b18; replace B6 := B6.on b18; replace B7 := B7.on b18; replace B8 := B8.on b18; clear b18; have u1a := cell_at B1.blk 0 _ rfl; have u1b := cell_at B1.blk 1 _ rfl; have u5a := cell_at B5.blk 0 _ rfl; have u5b := cell_at B5.blk 1 _ rfl)
          | (go_at_call 41; have hmark := by16; refine (Bits_z s7 A7 c7 l7 _ _ B7.rd B7.cap z7 (m1 - n) H3.out).mono ?_; rintro e w17 ⟨rfl, b17⟩; have by17 := by16.trans (b17.mono by16.size); replace B1 := B1.on b17; replace B3 := B3.on b17; replace B4 := B4.on b17; replace B5 := B5.on b17; replace B6 := B6.on b17; replace B7 := B7.on b17; replace B8 := B8.on b17; clear b17; clear u7a u7b)
          | (go_at_call 41; have hmark := by15; refine (Bits_z s4 A4 c4 l4 _ _ B4.rd B4.cap z4 0 (H2z.out h0)).mono ?_; rintro e w16 ⟨rfl, b16⟩; have by16 := by15.trans (b16.mono by15.size); replace B1 := B1.on b16; replace B3 := B3.on b16; replace B4 := B4.on b16; replace B5 := B5.on b16; replace B6 := B6.on b16; replace B7 := B7.on b16; replace B8 := B8.on b16; clear b16; clear u4a u4b; have u7a := cell_at B7.blk 0 _ rfl; have u7b := cell_at B7.blk 1 _ rfl)
          | (go_at_call 41; have hmark := by14; refine (Bits_z false A1 c1 l1 _ _ B1.rd B1.cap z1 m1 H1.out).mono ?_; rintro e w15 ⟨rfl, b15⟩; have by15 := by14.trans (b15.mono by14.size); replace B1 := B1.on b15; replace B3 := B3.on b15; replace B4 := B4.on b15; replace B5 := B5.on b15; replace B6 := B6.on b15; replace B7 := B7.on b15; replace B8 := B8.on b15; clear b15; clear u1a u1b; have u4a := cell_at B4.blk 0 _ rfl; have u4b := cell_at B4.blk 1 _ rfl)
          | (go_at_call 18; have hmark := by13; refine (D2 false A1 c1 l1 s3 A3 c3 l3 _ B1.rd B3.rd B1.cap B3.cap z1 z3).mono ?_; rintro e w14 ⟨s7, A7, c7, l7, s8, A8, c8, l8, rfl, z7, z8, n7, n8, r7, r8, b14⟩; obtain ⟨bx14, B7, B8⟩ := two_boxes w14 s7 s8 A7 A8 c7 c8 l7 l8 r7 r8 n7 n8; have by14 := (by13.trans (b14.mono by13.size)).trans (bx14.mono (by13.trans (b14.mono by13.size)).size); replace B1 := (B1.on b14).on bx14; replace B3 := (B3.on b14).on bx14; replace B4 := (B4.on b14).on bx14; replace B5 := (B5.on b14).on bx14; replace B6 := (B6.on b14).on bx14; clear bx14 b14; clear u1a u1b; clear u3a u3b; have u1a := cell_at B1.blk 0 _ rfl; have u1b := cell_at B1.blk 1 _ rfl)
          | (go_at_call 18; have hmark := by12; refine (D1 s4 A4 c4 l4 s3 A3 c3 l3 _ B4.rd B3.rd B4.cap B3.cap z4 z3).mono ?_; rintro e w13 ⟨s5, A5, c5, l5, s6, A6, c6, l6, rfl, z5, z6, n5, n6, r5, r6, b13⟩; obtain ⟨bx13, B5, B6⟩ := two_boxes w13 s5 s6 A5 A6 c5 c6 l5 l6 r5 r6 n5 n6; have by13 := (by12.trans (b13.mono by12.size)).trans (bx13.mono (by12.trans (b13.mono by12.size)).size); replace B1 := (B1.on b13).on bx13; replace B3 := (B3.on b13).on bx13; replace B4 := (B4.on b13).on bx13; clear bx13 b13; clear u3a u3b; clear u4a u4b; have u1a := cell_at B1.blk 0 _ rfl; have u1b := cell_at B1.blk 1 _ rfl; have u3a := cell_at B3.blk 0 _ rfl; have u3b := cell_at B3.blk 1 _ rfl)
          | (go_at_call 39; have hmark := by11; refine (Mul_z false s3 A1 A3 c1 c3 l1 l3 _ _ _ B1.rd B3.rd B1.cap B3.cap z1 z3 T4.out).mono ?_; rintro e w12 ⟨s4, A4, c4, l4, rfl, z4, n4, r4, b12⟩; obtain ⟨bx12, B4⟩ := one_box w12 s4 A4 c4 l4 r4 n4; have by12 := (by11.trans (b12.mono by11.size)).trans (bx12.mono (by11.trans (b12.mono by11.size)).size); replace B1 := (B1.on b12).on bx12; replace B3 := (B3.on b12).on bx12; clear bx12 b12; clear u1a u1b; clear u3a u3b; have u3a := cell_at B3.blk 0 _ rfl; have u3b := cell_at B3.blk 1 _ rfl; have u4a := cell_at B4.blk 0 _ rfl; have u4b := cell_at B4.blk 1 _ rfl)
          | (go_at_call 21; have hmark := by10; refine (K3 s2 A2 c2 l2 k2 _ r2 n2).mono ?_; rintro e w11 ⟨s3, A3, c3, l3, rfl, z3, n3, r3, b11⟩; obtain ⟨bx11, B3⟩ := one_box w11 s3 A3 c3 l3 r3 n3; have by11 := (by10.trans (b11.mono by10.size)).trans (bx11.mono (by10.trans (b11.mono by10.size)).size); replace B1 := (B1.on b11).on bx11; clear bx11 b11; clear u1a u1b; have u1a := cell_at B1.blk 0 _ rfl; have u1b := cell_at B1.blk 1 _ rfl; have u3a := cell_at B3.blk 0 _ rfl; have u3b := cell_at B3.blk 1 _ rfl)
          | (go_at_call 40; have hmark := by9; refine (ROf_calls 2 _ (by decide) (by decide)).mono ?_; rintro e w10 ⟨s2, A2, c2, l2, rfl, z2, n2, r2, b10⟩; have by10 := by9.trans (b10.mono by9.size); replace B1 := B1.on b10; have k2 := z2.okZ (by decide); clear b10)
          | (go_at_call 35; refine f60.mono ?_; rintro e w4 ⟨rfl, b4⟩; have by9 := (hal (.cells #[.bool false, .slice A1 l1.length c1] 24)).trans (b4.mono (hal (.cells #[.bool false, .slice A1 l1.length c1] 24)).size); replace B1 := B1.on by9; have u1a := cell_at B1.blk 0 _ rfl; have u1b := cell_at B1.blk 1 _ rfl)
        all_goals go_ret
        all_goals exact ⟨rfl, hbw.trans (by19.mono hbw.size)⟩
      · go_enter Tryd.func9, Tryd.ntmps9
        go_wp2_with first
          | (go_at_call 20; have hmark := by18; refine (Same_z s5 false A5 A1 c5 c1 l5 l1 _ _ _ B5.rd B1.rd B5.cap B1.cap z5 z1 rfl).mono ?_; rintro e w19 ⟨rfl, b19⟩; have by19 := by18.trans (b19.mono by18.size); replace B1 := B1.on b19; replace B3 := B3.on b19; replace B4 := B4.on b19; replace B5 := B5.on b19; replace B6 := B6.on b19; replace B7 := B7.on b19; replace B8 := B8.on b19; clear b19; have y60 : ((l6.length : Int) == 0) = true := (by rw [z6.nil rfl]; rfl); have y61 : (l6.length == 0) = true := (by rw [z6.nil rfl]; rfl); have y10 : ((l1.length : Int) == 0) = false := (by have := z1.pos (by omega); rw [beq_eq_false_iff_ne]; omega); have y11 : (l1.length == 0) = false := (by have := z1.pos (by omega); rw [beq_eq_false_iff_ne]; omega); clear u1a u1b; clear u5a u5b; have u1a := cell_at B1.blk 0 _ rfl; have u1b := cell_at B1.blk 1 _ rfl; have u6a := cell_at B6.blk 0 _ rfl; have u6b := cell_at B6.blk 1 _ rfl)
          | (go_at_call 17; have hmark := by17; refine (sane_calls _ (hdW.on by17)).mono ?_; rintro e w18 ⟨rfl, b18⟩; have by18 := by17.trans (b18.mono by17.size); replace B1 := B1.on b18; replace B3 := B3.on b18; replace B4 := B4.on b18; replace B5 := B5.on b18; replace B6 := B6.on b18; replace B7 := B7.on b18; replace B8 := B8.on b18; clear b18; have u1a := cell_at B1.blk 0 _ rfl; have u1b := cell_at B1.blk 1 _ rfl; have u5a := cell_at B5.blk 0 _ rfl; have u5b := cell_at B5.blk 1 _ rfl)
          | (go_at_call 41; have hmark := by16; refine (Bits_z s7 A7 c7 l7 _ _ B7.rd B7.cap z7 (m1 - n) H3.out).mono ?_; rintro e w17 ⟨rfl, b17⟩; have by17 := by16.trans (b17.mono by16.size); replace B1 := B1.on b17; replace B3 := B3.on b17; replace B4 := B4.on b17; replace B5 := B5.on b17; replace B6 := B6.on b17; replace B7 := B7.on b17; replace B8 := B8.on b17; clear b17; clear u7a u7b)
          | (go_at_call 41; have hmark := by15; refine (Bits_z s4 A4 c4 l4 _ _ B4.rd B4.cap z4 (m1 + n) (H2.out h0)).mono ?_; rintro e w16 ⟨rfl, b16⟩; have by16 := by15.trans (b16.mono by15.size); replace B1 := B1.on b16; replace B3 := B3.on b16; replace B4 := B4.on b16; replace B5 := B5.on b16; replace B6 := B6.on b16; replace B7 := B7.on b16; replace B8 := B8.on b16; clear b16; clear u4a u4b; have u7a := cell_at B7.blk 0 _ rfl; have u7b := cell_at B7.blk 1 _ rfl)
          | (go_at_call 41; have hmark := by14; refine (Bits_z false A1 c1 l1 _ _ B1.rd B1.cap z1 m1 H1.out).mono ?_; rintro e w15 ⟨rfl, b15⟩; have by15 := by14.trans (b15.mono by14.size); replace B1 := B1.on b15; replace B3 := B3.on b15; replace B4 := B4.on b15; replace B5 := B5.on b15; replace B6 := B6.on b15; replace B7 := B7.on b15; replace B8 := B8.on b15; clear b15; clear u1a u1b; have u4a := cell_at B4.blk 0 _ rfl; have u4b := cell_at B4.blk 1 _ rfl)
          | (go_at_call 18; have hmark := by13; refine (D2 false A1 c1 l1 s3 A3 c3 l3 _ B1.rd B3.rd B1.cap B3.cap z1 z3).mono ?_; rintro e w14 ⟨s7, A7, c7, l7, s8, A8, c8, l8, rfl, z7, z8, n7, n8, r7, r8, b14⟩; obtain ⟨bx14, B7, B8⟩ := two_boxes w14 s7 s8 A7 A8 c7 c8 l7 l8 r7 r8 n7 n8; have by14 := (by13.trans (b14.mono by13.size)).trans (bx14.mono (by13.trans (b14.mono by13.size)).size); replace B1 := (B1.on b14).on bx14; replace B3 := (B3.on b14).on bx14; replace B4 := (B4.on b14).on bx14; replace B5 := (B5.on b14).on bx14; replace B6 := (B6.on b14).on bx14; clear bx14 b14; clear u1a u1b; clear u3a u3b; have u1a := cell_at B1.blk 0 _ rfl; have u1b := cell_at B1.blk 1 _ rfl)
          | (go_at_call 18; have hmark := by12; refine (D1 s4 A4 c4 l4 s3 A3 c3 l3 _ B4.rd B3.rd B4.cap B3.cap z4 z3).mono ?_; rintro e w13 ⟨s5, A5, c5, l5, s6, A6, c6, l6, rfl, z5, z6, n5, n6, r5, r6, b13⟩; obtain ⟨bx13, B5, B6⟩ := two_boxes w13 s5 s6 A5 A6 c5 c6 l5 l6 r5 r6 n5 n6; have by13 := (by12.trans (b13.mono by12.size)).trans (bx13.mono (by12.trans (b13.mono by12.size)).size); replace B1 := (B1.on b13).on bx13; replace B3 := (B3.on b13).on bx13; replace B4 := (B4.on b13).on bx13; clear bx13 b13; clear u3a u3b; clear u4a u4b; have u1a := cell_at B1.blk 0 _ rfl; have u1b := cell_at B1.blk 1 _ rfl; have u3a := cell_at B3.blk 0 _ rfl; have u3b := cell_at B3.blk 1 _ rfl)
          | (go_at_call 39; have hmark := by11; refine (Mul_z false s3 A1 A3 c1 c3 l1 l3 _ _ _ B1.rd B3.rd B1.cap B3.cap z1 z3 T4.out).mono ?_; rintro e w12 ⟨s4, A4, c4, l4, rfl, z4, n4, r4, b12⟩; obtain ⟨bx12, B4⟩ := one_box w12 s4 A4 c4 l4 r4 n4; have by12 := (by11.trans (b12.mono by11.size)).trans (bx12.mono (by11.trans (b12.mono by11.size)).size); replace B1 := (B1.on b12).on bx12; replace B3 := (B3.on b12).on bx12; clear bx12 b12; clear u1a u1b; clear u3a u3b; have u3a := cell_at B3.blk 0 _ rfl; have u3b := cell_at B3.blk 1 _ rfl; have u4a := cell_at B4.blk 0 _ rfl; have u4b := cell_at B4.blk 1 _ rfl)
          | (go_at_call 21; have hmark := by10; refine (K3 s2 A2 c2 l2 k2 _ r2 n2).mono ?_; rintro e w11 ⟨s3, A3, c3, l3, rfl, z3, n3, r3, b11⟩; obtain ⟨bx11, B3⟩ := one_box w11 s3 A3 c3 l3 r3 n3; have by11 := (by10.trans (b11.mono by10.size)).trans (bx11.mono (by10.trans (b11.mono by10.size)).size); replace B1 := (B1.on b11).on bx11; clear bx11 b11; clear u1a u1b; have u1a := cell_at B1.blk 0 _ rfl; have u1b := cell_at B1.blk 1 _ rfl; have u3a := cell_at B3.blk 0 _ rfl; have u3b := cell_at B3.blk 1 _ rfl)
          | (go_at_call 40; have hmark := by9; refine (ROf_calls 2 _ (by decide) (by decide)).mono ?_; rintro e w10 ⟨s2, A2, c2, l2, rfl, z2, n2, r2, b10⟩; have by10 := by9.trans (b10.mono by9.size); replace B1 := B1.on b10; have k2 := z2.okZ (by decide); clear b10)
          | (go_at_call 35; refine f60.mono ?_; rintro e w4 ⟨rfl, b4⟩; have by9 := (hal (.cells #[.bool false, .slice A1 l1.length c1] 24)).trans (b4.mono (hal (.cells #[.bool false, .slice A1 l1.length c1] 24)).size); replace B1 := B1.on by9; have u1a := cell_at B1.blk 0 _ rfl; have u1b := cell_at B1.blk 1 _ rfl)
        all_goals go_ret
        all_goals exact ⟨rfl, hbw.trans (by19.mono hbw.size)⟩
    · go_enter Tryd.func9, Tryd.ntmps9
      go_wp2_with first
        | (go_at_call 17; refine (sane_calls _ (hdW.on bm)).mono ?_; rintro e w9 ⟨rfl, b9⟩)
        | (go_at_call 35; refine f60.mono ?_; rintro e w4 ⟨rfl, b4⟩; have bm := (hal (.cells #[.bool true, .slice A1 l1.length c1] 24)).trans (b4.mono (hal (.cells #[.bool true, .slice A1 l1.length c1] 24)).size); have k0 := cell_at (B1.on bm).blk 0 _ rfl; have k1 := cell_at (B1.on bm).blk 1 _ rfl)
      go_ret
      exact ⟨rfl, (hbw.trans (bm.mono hbw.size)).trans (b9.mono (hbw.trans (bm.mono hbw.size)).size)⟩

end Nm
end Go.Proofs.YtlhmbbpkhahbeaaDoor
namespace Go.Proofs.YtlhmbbpkhahbeaaDoor
namespace Nm
open Go.ChangeShapes Go.WideShapes Go.ChangeAt Go.WideMaps Go.WideElems Go.RowKit

set_option maxRecDepth 100000 in
theorem numShifts_lifted (os : Os) (started : os.Started) (H : Type) (enc : TypeId × Value → H) :
    ReturnsInHanded {} Tryd.checked os 9 .any (fun w args => (Rows.numShiftsSpec.pre enc Tryd.prog Tryd.f9 [] false w args ∧ laidMetH Tryd.prog laidL w) ∧ sizedMet enc Tryd.prog Tryd.f9 (OpenSpec.ofChange Rows.numShiftsSpec) false w args)
      (Rows.numShiftsSpec.post enc Tryd.prog Tryd.f9 false true false false) := by
  refine returnsInHanded_of_change_and (C := Tryd.checked) (X := fun w _ => laidMetH Tryd.prog laidL w) (fun _ _ _ hh h => h.of_heap hh) own started (by kernel_rfl) Tryd.func9
    (ChangeSpec.witness_shaped (enc := enc) (C := Tryd.checked) (os := os) (X := fun w _ => laidMetH Tryd.prog laidL w) false (World.doorLaid Tryd.prog 14 os) #[.agg #[.bool false, .slice none 0 0], .int .u8 0] 8 rfl (World.shaped_of_RefB (by kernel_rfl) (by kernel_rfl)) (by kernel_rfl) (by kernel_rfl) (by kernel_rfl) (door_met os _)) ?_
  intro W base args ds gs before hval0 hW _ hsz0 hL _
  have hval : ∀ (j : Nat) t v, Tryd.f9.params[j]? = some t → args[j]? = some v → Value.okWide Tryd.prog W .any base t v := hval0
  have hsz : (DataW.weightsEach Tryd.prog (Tryd.f9.params.toList ++ Rows.numShiftsSpec.plain.varTypes Tryd.prog) (ds ++ gs)).all (· ≤ reachBytes) = true := hsz0
  have hW' := hW
  obtain ⟨p, q, hA0, hV, rfl, hfz, hnd⟩ := hW
  have hA : DataW.TrodAll enc Tryd.prog W 0 (fun _ => true) true Tryd.f9.params.toList args.toList ds p := hA0
  rw [Tryd.params9] at hA hval hsz
  obtain ⟨v0, v1, d0, d1, p0, p1, rfl, rfl, rfl, h0, h1⟩ := trodAll_two hA
  obtain ⟨rfl, rfl⟩ := trodVars_none hV
  have hw0 : ∀ n ∈ d0.weights Tryd.prog 24, n ≤ reachBytes := fun n hn => by simpa using List.all_eq_true.1 hsz n (DataW.weights_mem_each (j := 0) rfl rfl n hn)
  obtain ⟨n1, A1, c1, l1, rfl, r1, k1⟩ := open_intZ (hval 0 _ v0 rfl rfl) h0 hw0
  obtain ⟨z2, rfl, rfl, rfl, wf2⟩ := open_int Tryd.underlying5 (hval 1 _ v1 rfl rfl) h1
  have bd2 : 0 ≤ z2 ∧ z2 < 256 := by have h := wf2; simp [Lit.wf, IntKind.min, IntKind.max, IntKind.signed, IntKind.bits] at h; omega
  obtain ⟨x2, rfl⟩ : ∃ x : Nat, z2 = (x : Int) := ⟨z2.toNat, by omega⟩
  have bn2 : x2 < 256 := by omega
  have hd := dig_of_laid hL
  clear hA0 hval0
  try simp only [List.append_nil] at hW'
  have hlt : ∀ x ∈ p0, x.block < W.heap.size := fun x hx => hW'.lt x (by simpa using hx)
  refine (NumShifts_calls n1 A1 c1 l1 x2 W r1 k1 bn2 hd).mono fun e W' ⟨he, hb⟩ => ?_
  subst he
  refine ⟨_, rfl, _, _, _, [], _, [], hW', trodAll_mk1 (shut_bool uBool true), trodAll_mk2 (Below.trod laidOut (by kernel_rfl) (of_decide_eq_true (by kernel_rfl)) h0 hb (fun x hx => hlt x (by simp [hx]))) (shut_int Tryd.underlying5 wf2), rfl, hb.frame _, fun h => by cases h⟩

theorem numShifts_holds : Rows.NumShiftsSaid :=
  OpenClaim.holds_of_wide 9 Tryd.f9 rfl rfl rfl rfl rfl rfl rfl ⟨rfl, rfl, rfl, rfl, rfl⟩ rfl rfl rfl rfl rfl (by kernel_rfl) Tryd.func9 (by kernel_rfl)
    (of_decide_eq_true (by kernel_rfl)) (by unfold Func.isWrapper; first | (rw [if_pos (by decide +kernel)]; kernel_rfl) | (rw [if_neg (by decide +kernel)]; exact ⟨rfl, rfl⟩))
    (fun os started H enc _ => numShifts_lifted os started H enc)

theorem numShifts_card : Rows.NumShiftsCardSaid :=
  Claim7.holds_tied_plain_at .later [] [.data] true (true, "81631b405a98d3f071c31393904156c9da5fef14bbd5c556ce9417642a36c1bb") true
    numShifts_holds (fun _ h => by cases h) (by kernel_rfl) (fun _ h => by cases h) numShifts_row_tie rfl ⟨rfl, rfl⟩ (by kernel_rfl) rfl
    (fun f fn hf hfn => by
      obtain rfl : f = 9 := Option.some.inj ((show Tryd.prog.funcNamed "zermelo/zermelolaw01.NumShifts" = some 9 by kernel_rfl).symm.trans hf) |>.symm
      obtain rfl : fn = Tryd.f9 := (Option.some.inj (Tryd.func9.symm.trans hfn)).symm
      exact ⟨by kernel_rfl, fun j t ht => by
        have hp := Tryd.params9
        rw [hp] at ht
        have hall : (Tryd.f9.params.toList.all fun u => !Tryd.prog.wantsStandIn u) = true := by kernel_rfl
        rw [hp] at hall
        have hm := Array.mem_toList_iff.2 (Array.mem_of_getElem? ht)
        exact (show Tryd.prog.wantsStandIn t = false by simpa using List.all_eq_true.1 hall t hm)⟩)
    (by kernel_rfl)

end Nm
end Go.Proofs.YtlhmbbpkhahbeaaDoor
