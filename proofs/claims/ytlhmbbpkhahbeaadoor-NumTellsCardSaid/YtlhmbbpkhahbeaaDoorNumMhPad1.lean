/-
  The law NumShifts: the walk.
  The law NumPowersAdd: the walk.
  NumPowersAdd: the row, the card. For every input the law returns true. The integers that came in are whatever the row lets in; the digits' table reads as the program's text lays it (the card ties it).
-/
import Derived.Test.YtlhmbbpkhahbeaaDoorNumMhDvs1
import Derived.Test.YtlhmbbpkhahbeaaDoorTie
import Derived.Test.YtlhmbbpkhahbeaaDoorCards
import Derived.SevenTiedAt
namespace Go.Proofs.YtlhmbbpkhahbeaaDoor
namespace Nm
open Go.RowKit Go.Shelf Go.BigFrame
attribute [local go_sem] Oper.semAt_some

theorem blen_shift {a : Nat} (n : Nat) (ha : a ≠ 0) : blen (a * 2 ^ n) = blen a + n := by
  refine blen_of ?_ ?_
  · rw [Nat.pow_add]; exact Nat.mul_lt_mul_of_pos_right (blen_lt a) (Nat.two_pow_pos n)
  · rw [Nat.pow_add, ← Nat.mul_assoc]; exact Nat.mul_le_mul_right _ (blen_le ha)
theorem blen_down (a n : Nat) : blen (a / 2 ^ n) = blen a - n := by
  rcases Nat.lt_or_ge n (blen a) with h | h
  · have ha : a ≠ 0 := by rintro rfl; simp [blen] at h
    obtain ⟨k, hk⟩ : ∃ k, blen a = k + 1 + n := ⟨blen a - n - 1, by omega⟩
    have h1 := blen_lt a
    have h2 := blen_le ha
    rw [hk] at h1 h2 ⊢
    rw [show k + 1 + n - n = k + 1 by omega]
    refine blen_of ?_ ?_
    · rw [Nat.div_lt_iff_lt_mul (Nat.two_pow_pos n), ← Nat.pow_add]; exact h1
    · have h3 : 2 ^ k * 2 ^ n ≤ a := by
        rw [← Nat.pow_add]
        rw [show k + 1 + n = k + n + 1 by omega, Nat.pow_succ] at h2
        omega
      have h4 := (Nat.le_div_iff_mul_le (Nat.two_pow_pos n)).2 h3
      rw [Nat.pow_succ]; omega
  · have h1 : a < 2 ^ n := Nat.lt_of_lt_of_le (blen_lt a) (Nat.pow_le_pow_right (by decide) h)
    rw [Nat.div_eq_of_lt h1, blen_zero]; omega
theorem pow_nat (n : Nat) : ((2 : Int) ^ n) = ((2 ^ n : Nat) : Int) := by rw [Int.natCast_pow]; rfl
theorem shift_facts (a n : Nat) : divZ ((a : Int) * 2 ^ n) (2 ^ n) = a ∧ modZ ((a : Int) * 2 ^ n) (2 ^ n) = 0 ∧ divZ (a : Int) (2 ^ n) = ((a / 2 ^ n : Nat) : Int) := by
  have hp : (0 : Int) < 2 ^ n := by rw [pow_nat]; exact_mod_cast Nat.two_pow_pos n
  have h1 : divZ ((a : Int) * 2 ^ n) (2 ^ n) = a := by unfold divZ; rw [if_pos hp]; exact Int.mul_ediv_cancel _ (by omega)
  refine ⟨h1, ?_, ?_⟩
  · unfold modZ; rw [h1, Int.mul_comm]; omega
  · unfold divZ; rw [if_pos hp, pow_nat]; rfl

set_option maxRecDepth 100000 in
set_option maxHeartbeats 16000000 in
theorem NumShifts_calls (s1 : Bool) (A1 : Option Addr) (c1 : Nat) (l1 : List Nat) (n : Nat) (w : World) (h1 : Rd w A1 l1) (hc1 : l1.length ≤ c1) (hn : n < 256) (hd : DigW w) :
    Calls Tryd.prog 9 #[iv s1 A1 l1.length c1, .int .u8 (n : Int)] w fun e w' => e = .returned (.bool true) ∧ Below w.heap.size w w' := by
  obtain ⟨hbw, B1⟩ := one_box w s1 A1 c1 l1 h1 hc1
  obtain ⟨W, hW⟩ : ∃ W, w.alloc (.cells #[.bool s1, .slice A1 l1.length c1] 24) = W := ⟨_, rfl⟩
  rw [hW] at hbw B1
  have hsz0 : w.heap.size < W.heap.size := by rw [← hW]; simp
  have x0 := cell_at B1.blk 0 _ rfl
  have x1 := cell_at B1.blk 1 _ rfl
  have hal : ∀ o, Below W.heap.size W (W.alloc o) := fun o => (Below.refl _ W).alloc (Nat.le_refl _) _
  obtain ⟨b60, h60⟩ : ∃ b, (okI s1 l1 && decide (l1.length ≤ 60)) = b := ⟨_, rfl⟩
  have f60 := lformed_one 60 W.heap.size s1 A1 c1 l1 _ (World.alloc_heap_new W (.cells #[.bool s1, .slice A1 l1.length c1] 24)) (B1.rd.on (hal _)) hc1 _ h60
  have hdW := hd.on hbw
  cases b60
  · clear h60
    go_enter Tryd.func9, Tryd.ntmps9
    go_wp2_with first
      | (go_at_call 17; refine (sane_calls _ (hdW.on bm)).mono ?_; rintro e w9 ⟨rfl, b9⟩)
      | (go_at_call 35; refine f60.mono ?_; rintro e w4 ⟨rfl, b4⟩; have bm := (hal (.cells #[.bool s1, .slice A1 l1.length c1] 24)).trans (b4.mono (hal (.cells #[.bool s1, .slice A1 l1.length c1] 24)).size))
    go_ret
    exact ⟨rfl, (hbw.trans (bm.mono hbw.size)).trans (b9.mono (hbw.trans (bm.mono hbw.size)).size)⟩
  · have hw1 := h1.words
    obtain ⟨z1, e1⟩ := formed_ok hw1 h60
    clear h60
    cases s1
    · obtain ⟨a, ha⟩ : ∃ a, val l1 = a := ⟨_, rfl⟩
      have za : toZ false l1 = (a : Int) := by rw [← ha]; rfl
      rw [za] at z1
      clear ha za
      rw [← z1.len] at e1
      have hwr : IntKind.i64.wrap (n : Int) = (n : Int) := by rw [IntKind.wrap_i64]; omega
      have tp : (lim ((2 : Int) ^ n).natAbs).length ≤ 8 := by
        rw [pow_nat, Int.natAbs_natCast]
        exact len_of_bits (m := n + 1) (Nat.pow_lt_pow_right (by decide) (Nat.lt_succ_self n)) (by omega)
      have T3 := Lib.hid (Nat.le_trans tp (show 8 ≤ 300 by decide))
      have T4 := Lib.hid (Nat.le_trans (len_mul e1 tp) (show 60 + 8 ≤ 300 by decide))
      obtain ⟨f1, f2, f3⟩ := shift_facts a n
      have hP : (2 : Int) ^ n ≠ 0 := by have := Nat.two_pow_pos n; rw [pow_nat]; omega
      obtain ⟨m1, hm1⟩ : ∃ m, blen a = m := ⟨_, rfl⟩
      have hm1b : m1 ≤ 1920 := by
        rw [← hm1]
        have h2 := lt_of_length_le e1
        rw [Int.natAbs_natCast] at h2
        exact Nat.le_trans (blen_lt_of (bits_of_len h2)) (by decide)
      have b3 : blen (((a / 2 ^ n : Nat) : Int)).natAbs = m1 - n := by rw [Int.natAbs_natCast, blen_down, hm1]
      have b1' : blen ((a : Int)).natAbs = m1 := by rw [Int.natAbs_natCast, hm1]
      have b2 : a ≠ 0 → blen (((a : Int) * 2 ^ n)).natAbs = m1 + n := fun h => by rw [pow_nat, ← Int.natCast_mul, Int.natAbs_natCast, blen_shift n h, hm1]
      have b2z : a = 0 → blen (((a : Int) * 2 ^ n)).natAbs = 0 := fun h => by rw [h]; simp [blen_zero]
      have hmax : (((m1 - n : Nat) : Int) == max 0 ((m1 : Int) - (n : Int))) = true := by rw [beq_iff_eq]; omega
      have hmax' : ((m1 - n : Nat) : Int) = max 0 ((m1 : Int) - (n : Int)) := by omega
      have H3 := Lib.hid b3
      have H1 := Lib.hid b1'
      have H2 := Lib.hid b2
      have H2z := Lib.hid b2z
      have hmI : (m1 : Int) ≤ 1920 := by omega
      have hnI : (n : Int) < 256 := by omega
      have Hmx := Lib.hid hmax'
      obtain ⟨P, hPe⟩ : ∃ P : Int, (2 : Int) ^ n = P := ⟨_, rfl⟩
      have K3 := fun s A c l (h : OkZ s l 2) W' h1 hc => Pow_z s n A c l 2 W' h1 hc h (by omega) T3.out
      rw [hPe] at K3 T4 f1 f2 f3 hP H2 H2z
      have D1 := fun s A c l s' A' c' l' W' h1 h2 k1 k2 z z' => Div_z s s' A A' c c' l l' ((a : Int) * P) P W' h1 h2 k1 k2 z z' hP
      have D2 := fun s A c l s' A' c' l' W' h1 h2 k1 k2 z z' => Div_z s s' A A' c c' l l' (a : Int) P W' h1 h2 k1 k2 z z' hP
      rw [f1, f2] at D1
      rw [f3] at D2
      clear T3 hPe f1 f2 f3 b3 b1' b2 b2z hmax' e1 tp hm1
      by_cases h0 : a = 0
      · go_enter Tryd.func9, Tryd.ntmps9
        go_wp2_with first
          | (go_at_call 20; have hmark := by18; refine (Same_z s5 false A5 A1 c5 c1 l5 l1 _ _ _ B5.rd B1.rd B5.cap B1.cap z5 z1 rfl).mono ?_; rintro e w19 ⟨rfl, b19⟩; have by19 := by18.trans (b19.mono by18.size); replace B1 := B1.on b19; replace B3 := B3.on b19; replace B4 := B4.on b19; replace B5 := B5.on b19; replace B6 := B6.on b19; replace B7 := B7.on b19; replace B8 := B8.on b19; clear b19; have y60 : ((l6.length : Int) == 0) = true := (by rw [z6.nil rfl]; rfl); have y61 : (l6.length == 0) = true := (by rw [z6.nil rfl]; rfl); have y10 : ((l1.length : Int) == 0) = true := (by rw [z1.nil (by omega)]; rfl); have y11 : (l1.length == 0) = true := (by rw [z1.nil (by omega)]; rfl); clear u1a u1b; clear u5a u5b; have u1a := cell_at B1.blk 0 _ rfl; have u1b := cell_at B1.blk 1 _ rfl; have u6a := cell_at B6.blk 0 _ rfl; have u6b := cell_at B6.blk 1 _ rfl)
          | (go_at_call 17; have hmark := by17; refine (sane_calls _ (hdW.on by17)).mono ?_; rintro e w18 ⟨rfl, b18⟩; have by18 := by17.trans (b18.mono by17.size); replace B1 := B1.on b18; replace B3 := B3.on b18; replace B4 := B4.on b18; replace B5 := B5.on b18; replace B6 := B6.on b18; replace B7 := B7.on b18; replace B8 := B8.on b18; clear b18; have u1a := cell_at B1.blk 0 _ rfl; have u1b := cell_at B1.blk 1 _ rfl; have u5a := cell_at B5.blk 0 _ rfl; have u5b := cell_at B5.blk 1 _ rfl)
          | (go_at_call 41; have hmark := by16; refine (Bits_z s7 A7 c7 l7 _ _ B7.rd B7.cap z7 (m1 - n) H3.out).mono ?_; rintro e w17 ⟨rfl, b17⟩; have by17 := by16.trans (b17.mono by16.size); replace B1 := B1.on b17; replace B3 := B3.on b17; replace B4 := B4.on b17; replace B5 := B5.on b17; replace B6 := B6.on b17; replace B7 := B7.on b17; replace B8 := B8.on b17; clear b17; clear u7a u7b)
          | (go_at_call 41; have hmark := by15; refine (Bits_z s4 A4 c4 l4 _ _ B4.rd B4.cap z4 0 (H2z.out h0)).mono ?_; rintro e w16 ⟨rfl, b16⟩; have by16 := by15.trans (b16.mono by15.size); replace B1 := B1.on b16; replace B3 := B3.on b16; replace B4 := B4.on b16; replace B5 := B5.on b16; replace B6 := B6.on b16; replace B7 := B7.on b16; replace B8 := B8.on b16; clear b16; clear u4a u4b; have u7a := cell_at B7.blk 0 _ rfl; have u7b := cell_at B7.blk 1 _ rfl)
          | (go_at_call 41; have hmark := by14; refine (Bits_z false A1 c1 l1 _ _ B1.rd B1.cap z1 m1 H1.out).mono ?_; rintro e w15 ⟨rfl, b15⟩; have by15 := by14.trans (b15.mono by14.size); replace B1 := B1.on b15; replace B3 := B3.on b15; replace B4 := B4.on b15; replace B5 := B5.on b15; replace B6 := B6.on b15; replace B7 := B7.on b15; replace B8 := B8.on b15; clear b15; clear u1a u1b; have u4a := cell_at B4.blk 0 _ rfl; have u4b := cell_at B4.blk 1 _ rfl)
          | (go_at_call 18; have hmark := by13; refine (D2 false A1 c1 l1 s3 A3 c3 l3 _ B1.rd B3.rd B1.cap B3.cap z1 z3).mono ?_; rintro e w14 ⟨s7, A7, c7, l7, s8, A8, c8, l8, rfl, z7, z8, n7, n8, r7, r8, b14⟩; obtain ⟨bx14, B7, B8⟩ := two_boxes w14 s7 s8 A7 A8 c7 c8 l7 l8 r7 r8 n7 n8; have by14 := (by13.trans (b14.mono by13.size)).trans (bx14.mono (by13.trans (b14.mono by13.size)).size); replace B1 := (B1.on b14).on bx14; replace B3 := (B3.on b14).on bx14; replace B4 := (B4.on b14).on bx14; replace B5 := (B5.on b14).on bx14; replace B6 := (B6.on b14).on bx14; clear bx14 b14; clear u1a u1b; clear u3a u3b; have u1a := cell_at B1.blk 0 _ rfl; have u1b := cell_at B1.blk 1 _ rfl)
          | (go_at_call 18; have hmark := by12; refine (D1 s4 A4 c4 l4 s3 A3 c3 l3 _ B4.rd B3.rd B4.cap B3.cap z4 z3).mono ?_; rintro e w13 ⟨s5, A5, c5, l5, s6, A6, c6, l6, rfl, z5, z6, n5, n6, r5, r6, b13⟩; obtain ⟨bx13, B5, B6⟩ := two_boxes w13 s5 s6 A5 A6 c5 c6 l5 l6 r5 r6 n5 n6; have by13 := (by12.trans (b13.mono by12.size)).trans (bx13.mono (by12.trans (b13.mono by12.size)).size); replace B1 := (B1.on b13).on bx13; replace B3 := (B3.on b13).on bx13; replace B4 := (B4.on b13).on bx13; clear bx13 b13; clear u3a u3b; clear u4a u4b; have u1a := cell_at B1.blk 0 _ rfl; have u1b := cell_at B1.blk 1 _ rfl; have u3a := cell_at B3.blk 0 _ rfl; have u3b := cell_at B3.blk 1 _ rfl)
          | (go_at_call 39; have hmark := by11; refine (Mul_z false s3 A1 A3 c1 c3 l1 l3 _ _ _ B1.rd B3.rd B1.cap B3.cap z1 z3 T4.out).mono ?_; rintro e w12 ⟨s4, A4, c4, l4, rfl, z4, n4, r4, b12⟩; obtain ⟨bx12, B4⟩ := one_box w12 s4 A4 c4 l4 r4 n4; have by12 := (by11.trans (b12.mono by11.size)).trans (bx12.mono (by11.trans (b12.mono by11.size)).size); replace B1 := (B1.on b12).on bx12; replace B3 := (B3.on b12).on bx12; clear bx12 b12; clear u1a u1b; clear u3a u3b; have u3a := cell_at B3.blk 0 _ rfl; have u3b := cell_at B3.blk 1 _ rfl; have u4a := cell_at B4.blk 0 _ rfl; have u4b := cell_at B4.blk 1 _ rfl)
          | (go_at_call 21; have hmark := by10; refine (K3 s2 A2 c2 l2 k2 _ r2 n2).mono ?_; rintro e w11 ⟨s3, A3, c3, l3, rfl, z3, n3, r3, b11⟩; obtain ⟨bx11, B3⟩ := one_box w11 s3 A3 c3 l3 r3 n3; have by11 := (by10.trans (b11.mono by10.size)).trans (bx11.mono (by10.trans (b11.mono by10.size)).size); replace B1 := (B1.on b11).on bx11; clear bx11 b11; clear u1a u1b; have u1a := cell_at B1.blk 0 _ rfl; have u1b := cell_at B1.blk 1 _ rfl; have u3a := cell_at B3.blk 0 _ rfl; have u3b := cell_at B3.blk 1 _ rfl)
          | (go_at_call 40; have hmark := by9; refine (ROf_calls 2 _ (by decide) (by decide)).mono ?_; rintro e w10 ⟨s2, A2, c2, l2, rfl, z2, n2, r2, b10⟩; have by10 := by9.trans (b10.mono by9.size); replace B1 := B1.on b10; have k2 := z2.okZ (by decide); clear b10)
          | (go_at_call 35; refine f60.mono ?_; rintro e w4 ⟨rfl, b4⟩; have by9 := (hal (.cells #[.bool false, .slice A1 l1.length c1] 24)).trans (b4.mono (hal (.cells #[.bool false, .slice A1 l1.length c1] 24)).size); replace B1 := B1.on by9; have u1a := cell_at B1.blk 0 _ rfl; have u1b := cell_at B1.blk 1 _ rfl)
        all_goals go_ret
        all_goals exact ⟨rfl, hbw.trans (by19.mono hbw.size)⟩
      · go_enter Tryd.func9, Tryd.ntmps9
        go_wp2_with first
          | (go_at_call 20; have hmark := by18; refine (Same_z s5 false A5 A1 c5 c1 l5 l1 _ _ _ B5.rd B1.rd B5.cap B1.cap z5 z1 rfl).mono ?_; rintro e w19 ⟨rfl, b19⟩; have by19 := by18.trans (b19.mono by18.size); replace B1 := B1.on b19; replace B3 := B3.on b19; replace B4 := B4.on b19; replace B5 := B5.on b19; replace B6 := B6.on b19; replace B7 := B7.on b19; replace B8 := B8.on b19; clear b19; have y60 : ((l6.length : Int) == 0) = true := (by rw [z6.nil rfl]; rfl); have y61 : (l6.length == 0) = true := (by rw [z6.nil rfl]; rfl); have y10 : ((l1.length : Int) == 0) = false := (by have := z1.pos (by omega); rw [beq_eq_false_iff_ne]; omega); have y11 : (l1.length == 0) = false := (by have := z1.pos (by omega); rw [beq_eq_false_iff_ne]; omega); clear u1a u1b; clear u5a u5b; have u1a := cell_at B1.blk 0 _ rfl; have u1b := cell_at B1.blk 1 _ rfl; have u6a := cell_at B6.blk 0 _ rfl; have u6b := cell_at B6.blk 1 _ rfl)
          | (go_at_call 17; have hmark := by17; refine (sane_calls _ (hdW.on by17)).mono ?_; rintro e w18 ⟨rfl, b18⟩; have by18 := by17.trans (b18.mono by17.size); replace B1 := B1.on b18; replace B3 := B3.on b18; replace B4 := B4.on b18; replace B5 := B5.on b18; replace B6 := B6.on b18; replace B7 := B7.on b18; replace B8 := B8.on b18; clear b18; have u1a := cell_at B1.blk 0 _ rfl; have u1b := cell_at B1.blk 1 _ rfl; have u5a := cell_at B5.blk 0 _ rfl; have u5b := cell_at B5.blk 1 _ rfl)
          | (go_at_call 41; have hmark := by16; refine (Bits_z s7 A7 c7 l7 _ _ B7.rd B7.cap z7 (m1 - n) H3.out).mono ?_; rintro e w17 ⟨rfl, b17⟩; have by17 := by16.trans (b17.mono by16.size); replace B1 := B1.on b17; replace B3 := B3.on b17; replace B4 := B4.on b17; replace B5 := B5.on b17; replace B6 := B6.on b17; replace B7 := B7.on b17; replace B8 := B8.on b17; clear b17; clear u7a u7b)
          | (go_at_call 41; have hmark := by15; refine (Bits_z s4 A4 c4 l4 _ _ B4.rd B4.cap z4 (m1 + n) (H2.out h0)).mono ?_; rintro e w16 ⟨rfl, b16⟩; have by16 := by15.trans (b16.mono by15.size); replace B1 := B1.on b16; replace B3 := B3.on b16; replace B4 := B4.on b16; replace B5 := B5.on b16; replace B6 := B6.on b16; replace B7 := B7.on b16; replace B8 := B8.on b16; clear b16; clear u4a u4b; have u7a := cell_at B7.blk 0 _ rfl; have u7b := cell_at B7.blk 1 _ rfl)
          | (go_at_call 41; have hmark := by14; refine (Bits_z false A1 c1 l1 _ _ B1.rd B1.cap z1 m1 H1.out).mono ?_; rintro e w15 ⟨rfl, b15⟩; have by15 := by14.trans (b15.mono by14.size); replace B1 := B1.on b15; replace B3 := B3.on b15; replace B4 := B4.on b15; replace B5 := B5.on b15; replace B6 := B6.on b15; replace B7 := B7.on b15; replace B8 := B8.on b15; clear b15; clear u1a u1b; have u4a := cell_at B4.blk 0 _ rfl; have u4b := cell_at B4.blk 1 _ rfl)
          | (go_at_call 18; have hmark := by13; refine (D2 false A1 c1 l1 s3 A3 c3 l3 _ B1.rd B3.rd B1.cap B3.cap z1 z3).mono ?_; rintro e w14 ⟨s7, A7, c7, l7, s8, A8, c8, l8, rfl, z7, z8, n7, n8, r7, r8, b14⟩; obtain ⟨bx14, B7, B8⟩ := two_boxes w14 s7 s8 A7 A8 c7 c8 l7 l8 r7 r8 n7 n8; have by14 := (by13.trans (b14.mono by13.size)).trans (bx14.mono (by13.trans (b14.mono by13.size)).size); replace B1 := (B1.on b14).on bx14; replace B3 := (B3.on b14).on bx14; replace B4 := (B4.on b14).on bx14; replace B5 := (B5.on b14).on bx14; replace B6 := (B6.on b14).on bx14; clear bx14 b14; clear u1a u1b; clear u3a u3b; have u1a := cell_at B1.blk 0 _ rfl; have u1b := cell_at B1.blk 1 _ rfl)
          | (go_at_call 18; have hmark := by12; refine (D1 s4 A4 c4 l4 s3 A3 c3 l3 _ B4.rd B3.rd B4.cap B3.cap z4 z3).mono ?_; rintro e w13 ⟨s5, A5, c5, l5, s6, A6, c6, l6, rfl, z5, z6, n5, n6, r5, r6, b13⟩; obtain ⟨bx13, B5, B6⟩ := two_boxes w13 s5 s6 A5 A6 c5 c6 l5 l6 r5 r6 n5 n6; have by13 := (by12.trans (b13.mono by12.size)).trans (bx13.mono (by12.trans (b13.mono by12.size)).size); replace B1 := (B1.on b13).on bx13; replace B3 := (B3.on b13).on bx13; replace B4 := (B4.on b13).on bx13; clear bx13 b13; clear u3a u3b; clear u4a u4b; have u1a := cell_at B1.blk 0 _ rfl; have u1b := cell_at B1.blk 1 _ rfl; have u3a := cell_at B3.blk 0 _ rfl; have u3b := cell_at B3.blk 1 _ rfl)
          | (go_at_call 39; have hmark := by11; refine (Mul_z false s3 A1 A3 c1 c3 l1 l3 _ _ _ B1.rd B3.rd B1.cap B3.cap z1 z3 T4.out).mono ?_; rintro e w12 ⟨s4, A4, c4, l4, rfl, z4, n4, r4, b12⟩; obtain ⟨bx12, B4⟩ := one_box w12 s4 A4 c4 l4 r4 n4; have by12 := (by11.trans (b12.mono by11.size)).trans (bx12.mono (by11.trans (b12.mono by11.size)).size); replace B1 := (B1.on b12).on bx12; replace B3 := (B3.on b12).on bx12; clear bx12 b12; clear u1a u1b; clear u3a u3b; have u3a := cell_at B3.blk 0 _ rfl; have u3b := cell_at B3.blk 1 _ rfl; have u4a := cell_at B4.blk 0 _ rfl; have u4b := cell_at B4.blk 1 _ rfl)
          | (go_at_call 21; have hmark := by10; refine (K3 s2 A2 c2 l2 k2 _ r2 n2).mono ?_; rintro e w11 ⟨s3, A3, c3, l3, rfl, z3, n3, r3, b11⟩; obtain ⟨bx11, B3⟩ := one_box w11 s3 A3 c3 l3 r3 n3; have by11 := (by10.trans (b11.mono by10.size)).trans (bx11.mono (by10.trans (b11.mono by10.size)).size); replace B1 := (B1.on b11).on bx11; clear bx11 b11; clear u1a u1b; have u1a := cell_at B1.blk 0 _ rfl; have u1b := cell_at B1.blk 1 _ rfl; have u3a := cell_at B3.blk 0 _ rfl; have u3b := cell_at B3.blk 1 _ rfl)
          | (go_at_call 40; have hmark := by9; refine (ROf_calls 2 _ (by decide) (by decide)).mono ?_; rintro e w10 ⟨s2, A2, c2, l2, rfl, z2, n2, r2, b10⟩; have by10 := by9.trans (b10.mono by9.size); replace B1 := B1.on b10; have k2 := z2.okZ (by decide); clear b10)
          | (go_at_call 35; refine f60.mono ?_; rintro e w4 ⟨rfl, b4⟩; have by9 := (hal (.cells #[.bool false, .slice A1 l1.length c1] 24)).trans (b4.mono (hal (.cells #[.bool false, .slice A1 l1.length c1] 24)).size); replace B1 := B1.on by9; have u1a := cell_at B1.blk 0 _ rfl; have u1b := cell_at B1.blk 1 _ rfl)
        all_goals go_ret
        all_goals exact ⟨rfl, hbw.trans (by19.mono hbw.size)⟩
    · go_enter Tryd.func9, Tryd.ntmps9
      go_wp2_with first
        | (go_at_call 17; refine (sane_calls _ (hdW.on bm)).mono ?_; rintro e w9 ⟨rfl, b9⟩)
        | (go_at_call 35; refine f60.mono ?_; rintro e w4 ⟨rfl, b4⟩; have bm := (hal (.cells #[.bool true, .slice A1 l1.length c1] 24)).trans (b4.mono (hal (.cells #[.bool true, .slice A1 l1.length c1] 24)).size); have k0 := cell_at (B1.on bm).blk 0 _ rfl; have k1 := cell_at (B1.on bm).blk 1 _ rfl)
      go_ret
      exact ⟨rfl, (hbw.trans (bm.mono hbw.size)).trans (b9.mono (hbw.trans (bm.mono hbw.size)).size)⟩

end Nm
end Go.Proofs.YtlhmbbpkhahbeaaDoor
namespace Go.Proofs.YtlhmbbpkhahbeaaDoor
namespace Nm
open Go.RowKit Go.Shelf Go.BigFrame
attribute [local go_sem] Oper.semAt_some

theorem rootTo_spec {a n : Nat} (hn : 1 ≤ n) : ∀ k, (∀ y, y ^ n ≤ a → y ≤ k) → IsRoot a n (rootTo a n k)
  | 0, h => ⟨by simp only [rootTo]; rw [Nat.zero_pow hn]; exact Nat.zero_le _, fun y hy => h y hy⟩
  | k + 1, h => by
    unfold rootTo
    split
    · rename_i h1
      exact ⟨h1, h⟩
    · rename_i h1
      refine rootTo_spec hn k fun y hy => ?_
      have h2 := h y hy
      rcases Nat.lt_or_ge k y with h3 | h3
      · obtain rfl : y = k + 1 := by omega
        exact absurd hy h1
      · exact h3
theorem rootN_is {a n : Nat} (hn : 1 ≤ n) : IsRoot a n (rootN a n) :=
  rootTo_spec hn a fun y hy => Nat.le_trans (le_pow_self y hn) hy
theorem rootN_pow {a n : Nat} (hn : 1 ≤ n) : rootN (a ^ n) n = a :=
  rootN_of hn ⟨Nat.le_refl _, fun y hy => (Nat.pow_le_pow_iff_left (by omega)).1 hy⟩
theorem len_pow {z : Int} {k : Nat} (h : (lim z.natAbs).length ≤ k) : ∀ n, (lim (z ^ n).natAbs).length ≤ k * n + 1
  | 0 => by
    rw [Int.pow_zero, Nat.mul_zero]
    exact length_le_of_lt (k := 1) (by decide)
  | n + 1 => by
    rw [Int.pow_succ]
    refine Nat.le_trans (len_mul (len_pow h n) h) ?_
    rw [Nat.mul_succ]; omega
theorem Root_z (n1 : Bool) (n : Nat) (A1 : Option Addr) (c1 : Nat) (l1 : List Nat) (a : Nat) (w : World) (h1 : Rd w A1 l1) (hc1 : l1.length ≤ c1) (k1 : OkZ n1 l1 (a : Int)) (hn1 : 1 ≤ n) (hn : n ≤ 100) (r : Nat) (hr : rootN a n = r) (hs : (lim ((r : Int)).natAbs).length ≤ 300) :
    Calls Tryd.prog 22 #[iv n1 A1 l1.length c1, .int .i64 (n : Int)] w (RetOk (r : Int) w) := by
  have h := Root_calls n1 (n : Int) A1 c1 l1 w h1 hc1
  have hs1 : n1 = false := by rw [k1.isZ.sgn]; exact decide_eq_false (by omega)
  have hv : val l1 = a := by rw [k1.nat, Int.natAbs_natCast]
  have e : rootR n1 l1 (n : Int) = ((r : Int), 0) := by
    unfold rootR
    rw [k1.ok, if_pos rfl, if_pos ⟨by omega, by omega⟩, hs1, if_pos (by rfl), if_neg (by decide), Int.toNat_natCast, hv, hr]
  rw [e] at h
  exact h.mono fun e w' h => h.ok hs
theorem cell_al {W : World} {a : Addr} {v : Value} (o : Obj) (h : W.cell? a = some v) : (W.alloc o).cell? a = some v := by
  rw [World.cell?_alloc_some W a o (by rw [h]; rfl)]; exact h
theorem below_al {w W : World} (h : Below w.heap.size w W) (o : Obj) : Below w.heap.size w (W.alloc o) := h.alloc h.size o
theorem cmp_le {a b : Int} (h : a ≤ b) : cmpZ a b ≤ 0 := by unfold cmpZ; split <;> (try split) <;> omega
theorem cmp_lt {a b : Int} (h : a < b) : cmpZ a b < 0 := by unfold cmpZ; rw [if_pos h]; omega

set_option maxRecDepth 100000 in
set_option maxHeartbeats 16000000 in
theorem NumPowersAdd_calls (s1 : Bool) (A1 : Option Addr) (c1 : Nat) (l1 : List Nat) (m n : Nat) (w : World) (h1 : Rd w A1 l1) (hc1 : l1.length ≤ c1) (hm : m < 256) (hn : n < 256) (hd : DigW w) :
    Calls Tryd.prog 13 #[iv s1 A1 l1.length c1, .int .u8 (m : Int), .int .u8 (n : Int)] w fun e w' => e = .returned (.bool true) ∧ Below w.heap.size w w' := by
  obtain ⟨hbw, B1⟩ := one_box w s1 A1 c1 l1 h1 hc1
  obtain ⟨W, hW⟩ : ∃ W, w.alloc (.cells #[.bool s1, .slice A1 l1.length c1] 24) = W := ⟨_, rfl⟩
  rw [hW] at hbw B1
  have hsz0 : w.heap.size < W.heap.size := by rw [← hW]; simp
  have x0 := cell_at B1.blk 0 _ rfl
  have x1 := cell_at B1.blk 1 _ rfl
  have hal : ∀ o, Below W.heap.size W (W.alloc o) := fun o => (Below.refl _ W).alloc (Nat.le_refl _) _
  obtain ⟨x, hx⟩ : ∃ x, m % 21 = x := ⟨_, rfl⟩
  obtain ⟨y, hy⟩ : ∃ y, n % 21 = y := ⟨_, rfl⟩
  have hxI : (m : Int) % 21 = (x : Int) := by omega
  have hyI : (n : Int) % 21 = (y : Int) := by omega
  have hxT : (m : Int).tmod 21 = (x : Int) := by rw [Int.tmod_eq_emod_of_nonneg (by omega)]; omega
  have hyT : (n : Int).tmod 21 = (y : Int) := by rw [Int.tmod_eq_emod_of_nonneg (by omega)]; omega
  have hx20 : x ≤ 20 := by omega
  have hy20 : y ≤ 20 := by omega
  clear hx hy
  have hwx : IntKind.i64.wrap (x : Int) = (x : Int) := by rw [IntKind.wrap_i64]; omega
  have hwy : IntKind.i64.wrap (y : Int) = (y : Int) := by rw [IntKind.wrap_i64]; omega
  obtain ⟨xy, hxy⟩ : ∃ k : Nat, x + y = k := ⟨_, rfl⟩
  have hxyI : (x : Int) + (y : Int) = (xy : Int) := by omega
  obtain ⟨b60, h60⟩ : ∃ b, (okI s1 l1 && decide (l1.length ≤ 6)) = b := ⟨_, rfl⟩
  have f60 := lformed_one 6 W.heap.size s1 A1 c1 l1 _ (World.alloc_heap_new W (.cells #[.bool s1, .slice A1 l1.length c1] 24)) (B1.rd.on (hal _)) hc1 _ h60
  have hdW := hd.on hbw
  cases b60
  · clear h60
    go_enter Tryd.func13, Tryd.ntmps13
    go_wp2_with first
      | (go_at_call 17; refine (sane_calls _ (hdW.on bm)).mono ?_; rintro e w9 ⟨rfl, b9⟩)
      | (go_at_call 35; refine f60.mono ?_; rintro e w4 ⟨rfl, b4⟩; have bm := (hal (.cells #[.bool s1, .slice A1 l1.length c1] 24)).trans (b4.mono (hal (.cells #[.bool s1, .slice A1 l1.length c1] 24)).size))
    go_ret
    exact ⟨rfl, (hbw.trans (bm.mono hbw.size)).trans (b9.mono (hbw.trans (bm.mono hbw.size)).size)⟩
  · have hw1 := h1.words
    obtain ⟨z1, e1⟩ := formed_ok hw1 h60
    clear h60
    obtain ⟨z, hz⟩ : ∃ z, toZ s1 l1 = z := ⟨_, rfl⟩
    rw [hz] at z1
    have hs1 : s1 = decide (z < 0) := z1.isZ.sgn
    clear hz
    rw [← z1.len] at e1
    have tx := Nat.le_trans (len_pow e1 x) (show 6 * x + 1 ≤ 121 by omega)
    have ty := Nat.le_trans (len_pow e1 y) (show 6 * y + 1 ≤ 121 by omega)
    have T3 := Lib.hid (Nat.le_trans tx (show 121 ≤ 300 by decide))
    have T4 := Lib.hid (Nat.le_trans ty (show 121 ≤ 300 by decide))
    have T5 := Lib.hid (Nat.le_trans (len_pow e1 xy) (show 6 * xy + 1 ≤ 300 by omega))
    have T6 := Lib.hid (Nat.le_trans (len_mul tx ty) (show 121 + 121 ≤ 300 by decide))
    have Q := Lib.hid (show z ^ xy = z ^ x * z ^ y by rw [← hxy, Int.pow_add])
    have K3 := fun W' h1 hc => Pow_z s1 x A1 c1 l1 z W' h1 hc z1 (by omega) T3.out
    have K4 := fun W' h1 hc => Pow_z s1 y A1 c1 l1 z W' h1 hc z1 (by omega) T4.out
    have K5 := fun W' h1 hc => Pow_z s1 xy A1 c1 l1 z W' h1 hc z1 (by omega) T5.out
    by_cases hx0 : x = 0
    · have hxb : ((x : Int) == 0) = true := by rw [hx0]; rfl
      have hxb2 : (x == 0) = true := by rw [hx0]; rfl
      clear hs1 e1 tx ty hxy hx0 T3 T4 T5
      go_enter Tryd.func13, Tryd.ntmps13
      go_wp2_with first
        | (go_at_call 17; have hmark := by14; refine (sane_calls _ (hdW.on by14)).mono ?_; rintro e w15 ⟨rfl, b15⟩; have by15 := by14.trans (b15.mono by14.size); replace B1 := B1.on b15; replace B3 := B3.on b15; replace B4 := B4.on b15; replace B5 := B5.on b15; replace B6 := B6.on b15; clear b15; clear u1a u1b)
        | (go_at_call 20; have hmark := by13; refine (Same_z s5 s6 A5 A6 c5 c6 l5 l6 _ _ _ B5.rd B6.rd B5.cap B6.cap z5 z6 Q.out).mono ?_; rintro e w14 ⟨rfl, b14⟩; have by14 := by13.trans (b14.mono by13.size); replace B1 := B1.on b14; replace B3 := B3.on b14; replace B4 := B4.on b14; replace B5 := B5.on b14; replace B6 := B6.on b14; clear b14; clear u5a u5b; clear u6a u6b; have u1a := cell_at B1.blk 0 _ rfl; have u1b := cell_at B1.blk 1 _ rfl)
        | (go_at_call 39; have hmark := by12; refine (Mul_z s3 s4 A3 A4 c3 c4 l3 l4 _ _ _ B3.rd B4.rd B3.cap B4.cap z3 z4 T6.out).mono ?_; rintro e w13 ⟨s6, A6, c6, l6, rfl, z6, n6, r6, b13⟩; obtain ⟨bx13, B6⟩ := one_box w13 s6 A6 c6 l6 r6 n6; have by13 := (by12.trans (b13.mono by12.size)).trans (bx13.mono (by12.trans (b13.mono by12.size)).size); replace B1 := (B1.on b13).on bx13; replace B3 := (B3.on b13).on bx13; replace B4 := (B4.on b13).on bx13; replace B5 := (B5.on b13).on bx13; clear bx13 b13; clear u3a u3b; clear u4a u4b; have u5a := cell_at B5.blk 0 _ rfl; have u5b := cell_at B5.blk 1 _ rfl; have u6a := cell_at B6.blk 0 _ rfl; have u6b := cell_at B6.blk 1 _ rfl)
        | (go_at_call 21; have hmark := by11; refine (K5 _ B1.rd B1.cap).mono ?_; rintro e w12 ⟨s5, A5, c5, l5, rfl, z5, n5, r5, b12⟩; obtain ⟨bx12, B5⟩ := one_box w12 s5 A5 c5 l5 r5 n5; have by12 := (by11.trans (b12.mono by11.size)).trans (bx12.mono (by11.trans (b12.mono by11.size)).size); replace B1 := (B1.on b12).on bx12; replace B3 := (B3.on b12).on bx12; replace B4 := (B4.on b12).on bx12; clear bx12 b12; clear u1a u1b; have u3a := cell_at B3.blk 0 _ rfl; have u3b := cell_at B3.blk 1 _ rfl; have u4a := cell_at B4.blk 0 _ rfl; have u4b := cell_at B4.blk 1 _ rfl)
        | (go_at_call 21; have hmark := by10; refine (K4 _ B1.rd B1.cap).mono ?_; rintro e w11 ⟨s4, A4, c4, l4, rfl, z4, n4, r4, b11⟩; obtain ⟨bx11, B4⟩ := one_box w11 s4 A4 c4 l4 r4 n4; have by11 := (by10.trans (b11.mono by10.size)).trans (bx11.mono (by10.trans (b11.mono by10.size)).size); replace B1 := (B1.on b11).on bx11; replace B3 := (B3.on b11).on bx11; clear bx11 b11; clear u1a u1b; have u1a := cell_at B1.blk 0 _ rfl; have u1b := cell_at B1.blk 1 _ rfl)
        | (go_at_call 21; have hmark := by9; refine (K3 _ B1.rd B1.cap).mono ?_; rintro e w10 ⟨s3, A3, c3, l3, rfl, z3, n3, r3, b10⟩; obtain ⟨bx10, B3⟩ := one_box w10 s3 A3 c3 l3 r3 n3; have by10 := (by9.trans (b10.mono by9.size)).trans (bx10.mono (by9.trans (b10.mono by9.size)).size); replace B1 := (B1.on b10).on bx10; clear bx10 b10; clear u1a u1b; have u1a := cell_at B1.blk 0 _ rfl; have u1b := cell_at B1.blk 1 _ rfl)
        | (go_at_call 35; refine f60.mono ?_; rintro e w4 ⟨rfl, b4⟩; have by9 := (hal (.cells #[.bool s1, .slice A1 l1.length c1] 24)).trans (b4.mono (hal (.cells #[.bool s1, .slice A1 l1.length c1] 24)).size); replace B1 := B1.on by9; have u1a := cell_at B1.blk 0 _ rfl; have u1b := cell_at B1.blk 1 _ rfl)
      go_ret
      exact ⟨rfl, hbw.trans (by15.mono hbw.size)⟩
    cases s1
    · have hx1 : 1 ≤ x := by omega
      have hxb : ((x : Int) == 0) = false := by rw [beq_eq_false_iff_ne]; omega
      have hxb2 : (x == 0) = false := by rw [beq_eq_false_iff_ne]; omega
      obtain ⟨a, rfl⟩ : ∃ a : Nat, z = (a : Int) := ⟨z.toNat, by have := of_decide_eq_false hs1.symm; omega⟩
      obtain ⟨s, hs⟩ : ∃ s, rootN a x = s := ⟨_, rfl⟩
      have hroot := rootN_is (a := a) hx1
      rw [hs] at hroot
      have hsa : s ≤ a := Nat.le_trans (le_pow_self s hx1) hroot.1
      have es : (lim ((s : Int)).natAbs).length ≤ 6 := Nat.le_trans (length_mono (by rw [Int.natAbs_natCast, Int.natAbs_natCast]; exact hsa)) e1
      have o1 : (lim ((1 : Int)).natAbs).length ≤ 6 := Nat.le_trans (length_le_of_lt (k := 1) (by decide)) (by decide)
      have e7 := len_add es o1
      have hlo : (s : Int) ^ x ≤ (a : Int) := by have := hroot.1; rw [← Int.natCast_pow]; omega
      have hhi : (a : Int) < ((s : Int) + 1) ^ x := by
        have h2 := hroot.2 (s + 1)
        have h3 : a < (s + 1) ^ x := by
          rcases Nat.lt_or_ge a ((s + 1) ^ x) with h | h
          · exact h
          · have := h2 h; omega
        have h4 : ((s : Int) + 1) ^ x = (((s + 1) ^ x : Nat) : Int) := by rw [Int.natCast_pow]; rfl
        rw [h4]; omega
      have hpw : (a : Int) ^ x = ((a ^ x : Nat) : Int) := by rw [Int.natCast_pow]
      have T8 := Lib.hid (Nat.le_trans e1 (show 6 ≤ 300 by decide))
      have T9 := Lib.hid (Nat.le_trans es (show 6 ≤ 300 by decide))
      have T10 := Lib.hid (Nat.le_trans (len_pow es x) (show 6 * x + 1 ≤ 300 by omega))
      have T11 := Lib.hid (Nat.le_trans e7 (show 6 + 1 ≤ 300 by decide))
      have T12 := Lib.hid (Nat.le_trans (len_pow e7 x) (show (6 + 1) * x + 1 ≤ 300 by omega))
      have R1 := fun s' A' c' l' W' h1 hc (k : OkZ s' l' ((a : Int) ^ x)) => Root_z s' x A' c' l' (a ^ x) W' h1 hc (by rw [← hpw]; exact k) hx1 (by omega) a (rootN_pow hx1) T8.out
      have R2 := fun W' h1 hc => Root_z false x A1 c1 l1 a W' h1 hc z1 hx1 (by omega) s hs T9.out
      have R3 := fun s' A' c' l' W' h1 hc (k : OkZ s' l' (s : Int)) => Pow_z s' x A' c' l' (s : Int) W' h1 hc k (by omega) T10.out
      have R4 := fun s' A' c' l' W' h1 hc (k : OkZ s' l' ((s : Int) + 1)) => Pow_z s' x A' c' l' ((s : Int) + 1) W' h1 hc k (by omega) T12.out
      obtain ⟨v1, hv1⟩ : ∃ v, cmpZ ((s : Int) ^ x) (a : Int) = v := ⟨_, rfl⟩
      obtain ⟨v2, hv2⟩ : ∃ v, cmpZ (a : Int) (((s : Int) + 1) ^ x) = v := ⟨_, rfl⟩
      have hv1' : v1 ≤ 0 := by rw [← hv1]; exact cmp_le hlo
      have hv2' : v2 < 0 := by rw [← hv2]; exact cmp_lt hhi
      have C1 := fun s' A' c' l' W' h1 h2 k1 k2 (k : OkZ s' l' ((s : Int) ^ x)) => Compare_z s' false A' A1 c' c1 l' l1 _ (a : Int) W' h1 h2 k1 k2 k z1
      have C2 := fun s' A' c' l' W' h1 h2 k1 k2 (k : OkZ s' l' (((s : Int) + 1) ^ x)) => Compare_z false s' A1 A' c1 c' l1 l' (a : Int) _ W' h1 h2 k1 k2 z1 k
      rw [hv1] at C1
      rw [hv2] at C2
      have dv1 : decide (v1 ≤ 0) = true := decide_eq_true hv1'
      have dv2 : decide (v2 < 0) = true := decide_eq_true hv2'
      clear hroot hsa es o1 e7 hlo hhi hpw hv1 hv2 hs e1 tx ty hs1 hxy T3 T4 T5 T8 T9 T10 T12
      go_enter Tryd.func13, Tryd.ntmps13
      go_wp2_with first
        | (go_at_call 21; have hmark := by16; refine (R3 s8 A8 c8 l8 _ B8.rd B8.cap z8).mono ?_; rintro e w17 ⟨s9, A9, c9, l9, rfl, z9, n9, r9, b17⟩; obtain ⟨bx17, B9⟩ := one_box w17 s9 A9 c9 l9 r9 n9; have by17 := (by16.trans (b17.mono by16.size)).trans (bx17.mono (by16.trans (b17.mono by16.size)).size); replace B1 := (B1.on b17).on bx17; replace B3 := (B3.on b17).on bx17; replace B4 := (B4.on b17).on bx17; replace B5 := (B5.on b17).on bx17; replace B6 := (B6.on b17).on bx17; replace B7 := (B7.on b17).on bx17; replace B8 := (B8.on b17).on bx17; clear bx17 b17; clear u8a u8b)
        | (go_at_call 22; have hmark := by15; refine (R2 _ B1.rd B1.cap).mono ?_; rintro e w16 ⟨s8, A8, c8, l8, rfl, z8, n8, r8, b16⟩; obtain ⟨bx16, B8⟩ := one_box w16 s8 A8 c8 l8 r8 n8; have by16 := (by15.trans (b16.mono by15.size)).trans (bx16.mono (by15.trans (b16.mono by15.size)).size); replace B1 := (B1.on b16).on bx16; replace B3 := (B3.on b16).on bx16; replace B4 := (B4.on b16).on bx16; replace B5 := (B5.on b16).on bx16; replace B6 := (B6.on b16).on bx16; replace B7 := (B7.on b16).on bx16; clear bx16 b16; clear u1a u1b; have u8a := cell_at B8.blk 0 _ rfl; have u8b := cell_at B8.blk 1 _ rfl)
        | (go_at_call 22; have hmark := by14; refine (R1 s3 A3 c3 l3 _ B3.rd B3.cap z3).mono ?_; rintro e w15 ⟨s7, A7, c7, l7, rfl, z7, n7, r7, b15⟩; obtain ⟨bx15, B7⟩ := one_box w15 s7 A7 c7 l7 r7 n7; have by15 := (by14.trans (b15.mono by14.size)).trans (bx15.mono (by14.trans (b15.mono by14.size)).size); replace B1 := (B1.on b15).on bx15; replace B3 := (B3.on b15).on bx15; replace B4 := (B4.on b15).on bx15; replace B5 := (B5.on b15).on bx15; replace B6 := (B6.on b15).on bx15; clear bx15 b15; clear u1a u1b; clear u3a u3b; have u1a := cell_at B1.blk 0 _ rfl; have u1b := cell_at B1.blk 1 _ rfl)
        | (go_at_call 20; have hmark := by13; refine (Same_z s5 s6 A5 A6 c5 c6 l5 l6 _ _ _ B5.rd B6.rd B5.cap B6.cap z5 z6 Q.out).mono ?_; rintro e w14 ⟨rfl, b14⟩; have by14 := by13.trans (b14.mono by13.size); replace B1 := B1.on b14; replace B3 := B3.on b14; replace B4 := B4.on b14; replace B5 := B5.on b14; replace B6 := B6.on b14; clear b14; clear u5a u5b; clear u6a u6b; have u1a := cell_at B1.blk 0 _ rfl; have u1b := cell_at B1.blk 1 _ rfl; have u3a := cell_at B3.blk 0 _ rfl; have u3b := cell_at B3.blk 1 _ rfl)
        | (go_at_call 39; have hmark := by12; refine (Mul_z s3 s4 A3 A4 c3 c4 l3 l4 _ _ _ B3.rd B4.rd B3.cap B4.cap z3 z4 T6.out).mono ?_; rintro e w13 ⟨s6, A6, c6, l6, rfl, z6, n6, r6, b13⟩; obtain ⟨bx13, B6⟩ := one_box w13 s6 A6 c6 l6 r6 n6; have by13 := (by12.trans (b13.mono by12.size)).trans (bx13.mono (by12.trans (b13.mono by12.size)).size); replace B1 := (B1.on b13).on bx13; replace B3 := (B3.on b13).on bx13; replace B4 := (B4.on b13).on bx13; replace B5 := (B5.on b13).on bx13; clear bx13 b13; clear u3a u3b; clear u4a u4b; have u5a := cell_at B5.blk 0 _ rfl; have u5b := cell_at B5.blk 1 _ rfl; have u6a := cell_at B6.blk 0 _ rfl; have u6b := cell_at B6.blk 1 _ rfl)
        | (go_at_call 21; have hmark := by11; refine (K5 _ B1.rd B1.cap).mono ?_; rintro e w12 ⟨s5, A5, c5, l5, rfl, z5, n5, r5, b12⟩; obtain ⟨bx12, B5⟩ := one_box w12 s5 A5 c5 l5 r5 n5; have by12 := (by11.trans (b12.mono by11.size)).trans (bx12.mono (by11.trans (b12.mono by11.size)).size); replace B1 := (B1.on b12).on bx12; replace B3 := (B3.on b12).on bx12; replace B4 := (B4.on b12).on bx12; clear bx12 b12; clear u1a u1b; have u3a := cell_at B3.blk 0 _ rfl; have u3b := cell_at B3.blk 1 _ rfl; have u4a := cell_at B4.blk 0 _ rfl; have u4b := cell_at B4.blk 1 _ rfl)
        | (go_at_call 21; have hmark := by10; refine (K4 _ B1.rd B1.cap).mono ?_; rintro e w11 ⟨s4, A4, c4, l4, rfl, z4, n4, r4, b11⟩; obtain ⟨bx11, B4⟩ := one_box w11 s4 A4 c4 l4 r4 n4; have by11 := (by10.trans (b11.mono by10.size)).trans (bx11.mono (by10.trans (b11.mono by10.size)).size); replace B1 := (B1.on b11).on bx11; replace B3 := (B3.on b11).on bx11; clear bx11 b11; clear u1a u1b; have u1a := cell_at B1.blk 0 _ rfl; have u1b := cell_at B1.blk 1 _ rfl)
        | (go_at_call 21; have hmark := by9; refine (K3 _ B1.rd B1.cap).mono ?_; rintro e w10 ⟨s3, A3, c3, l3, rfl, z3, n3, r3, b10⟩; obtain ⟨bx10, B3⟩ := one_box w10 s3 A3 c3 l3 r3 n3; have by10 := (by9.trans (b10.mono by9.size)).trans (bx10.mono (by9.trans (b10.mono by9.size)).size); replace B1 := (B1.on b10).on bx10; clear bx10 b10; clear u1a u1b; have u1a := cell_at B1.blk 0 _ rfl; have u1b := cell_at B1.blk 1 _ rfl)
        | (go_at_call 35; refine f60.mono ?_; rintro e w4 ⟨rfl, b4⟩; have by9 := (hal (.cells #[.bool false, .slice A1 l1.length c1] 24)).trans (b4.mono (hal (.cells #[.bool false, .slice A1 l1.length c1] 24)).size); replace B1 := B1.on by9; have u1a := cell_at B1.blk 0 _ rfl; have u1b := cell_at B1.blk 1 _ rfl)
      have hdX := hdW.on by17
      obtain ⟨X, hX⟩ : ∃ X, w17.alloc (.cells #[.bool s9, .slice A9 l9.length c9] 24) = X := ⟨_, rfl⟩
      rw [hX] at B1 B7 B8 B9 hdX by17 ⊢
      clear x0 x1
      have y8a : X.cell? ⟨w16.heap.size, 0, none⟩ = some (.bool s8) := cell_at B8.blk 0 _ rfl
      have y8b : X.cell? ⟨w16.heap.size, 1, none⟩ = some (.slice A8 l8.length c8) := cell_at B8.blk 1 _ rfl
      go_region_held3 (fun w'' => w''.cell? ⟨w16.heap.size, 0, none⟩ = some (.bool s8) ∧ w''.cell? ⟨w16.heap.size, 1, none⟩ = some (.slice A8 l8.length c8)) ((first | (with_reducible exact ⟨y8a, y8b⟩) | exact ⟨y8a, y8b⟩ | exact ⟨cell_al _ y8a, cell_al _ y8b⟩ | (have qS := (q51.setCell (p := ⟨X.heap.size, 0, none⟩) (Nat.le_refl _) (.bool s10)).setCell (p := ⟨X.heap.size, 1, none⟩) (Nat.le_refl _) (.slice A10 l10.length c10); exact ⟨cell_at (B8.on qS).blk 0 _ rfl, cell_at (B8.on qS).blk 1 _ rfl⟩) | (have qS := (q51.setCell (p := ⟨w50.heap.size, 0, none⟩) q50.size (.bool s10)).setCell (p := ⟨w50.heap.size, 1, none⟩) q50.size (.slice A10 l10.length c10); exact ⟨cell_at (B8.on qS).blk 0 _ rfl, cell_at (B8.on qS).blk 1 _ rfl⟩)))
        ((first
          | (go_at_call 42; have hmark := q50; refine (Add_z s8 s2 A8 A2 c8 c2 l8 l2 (s : Int) 1 _ (by first | exact B8.rd.on q50 | exact B8.rd.on (below_al q50 _)) (by first | exact r2 | exact r2.on (below_al (Below.refl _ w50) _)) B8.cap n2 z8 k2 T11.out).mono ?_; rintro e w51 ⟨s10, A10, c10, l10, rfl, z10, n10, r10, b51⟩; clear y8a y8b; have q51 : Below X.heap.size X w51 := (by first | exact q50.trans (b51.mono q50.size) | exact (below_al q50 _).trans (b51.mono (below_al q50 _).size)); (try (have N51 := (b51.block X.heap.size m50).trans N50; have n0 : w51.cell? ⟨X.heap.size, 0, none⟩ = some (.bool false) := cell_at N51 0 _ rfl; have n1 : w51.cell? ⟨X.heap.size, 1, none⟩ = some (.slice none 0 0) := cell_at N51 1 _ rfl; have fz0 : w51.frozen? ⟨X.heap.size, 0, none⟩ = false := frozen_at N51 0; have fz1 : w51.frozen? ⟨X.heap.size, 1, none⟩ = false := frozen_at N51 1)); (try (have N51 : w51.heap[w50.heap.size]? = some (.cells #[.bool false, .slice none 0 0] 24 (0, 0)) := (b51.block w50.heap.size (Nat.lt_of_lt_of_eq (Nat.lt_succ_self _) (World.size_alloc w50 _).symm)).trans (World.alloc_heap_new w50 _); have n0 : w51.cell? ⟨w50.heap.size, 0, none⟩ = some (.bool false) := cell_at N51 0 _ rfl; have n1 : w51.cell? ⟨w50.heap.size, 1, none⟩ = some (.slice none 0 0) := cell_at N51 1 _ rfl; have fz0 : w51.frozen? ⟨w50.heap.size, 0, none⟩ = false := frozen_at N51 0; have fz1 : w51.frozen? ⟨w50.heap.size, 1, none⟩ = false := frozen_at N51 1)); have y8a : w51.cell? ⟨w16.heap.size, 0, none⟩ = some (.bool s8) := cell_at (B8.on q51).blk 0 _ rfl; have y8b : w51.cell? ⟨w16.heap.size, 1, none⟩ = some (.slice A8 l8.length c8) := cell_at (B8.on q51).blk 1 _ rfl)
          | (go_at_call 40; refine (ROf_calls 1 _ (by decide) (by decide)).mono ?_; rintro e w50 ⟨s2, A2, c2, l2, rfl, z2, n2, r2, b50⟩; clear y8a y8b; have q50 : Below X.heap.size X w50 := (by first | exact (below_drew (Below.refl _ X)).trans b50 | exact (below_al (below_drew (Below.refl _ X)) _).trans (b50.mono (below_al (below_drew (Below.refl _ X)) _).size) | exact (below_al (Below.refl _ X) _).trans (b50.mono (below_al (Below.refl _ X) _).size) | exact (below_drew (below_al (Below.refl _ X) _)).trans (b50.mono (below_drew (below_al (Below.refl _ X) _)).size)); have k2 := z2.okZ (by decide); (try (have N50 : w50.heap[X.heap.size]? = some (.cells #[.bool false, .slice none 0 0] 24 (0, 0)) := (b50.block X.heap.size (Nat.lt_of_lt_of_eq (Nat.lt_succ_self _) (World.size_alloc X.drew _).symm)).trans (World.alloc_heap_new X.drew _); have m50 : X.heap.size < w50.heap.size := Nat.lt_of_lt_of_le (Nat.lt_of_lt_of_eq (Nat.lt_succ_self _) (World.size_alloc X.drew _).symm) b50.size)); have y8a : w50.cell? ⟨w16.heap.size, 0, none⟩ = some (.bool s8) := cell_at (B8.on q50).blk 0 _ rfl; have y8b : w50.cell? ⟨w16.heap.size, 1, none⟩ = some (.slice A8 l8.length c8) := cell_at (B8.on q50).blk 1 _ rfl)))
      · obtain ⟨bx, B10⟩ := one_box w51 s10 A10 c10 l10 r10 n10
        have qE := q51.trans (bx.mono q51.size)
        obtain ⟨Y, hY⟩ : ∃ Y, w51.alloc (.cells #[.bool s10, .slice A10 l10.length c10] 24) = Y := ⟨_, rfl⟩
        rw [hY] at B10 qE ⊢
        have byE := by17.trans (qE.mono by17.size)
        replace B1 := B1.on qE
        replace B7 := B7.on qE
        replace B9 := B9.on qE
        have hdE := hdX.on qE
        clear hY hX y8a y8b
        have u10a := cell_at B10.blk 0 _ rfl
        have u10b := cell_at B10.blk 1 _ rfl
        go_wp2_with first
          | (go_at_call 47; have hmark := by63; refine (C2 s11 A11 c11 l11 _ B1.rd B11.rd B1.cap B11.cap z11).mono ?_; rintro e w64 ⟨rfl, b64⟩; have by64 := by63.trans (b64.mono by63.size); replace B1 := B1.on b64; replace B7 := B7.on b64; replace B9 := B9.on b64; replace B10 := B10.on b64; replace B11 := B11.on b64; clear b64; clear u1a u1b; clear u11a u11b)
          | (go_at_call 47; have hmark := by62; refine (C1 s9 A9 c9 l9 _ B9.rd B1.rd B9.cap B1.cap z9).mono ?_; rintro e w63 ⟨rfl, b63⟩; have by63 := by62.trans (b63.mono by62.size); replace B1 := B1.on b63; replace B7 := B7.on b63; replace B9 := B9.on b63; replace B10 := B10.on b63; replace B11 := B11.on b63; clear b63; clear u1a u1b; clear u9a u9b; have u1a := cell_at B1.blk 0 _ rfl; have u1b := cell_at B1.blk 1 _ rfl; have u11a := cell_at B11.blk 0 _ rfl; have u11b := cell_at B11.blk 1 _ rfl)
          | (go_at_call 20; have hmark := by61; refine (Same_z s7 false A7 A1 c7 c1 l7 l1 _ _ _ B7.rd B1.rd B7.cap B1.cap z7 z1 rfl).mono ?_; rintro e w62 ⟨rfl, b62⟩; have by62 := by61.trans (b62.mono by61.size); replace B1 := B1.on b62; replace B7 := B7.on b62; replace B9 := B9.on b62; replace B10 := B10.on b62; replace B11 := B11.on b62; clear b62; clear u1a u1b; clear u7a u7b; have u1a := cell_at B1.blk 0 _ rfl; have u1b := cell_at B1.blk 1 _ rfl; have u9a := cell_at B9.blk 0 _ rfl; have u9b := cell_at B9.blk 1 _ rfl)
          | (go_at_call 17; have hmark := by60; refine (sane_calls _ (hdW.on by60)).mono ?_; rintro e w61 ⟨rfl, b61⟩; have by61 := by60.trans (b61.mono by60.size); replace B1 := B1.on b61; replace B7 := B7.on b61; replace B9 := B9.on b61; replace B10 := B10.on b61; replace B11 := B11.on b61; clear b61; have u1a := cell_at B1.blk 0 _ rfl; have u1b := cell_at B1.blk 1 _ rfl; have u7a := cell_at B7.blk 0 _ rfl; have u7b := cell_at B7.blk 1 _ rfl)
          | (go_at_call 21; have hmark := byE; refine (R4 s10 A10 c10 l10 _ B10.rd B10.cap z10).mono ?_; rintro e w60 ⟨s11, A11, c11, l11, rfl, z11, n11, r11, b60⟩; obtain ⟨bx60, B11⟩ := one_box w60 s11 A11 c11 l11 r11 n11; have by60 := (byE.trans (b60.mono byE.size)).trans (bx60.mono (byE.trans (b60.mono byE.size)).size); replace B1 := (B1.on b60).on bx60; replace B7 := (B7.on b60).on bx60; replace B9 := (B9.on b60).on bx60; replace B10 := (B10.on b60).on bx60; clear bx60 b60; clear u10a u10b)
        go_ret
        exact ⟨rfl, hbw.trans (by64.mono hbw.size)⟩
      · have B10 : IntBox ((w51.setCell ⟨w50.heap.size, 0, none⟩ (.bool s10)).setCell ⟨w50.heap.size, 1, none⟩ (.slice A10 l10.length c10)) w50.heap.size s10 A10 c10 l10 := ⟨set_blk (set_blk N51 0 _) 1 _, rd_sets r10 ⟨N51⟩ _ _, n10⟩
        have qE := (q51.setCell (p := ⟨w50.heap.size, 0, none⟩) q50.size (.bool s10)).setCell (p := ⟨w50.heap.size, 1, none⟩) q50.size (.slice A10 l10.length c10)
        obtain ⟨Y, hY⟩ : ∃ Y, (w51.setCell ⟨w50.heap.size, 0, none⟩ (.bool s10)).setCell ⟨w50.heap.size, 1, none⟩ (.slice A10 l10.length c10) = Y := ⟨_, rfl⟩
        rw [hY] at B10 qE ⊢
        have byE := by17.trans (qE.mono by17.size)
        replace B1 := B1.on qE
        replace B7 := B7.on qE
        replace B9 := B9.on qE
        have hdE := hdX.on qE
        clear hY hX y8a y8b
        have u10a := cell_at B10.blk 0 _ rfl
        have u10b := cell_at B10.blk 1 _ rfl
        go_wp2_with first
          | (go_at_call 47; have hmark := by63; refine (C2 s11 A11 c11 l11 _ B1.rd B11.rd B1.cap B11.cap z11).mono ?_; rintro e w64 ⟨rfl, b64⟩; have by64 := by63.trans (b64.mono by63.size); replace B1 := B1.on b64; replace B7 := B7.on b64; replace B9 := B9.on b64; replace B10 := B10.on b64; replace B11 := B11.on b64; clear b64; clear u1a u1b; clear u11a u11b)
          | (go_at_call 47; have hmark := by62; refine (C1 s9 A9 c9 l9 _ B9.rd B1.rd B9.cap B1.cap z9).mono ?_; rintro e w63 ⟨rfl, b63⟩; have by63 := by62.trans (b63.mono by62.size); replace B1 := B1.on b63; replace B7 := B7.on b63; replace B9 := B9.on b63; replace B10 := B10.on b63; replace B11 := B11.on b63; clear b63; clear u1a u1b; clear u9a u9b; have u1a := cell_at B1.blk 0 _ rfl; have u1b := cell_at B1.blk 1 _ rfl; have u11a := cell_at B11.blk 0 _ rfl; have u11b := cell_at B11.blk 1 _ rfl)
          | (go_at_call 20; have hmark := by61; refine (Same_z s7 false A7 A1 c7 c1 l7 l1 _ _ _ B7.rd B1.rd B7.cap B1.cap z7 z1 rfl).mono ?_; rintro e w62 ⟨rfl, b62⟩; have by62 := by61.trans (b62.mono by61.size); replace B1 := B1.on b62; replace B7 := B7.on b62; replace B9 := B9.on b62; replace B10 := B10.on b62; replace B11 := B11.on b62; clear b62; clear u1a u1b; clear u7a u7b; have u1a := cell_at B1.blk 0 _ rfl; have u1b := cell_at B1.blk 1 _ rfl; have u9a := cell_at B9.blk 0 _ rfl; have u9b := cell_at B9.blk 1 _ rfl)
          | (go_at_call 17; have hmark := by60; refine (sane_calls _ (hdW.on by60)).mono ?_; rintro e w61 ⟨rfl, b61⟩; have by61 := by60.trans (b61.mono by60.size); replace B1 := B1.on b61; replace B7 := B7.on b61; replace B9 := B9.on b61; replace B10 := B10.on b61; replace B11 := B11.on b61; clear b61; have u1a := cell_at B1.blk 0 _ rfl; have u1b := cell_at B1.blk 1 _ rfl; have u7a := cell_at B7.blk 0 _ rfl; have u7b := cell_at B7.blk 1 _ rfl)
          | (go_at_call 21; have hmark := byE; refine (R4 s10 A10 c10 l10 _ B10.rd B10.cap z10).mono ?_; rintro e w60 ⟨s11, A11, c11, l11, rfl, z11, n11, r11, b60⟩; obtain ⟨bx60, B11⟩ := one_box w60 s11 A11 c11 l11 r11 n11; have by60 := (byE.trans (b60.mono byE.size)).trans (bx60.mono (byE.trans (b60.mono byE.size)).size); replace B1 := (B1.on b60).on bx60; replace B7 := (B7.on b60).on bx60; replace B9 := (B9.on b60).on bx60; replace B10 := (B10.on b60).on bx60; clear bx60 b60; clear u10a u10b)
        go_ret
        exact ⟨rfl, hbw.trans (by64.mono hbw.size)⟩
      · have B10 : IntBox ((w51.setCell ⟨X.heap.size, 0, none⟩ (.bool s10)).setCell ⟨X.heap.size, 1, none⟩ (.slice A10 l10.length c10)) X.heap.size s10 A10 c10 l10 := ⟨set_blk (set_blk N51 0 _) 1 _, rd_sets r10 ⟨N51⟩ _ _, n10⟩
        have qE := (q51.setCell (p := ⟨X.heap.size, 0, none⟩) (Nat.le_refl _) (.bool s10)).setCell (p := ⟨X.heap.size, 1, none⟩) (Nat.le_refl _) (.slice A10 l10.length c10)
        obtain ⟨Y, hY⟩ : ∃ Y, (w51.setCell ⟨X.heap.size, 0, none⟩ (.bool s10)).setCell ⟨X.heap.size, 1, none⟩ (.slice A10 l10.length c10) = Y := ⟨_, rfl⟩
        rw [hY] at B10 qE ⊢
        have byE := by17.trans (qE.mono by17.size)
        replace B1 := B1.on qE
        replace B7 := B7.on qE
        replace B9 := B9.on qE
        have hdE := hdX.on qE
        clear hY hX y8a y8b
        have u10a := cell_at B10.blk 0 _ rfl
        have u10b := cell_at B10.blk 1 _ rfl
        go_wp2_with first
          | (go_at_call 47; have hmark := by63; refine (C2 s11 A11 c11 l11 _ B1.rd B11.rd B1.cap B11.cap z11).mono ?_; rintro e w64 ⟨rfl, b64⟩; have by64 := by63.trans (b64.mono by63.size); replace B1 := B1.on b64; replace B7 := B7.on b64; replace B9 := B9.on b64; replace B10 := B10.on b64; replace B11 := B11.on b64; clear b64; clear u1a u1b; clear u11a u11b)
          | (go_at_call 47; have hmark := by62; refine (C1 s9 A9 c9 l9 _ B9.rd B1.rd B9.cap B1.cap z9).mono ?_; rintro e w63 ⟨rfl, b63⟩; have by63 := by62.trans (b63.mono by62.size); replace B1 := B1.on b63; replace B7 := B7.on b63; replace B9 := B9.on b63; replace B10 := B10.on b63; replace B11 := B11.on b63; clear b63; clear u1a u1b; clear u9a u9b; have u1a := cell_at B1.blk 0 _ rfl; have u1b := cell_at B1.blk 1 _ rfl; have u11a := cell_at B11.blk 0 _ rfl; have u11b := cell_at B11.blk 1 _ rfl)
          | (go_at_call 20; have hmark := by61; refine (Same_z s7 false A7 A1 c7 c1 l7 l1 _ _ _ B7.rd B1.rd B7.cap B1.cap z7 z1 rfl).mono ?_; rintro e w62 ⟨rfl, b62⟩; have by62 := by61.trans (b62.mono by61.size); replace B1 := B1.on b62; replace B7 := B7.on b62; replace B9 := B9.on b62; replace B10 := B10.on b62; replace B11 := B11.on b62; clear b62; clear u1a u1b; clear u7a u7b; have u1a := cell_at B1.blk 0 _ rfl; have u1b := cell_at B1.blk 1 _ rfl; have u9a := cell_at B9.blk 0 _ rfl; have u9b := cell_at B9.blk 1 _ rfl)
          | (go_at_call 17; have hmark := by60; refine (sane_calls _ (hdW.on by60)).mono ?_; rintro e w61 ⟨rfl, b61⟩; have by61 := by60.trans (b61.mono by60.size); replace B1 := B1.on b61; replace B7 := B7.on b61; replace B9 := B9.on b61; replace B10 := B10.on b61; replace B11 := B11.on b61; clear b61; have u1a := cell_at B1.blk 0 _ rfl; have u1b := cell_at B1.blk 1 _ rfl; have u7a := cell_at B7.blk 0 _ rfl; have u7b := cell_at B7.blk 1 _ rfl)
          | (go_at_call 21; have hmark := byE; refine (R4 s10 A10 c10 l10 _ B10.rd B10.cap z10).mono ?_; rintro e w60 ⟨s11, A11, c11, l11, rfl, z11, n11, r11, b60⟩; obtain ⟨bx60, B11⟩ := one_box w60 s11 A11 c11 l11 r11 n11; have by60 := (byE.trans (b60.mono byE.size)).trans (bx60.mono (byE.trans (b60.mono byE.size)).size); replace B1 := (B1.on b60).on bx60; replace B7 := (B7.on b60).on bx60; replace B9 := (B9.on b60).on bx60; replace B10 := (B10.on b60).on bx60; clear bx60 b60; clear u10a u10b)
        go_ret
        exact ⟨rfl, hbw.trans (by64.mono hbw.size)⟩
    · have hxb : ((x : Int) == 0) = false := by rw [beq_eq_false_iff_ne]; omega
      have hxb2 : (x == 0) = false := by rw [beq_eq_false_iff_ne]; omega
      clear hs1 e1 tx ty hxy hx0 T3 T4 T5
      go_enter Tryd.func13, Tryd.ntmps13
      go_wp2_with first
        | (go_at_call 17; have hmark := by14; refine (sane_calls _ (hdW.on by14)).mono ?_; rintro e w15 ⟨rfl, b15⟩; have by15 := by14.trans (b15.mono by14.size); replace B1 := B1.on b15; replace B3 := B3.on b15; replace B4 := B4.on b15; replace B5 := B5.on b15; replace B6 := B6.on b15; clear b15; clear u1a u1b)
        | (go_at_call 20; have hmark := by13; refine (Same_z s5 s6 A5 A6 c5 c6 l5 l6 _ _ _ B5.rd B6.rd B5.cap B6.cap z5 z6 Q.out).mono ?_; rintro e w14 ⟨rfl, b14⟩; have by14 := by13.trans (b14.mono by13.size); replace B1 := B1.on b14; replace B3 := B3.on b14; replace B4 := B4.on b14; replace B5 := B5.on b14; replace B6 := B6.on b14; clear b14; clear u5a u5b; clear u6a u6b; have u1a := cell_at B1.blk 0 _ rfl; have u1b := cell_at B1.blk 1 _ rfl)
        | (go_at_call 39; have hmark := by12; refine (Mul_z s3 s4 A3 A4 c3 c4 l3 l4 _ _ _ B3.rd B4.rd B3.cap B4.cap z3 z4 T6.out).mono ?_; rintro e w13 ⟨s6, A6, c6, l6, rfl, z6, n6, r6, b13⟩; obtain ⟨bx13, B6⟩ := one_box w13 s6 A6 c6 l6 r6 n6; have by13 := (by12.trans (b13.mono by12.size)).trans (bx13.mono (by12.trans (b13.mono by12.size)).size); replace B1 := (B1.on b13).on bx13; replace B3 := (B3.on b13).on bx13; replace B4 := (B4.on b13).on bx13; replace B5 := (B5.on b13).on bx13; clear bx13 b13; clear u3a u3b; clear u4a u4b; have u5a := cell_at B5.blk 0 _ rfl; have u5b := cell_at B5.blk 1 _ rfl; have u6a := cell_at B6.blk 0 _ rfl; have u6b := cell_at B6.blk 1 _ rfl)
        | (go_at_call 21; have hmark := by11; refine (K5 _ B1.rd B1.cap).mono ?_; rintro e w12 ⟨s5, A5, c5, l5, rfl, z5, n5, r5, b12⟩; obtain ⟨bx12, B5⟩ := one_box w12 s5 A5 c5 l5 r5 n5; have by12 := (by11.trans (b12.mono by11.size)).trans (bx12.mono (by11.trans (b12.mono by11.size)).size); replace B1 := (B1.on b12).on bx12; replace B3 := (B3.on b12).on bx12; replace B4 := (B4.on b12).on bx12; clear bx12 b12; clear u1a u1b; have u3a := cell_at B3.blk 0 _ rfl; have u3b := cell_at B3.blk 1 _ rfl; have u4a := cell_at B4.blk 0 _ rfl; have u4b := cell_at B4.blk 1 _ rfl)
        | (go_at_call 21; have hmark := by10; refine (K4 _ B1.rd B1.cap).mono ?_; rintro e w11 ⟨s4, A4, c4, l4, rfl, z4, n4, r4, b11⟩; obtain ⟨bx11, B4⟩ := one_box w11 s4 A4 c4 l4 r4 n4; have by11 := (by10.trans (b11.mono by10.size)).trans (bx11.mono (by10.trans (b11.mono by10.size)).size); replace B1 := (B1.on b11).on bx11; replace B3 := (B3.on b11).on bx11; clear bx11 b11; clear u1a u1b; have u1a := cell_at B1.blk 0 _ rfl; have u1b := cell_at B1.blk 1 _ rfl)
        | (go_at_call 21; have hmark := by9; refine (K3 _ B1.rd B1.cap).mono ?_; rintro e w10 ⟨s3, A3, c3, l3, rfl, z3, n3, r3, b10⟩; obtain ⟨bx10, B3⟩ := one_box w10 s3 A3 c3 l3 r3 n3; have by10 := (by9.trans (b10.mono by9.size)).trans (bx10.mono (by9.trans (b10.mono by9.size)).size); replace B1 := (B1.on b10).on bx10; clear bx10 b10; clear u1a u1b; have u1a := cell_at B1.blk 0 _ rfl; have u1b := cell_at B1.blk 1 _ rfl)
        | (go_at_call 35; refine f60.mono ?_; rintro e w4 ⟨rfl, b4⟩; have by9 := (hal (.cells #[.bool true, .slice A1 l1.length c1] 24)).trans (b4.mono (hal (.cells #[.bool true, .slice A1 l1.length c1] 24)).size); replace B1 := B1.on by9; have u1a := cell_at B1.blk 0 _ rfl; have u1b := cell_at B1.blk 1 _ rfl)
      go_ret
      exact ⟨rfl, hbw.trans (by15.mono hbw.size)⟩

end Nm
end Go.Proofs.YtlhmbbpkhahbeaaDoor
namespace Go.Proofs.YtlhmbbpkhahbeaaDoor
namespace Nm
open Go.ChangeShapes Go.WideShapes Go.ChangeAt Go.WideMaps Go.WideElems Go.RowKit

set_option maxRecDepth 100000 in
theorem numPowersAdd_lifted (os : Os) (started : os.Started) (H : Type) (enc : TypeId × Value → H) :
    ReturnsInHanded {} Tryd.checked os 13 .any (fun w args => (Rows.numPowersAddSpec.pre enc Tryd.prog Tryd.f13 [] false w args ∧ laidMetH Tryd.prog laidL w) ∧ sizedMet enc Tryd.prog Tryd.f13 (OpenSpec.ofChange Rows.numPowersAddSpec) false w args)
      (Rows.numPowersAddSpec.post enc Tryd.prog Tryd.f13 false true false false) := by
  refine returnsInHanded_of_change_and (C := Tryd.checked) (X := fun w _ => laidMetH Tryd.prog laidL w) (fun _ _ _ hh h => h.of_heap hh) own started (by kernel_rfl) Tryd.func13
    (ChangeSpec.witness_shaped (enc := enc) (C := Tryd.checked) (os := os) (X := fun w _ => laidMetH Tryd.prog laidL w) false (World.doorLaid Tryd.prog 14 os) #[.agg #[.bool false, .slice none 0 0], .int .u8 0, .int .u8 0] 8 rfl (World.shaped_of_RefB (by kernel_rfl) (by kernel_rfl)) (by kernel_rfl) (by kernel_rfl) (by kernel_rfl) (door_met os _)) ?_
  intro W base args ds gs before hval0 hW _ hsz0 hL _
  have hval : ∀ (j : Nat) t v, Tryd.f13.params[j]? = some t → args[j]? = some v → Value.okWide Tryd.prog W .any base t v := hval0
  have hsz : (DataW.weightsEach Tryd.prog (Tryd.f13.params.toList ++ Rows.numPowersAddSpec.plain.varTypes Tryd.prog) (ds ++ gs)).all (· ≤ reachBytes) = true := hsz0
  have hW' := hW
  obtain ⟨p, q, hA0, hV, rfl, hfz, hnd⟩ := hW
  have hA : DataW.TrodAll enc Tryd.prog W 0 (fun _ => true) true Tryd.f13.params.toList args.toList ds p := hA0
  rw [Tryd.params13] at hA hval hsz
  obtain ⟨v0, v1, v2, d0, d1, d2, p0, p1, p2, rfl, rfl, rfl, h0, h1, h2⟩ := trodAll_three hA
  obtain ⟨rfl, rfl⟩ := trodVars_none hV
  have hw0 : ∀ n ∈ d0.weights Tryd.prog 24, n ≤ reachBytes := fun n hn => by simpa using List.all_eq_true.1 hsz n (DataW.weights_mem_each (j := 0) rfl rfl n hn)
  obtain ⟨n1, A1, c1, l1, rfl, r1, k1⟩ := open_intZ (hval 0 _ v0 rfl rfl) h0 hw0
  obtain ⟨z2, rfl, rfl, rfl, wf2⟩ := open_int Tryd.underlying5 (hval 1 _ v1 rfl rfl) h1
  have bd2 : 0 ≤ z2 ∧ z2 < 256 := by have h := wf2; simp [Lit.wf, IntKind.min, IntKind.max, IntKind.signed, IntKind.bits] at h; omega
  obtain ⟨x2, rfl⟩ : ∃ x : Nat, z2 = (x : Int) := ⟨z2.toNat, by omega⟩
  have bn2 : x2 < 256 := by omega
  obtain ⟨z3, rfl, rfl, rfl, wf3⟩ := open_int Tryd.underlying5 (hval 2 _ v2 rfl rfl) h2
  have bd3 : 0 ≤ z3 ∧ z3 < 256 := by have h := wf3; simp [Lit.wf, IntKind.min, IntKind.max, IntKind.signed, IntKind.bits] at h; omega
  obtain ⟨x3, rfl⟩ : ∃ x : Nat, z3 = (x : Int) := ⟨z3.toNat, by omega⟩
  have bn3 : x3 < 256 := by omega
  have hd := dig_of_laid hL
  clear hA0 hval0
  try simp only [List.append_nil] at hW'
  have hlt : ∀ x ∈ p0, x.block < W.heap.size := fun x hx => hW'.lt x (by simpa using hx)
  refine (NumPowersAdd_calls n1 A1 c1 l1 x2 x3 W r1 k1 bn2 bn3 hd).mono fun e W' ⟨he, hb⟩ => ?_
  subst he
  refine ⟨_, rfl, _, _, _, [], _, [], hW', trodAll_mk1 (shut_bool uBool true), trodAll_mk3 (Below.trod laidOut (by kernel_rfl) (of_decide_eq_true (by kernel_rfl)) h0 hb (fun x hx => hlt x (by simp [hx]))) (shut_int Tryd.underlying5 wf2) (shut_int Tryd.underlying5 wf3), rfl, hb.frame _, fun h => by cases h⟩

theorem numPowersAdd_holds : Rows.NumPowersAddSaid :=
  OpenClaim.holds_of_wide 13 Tryd.f13 rfl rfl rfl rfl rfl rfl rfl ⟨rfl, rfl, rfl, rfl, rfl⟩ rfl rfl rfl rfl rfl (by kernel_rfl) Tryd.func13 (by kernel_rfl)
    (of_decide_eq_true (by kernel_rfl)) (by unfold Func.isWrapper; first | (rw [if_pos (by decide +kernel)]; kernel_rfl) | (rw [if_neg (by decide +kernel)]; exact ⟨rfl, rfl⟩))
    (fun os started H enc _ => numPowersAdd_lifted os started H enc)

theorem numPowersAdd_card : Rows.NumPowersAddCardSaid :=
  Claim7.holds_tied_plain_at .later [] [.data] true (true, "81631b405a98d3f071c31393904156c9da5fef14bbd5c556ce9417642a36c1bb") true
    numPowersAdd_holds (fun _ h => by cases h) (by kernel_rfl) (fun _ h => by cases h) numPowersAdd_row_tie rfl ⟨rfl, rfl⟩ (by kernel_rfl) rfl
    (fun f fn hf hfn => by
      obtain rfl : f = 13 := Option.some.inj ((show Tryd.prog.funcNamed "zermelo/zermelolaw01.NumPowersAdd" = some 13 by kernel_rfl).symm.trans hf) |>.symm
      obtain rfl : fn = Tryd.f13 := (Option.some.inj (Tryd.func13.symm.trans hfn)).symm
      exact ⟨by kernel_rfl, fun j t ht => by
        have hp := Tryd.params13
        rw [hp] at ht
        have hall : (Tryd.f13.params.toList.all fun u => !Tryd.prog.wantsStandIn u) = true := by kernel_rfl
        rw [hp] at hall
        have hm := Array.mem_toList_iff.2 (Array.mem_of_getElem? ht)
        exact (show Tryd.prog.wantsStandIn t = false by simpa using List.all_eq_true.1 hall t hm)⟩)
    (by kernel_rfl)

end Nm
end Go.Proofs.YtlhmbbpkhahbeaaDoor
