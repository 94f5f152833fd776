/-
  Div, Gcd, Pow, Bits, Root on integers that fit.
  The law NumDivisors: the walk.
  NumDivisors: the row, the card. For every input the law returns true. The integers that came in are whatever the row lets in; the digits' table reads as the program's text lays it (the card ties it).
-/
import Derived.Test.YtlhmbbpkhahbeaaDoorNumMhRng1
import Derived.Test.YtlhmbbpkhahbeaaDoorTie
import Derived.Test.YtlhmbbpkhahbeaaDoorCards
import Derived.SevenTiedAt
namespace Go.Proofs.YtlhmbbpkhahbeaaDoor
namespace Nm
open Go.RowKit Go.Shelf Go.BigFrame
attribute [local go_sem] Oper.semAt_some

theorem modZ_le (a b : Int) (hb : b ≠ 0) : (modZ a b).natAbs < b.natAbs := by
  unfold modZ divZ
  by_cases h : 0 < b
  · rw [if_pos h]
    have h1 := Int.emod_nonneg a hb
    have h2 := Int.emod_lt_of_pos a h
    have h3 := Int.mul_ediv_add_emod a b
    omega
  · rw [if_neg h]
    have h1 := Int.emod_nonneg (-a) (show -b ≠ 0 by omega)
    have h2 := Int.emod_lt_of_pos (-a) (show 0 < -b by omega)
    have h3 := Int.mul_ediv_add_emod (-a) (-b)
    rw [Int.neg_mul] at h3
    omega

def RetOk2 (q r : Int) (w : World) (e : Ending) (w' : World) : Prop :=
  ∃ s1 A1 c1 l1 s2 A2 c2 l2, e = .returned (.tuple #[iv s1 A1 l1.length c1, iv s2 A2 l2.length c2, .int .i64 0]) ∧ OkZ s1 l1 q ∧ OkZ s2 l2 r ∧ l1.length ≤ c1 ∧ l2.length ≤ c2 ∧ Rd w' A1 l1 ∧ Rd w' A2 l2 ∧ Below w.heap.size w w'

theorem Div_z (n1 n2 : Bool) (A1 A2 : Option Addr) (c1 c2 : Nat) (l1 l2 : List Nat) (z1 z2 : Int) (w : World) (h1 : Rd w A1 l1) (h2 : Rd w A2 l2) (hc1 : l1.length ≤ c1) (hc2 : l2.length ≤ c2) (k1 : OkZ n1 l1 z1) (k2 : OkZ n2 l2 z2) (h0 : z2 ≠ 0) :
    Calls Tryd.prog 18 #[iv n1 A1 l1.length c1, iv n2 A2 l2.length c2] w (RetOk2 (divZ z1 z2) (modZ z1 z2) w) := by
  have h := Div_calls n1 n2 A1 A2 c1 c2 l1 l2 w h1 h2 hc1 hc2
  rw [divR_z k1 k2, if_neg h0] at h
  refine h.mono ?_
  rintro e w' ⟨s1, B1, d1, m1, s2, B2, d2, m2, e1, q1, q2, t1, t2, r1, r2, hb⟩
  refine ⟨s1, B1, d1, m1, s2, B2, d2, m2, e1, ⟨q1, ?_⟩, ⟨q2, ?_⟩, t1, t2, r1, r2, hb⟩
  · rw [q1.abs]; exact Nat.le_trans (length_mono (divZ_le _ _)) (by rw [k1.len]; exact k1.small)
  · rw [q2.abs]; exact Nat.le_trans (length_mono (Nat.le_of_lt (modZ_le _ _ h0))) (by rw [k2.len]; exact k2.small)

theorem Pow_z (n1 : Bool) (n : Nat) (A1 : Option Addr) (c1 : Nat) (l1 : List Nat) (z1 : Int) (w : World) (h1 : Rd w A1 l1) (hc1 : l1.length ≤ c1) (k1 : OkZ n1 l1 z1) (hn : n ≤ 9600) (hs : (lim (z1 ^ n).natAbs).length ≤ 300) :
    Calls Tryd.prog 21 #[iv n1 A1 l1.length c1, .int .i64 (n : Int)] w (RetOk (z1 ^ n) w) := by
  have h := Pow_calls n1 (n : Int) A1 c1 l1 w h1 hc1
  rw [powR_z k1, if_pos (by omega), Int.toNat_natCast, fit_ok hs] at h
  exact h.mono fun e w' h => h.ok hs

theorem Bits_z (n1 : Bool) (A1 : Option Addr) (c1 : Nat) (l1 : List Nat) (z1 : Int) (w : World) (h1 : Rd w A1 l1) (hc1 : l1.length ≤ c1) (k1 : OkZ n1 l1 z1) (m : Nat) (hm : blen z1.natAbs = m) :
    Calls Tryd.prog 41 #[iv n1 A1 l1.length c1] w fun e w' => e = .returned (.tuple #[.int .i64 (m : Int), .int .i64 0]) ∧ Below w.heap.size w w' := by
  have h := Bits_calls n1 A1 c1 l1 w h1 hc1
  have e : bitsR n1 l1 = ((m : Int), 0) := by unfold bitsR; rw [k1.ok, if_pos rfl, k1.nat, hm]
  rw [e] at h
  exact h

def RetOk3 (g : Int) (w : World) (e : Ending) (w' : World) : Prop :=
  ∃ s1 A1 c1 l1 s2 A2 c2 l2 s3 A3 c3 l3, e = .returned (.tuple #[iv s1 A1 l1.length c1, iv s2 A2 l2.length c2, iv s3 A3 l3.length c3, .int .i64 0]) ∧ OkZ s1 l1 g ∧
    l1.length ≤ c1 ∧ l2.length ≤ c2 ∧ l3.length ≤ c3 ∧ Rd w' A1 l1 ∧ Rd w' A2 l2 ∧ Rd w' A3 l3 ∧ Below w.heap.size w w'

theorem gcd_len {a b : Int} {k : Nat} (h1 : (lim a.natAbs).length ≤ k) (h2 : (lim b.natAbs).length ≤ k) : (lim ((Int.gcd a b : Int)).natAbs).length ≤ k := by
  rw [Int.natAbs_natCast]
  by_cases ha : a.natAbs = 0
  · have : Int.gcd a b = b.natAbs := by unfold Int.gcd; rw [ha, Nat.gcd_zero_left]
    rw [this]; exact h2
  · exact Nat.le_trans (length_mono (Nat.gcd_le_left _ (Nat.pos_of_ne_zero ha))) h1

theorem Gcd_z (n1 n2 : Bool) (A1 A2 : Option Addr) (c1 c2 : Nat) (l1 l2 : List Nat) (z1 z2 : Int) (w : World) (h1 : Rd w A1 l1) (h2 : Rd w A2 l2) (hc1 : l1.length ≤ c1) (hc2 : l2.length ≤ c2) (k1 : OkZ n1 l1 z1) (k2 : OkZ n2 l2 z2) :
    Calls Tryd.prog 26 #[iv n1 A1 l1.length c1, iv n2 A2 l2.length c2] w (RetOk3 (Int.gcd z1 z2) w) := by
  have h := Gcd_calls n1 n2 A1 A2 c1 c2 l1 l2 w h1 h2 hc1 hc2
  rw [k1.ok, k2.ok, k1.val, k2.val] at h
  refine h.mono ?_
  rintro e w' ⟨g, x, y, er, s1, B1, d1, m1, s2, B2, d2, m2, s3, B3, d3, m3, hg, e1, q1, q2, q3, t1, t2, t3, r1, r2, r3, hb⟩
  obtain ⟨rfl, hgo⟩ := hg.1 rfl
  have e := hgo.gcd
  subst e
  exact ⟨s1, B1, d1, m1, s2, B2, d2, m2, s3, B3, d3, m3, e1, ⟨q1, by rw [q1.abs]; exact gcd_len (by rw [k1.len]; exact k1.small) (by rw [k2.len]; exact k2.small)⟩, t1, t2, t3, r1, r2, r3, hb⟩

theorem three_boxes' (w : World) (n1 n2 n3 : Bool) (A1 A2 A3 : Option Addr) (c1 c2 c3 : Nat) (l1 l2 l3 : List Nat) (h1 : Rd w A1 l1) (hc1 : l1.length ≤ c1) :
    Below w.heap.size w (((w.alloc (.cells #[.bool n1, .slice A1 l1.length c1] 24)).alloc (.cells #[.bool n2, .slice A2 l2.length c2] 24)).alloc (.cells #[.bool n3, .slice A3 l3.length c3] 24)) ∧
    IntBox (((w.alloc (.cells #[.bool n1, .slice A1 l1.length c1] 24)).alloc (.cells #[.bool n2, .slice A2 l2.length c2] 24)).alloc (.cells #[.bool n3, .slice A3 l3.length c3] 24)) w.heap.size n1 A1 c1 l1 :=
  ⟨three_below .., three_box _ _ _ _ _ _ _ _ _ _ _ _ _ h1 hc1⟩

theorem lformed_one (m : Nat) (g : Nat) (n1 : Bool) (A1 : Option Addr) (c1 : Nat) (l1 : List Nat) (w : World) (hg : w.heap[g]? = some (.cells #[.bool n1, .slice A1 l1.length c1] 24 (0, 0))) (h1 : Rd w A1 l1) (hc1 : l1.length ≤ c1) (b : Bool) (hb : (okI n1 l1 && decide (l1.length ≤ m)) = b) :
    Calls Tryd.prog 35 #[.int .i64 (m : Int), .slice (some ⟨g, 0, none⟩) 1 1] w fun e w' => e = .returned (.bool b) ∧ Below w.heap.size w w' := by
  have := lformed_calls m g [⟨n1, A1, c1, l1⟩] w (Array.getElem?_eq_some_iff.1 hg).1 ⟨?_, ?_, ?_⟩ (by simp)
  · rw [← hb]
    simpa [IntArg.ok] using this
  · intro k hk
    obtain rfl : k = 0 := by simp at hk; omega
    exact cell_at hg 0 _ rfl
  · intro k hk
    obtain rfl : k = 0 := by simp at hk; omega
    exact cell_at hg 1 _ rfl
  · intro k hk
    obtain rfl : k = 0 := by simp at hk; omega
    exact ⟨h1, hc1⟩

end Nm
end Go.Proofs.YtlhmbbpkhahbeaaDoor
namespace Go.Proofs.YtlhmbbpkhahbeaaDoor
namespace Nm
open Go.RowKit Go.Shelf Go.BigFrame
attribute [local go_sem] Oper.semAt_some

theorem okZ_abs {s : Bool} {l : List Nat} {z : Int} (h : OkZ s l z) : OkZ false l (z.natAbs : Int) :=
  ⟨⟨(decide_eq_false (by omega)).symm, by rw [Int.natAbs_natCast]; exact h.isZ.abs⟩, h.small⟩
theorem gcd_mul_abs (a b c : Int) : ((Int.gcd (a * c) (b * c) : Nat) : Int) = (Int.gcd a b : Int) * (c.natAbs : Int) := by
  rw [Int.gcd_mul_right]; exact Int.natCast_mul _ _
theorem modZ_gcd {a g : Int} (hg : 0 < g) (h : g ∣ a) : modZ a g = 0 := by
  unfold modZ divZ
  rw [if_pos hg]
  have h1 := Int.mul_ediv_add_emod a g
  have h2 := Int.emod_eq_zero_of_dvd h
  omega
theorem OkZ.nil {s : Bool} {l : List Nat} {z : Int} (h : OkZ s l z) (h0 : z = 0) : l.length = 0 := by
  rw [h.isZ.abs, h0]; exact congrArg List.length lim_zero
theorem OkZ.pos {s : Bool} {l : List Nat} {z : Int} (h : OkZ s l z) (h0 : z ≠ 0) : 0 < l.length := by
  rw [h.isZ.abs]; exact lim_length_pos (by omega)

set_option maxRecDepth 100000 in
set_option maxHeartbeats 16000000 in
theorem NumDivisors_calls (s1 s2 s3 : Bool) (A1 A2 A3 : Option Addr) (c1 c2 c3 : Nat) (l1 l2 l3 : List Nat) (w : World) (h1 : Rd w A1 l1) (h2 : Rd w A2 l2) (h3 : Rd w A3 l3) (hc1 : l1.length ≤ c1) (hc2 : l2.length ≤ c2) (hc3 : l3.length ≤ c3) (hd : DigW w) :
    Calls Tryd.prog 8 #[iv s1 A1 l1.length c1, iv s2 A2 l2.length c2, iv s3 A3 l3.length c3] w fun e w' => e = .returned (.bool true) ∧ Below w.heap.size w w' := by
  obtain ⟨W, hW, hbw, B1, B2, B3, hsz⟩ := three_boxes w s1 s2 s3 A1 A2 A3 c1 c2 c3 l1 l2 l3 h1 h2 h3 hc1 hc2 hc3
  have hsz1 : w.heap.size + 1 < W.heap.size := by omega
  have hsz0 : w.heap.size < W.heap.size := by omega
  have x0 := cell_at B1.blk 0 _ rfl
  have x1 := cell_at B1.blk 1 _ rfl
  have x2 := cell_at B2.blk 0 _ rfl
  have x3 := cell_at B2.blk 1 _ rfl
  have x4 := cell_at B3.blk 0 _ rfl
  have x5 := cell_at B3.blk 1 _ rfl
  have hal : ∀ o, Below W.heap.size W (W.alloc o) := fun o => (Below.refl _ W).alloc (Nat.le_refl _) _
  obtain ⟨b8, h8⟩ : ∃ b, ((okI s1 l1 && decide (l1.length ≤ 8)) && ((okI s2 l2 && decide (l2.length ≤ 8)) && (okI s3 l3 && decide (l3.length ≤ 8)))) = b := ⟨_, rfl⟩
  have f8 := lformed_three 8 W.heap.size s1 s2 s3 A1 A2 A3 c1 c2 c3 l1 l2 l3 _ (args3_blk W s1 s2 s3 A1 A2 A3 c1 c2 c3 l1 l2 l3) (B1.rd.on (hal _)) (B2.rd.on (hal _)) (B3.rd.on (hal _)) hc1 hc2 hc3 _ h8
  have hdW := hd.on hbw
  cases b8
  · clear h8
    go_enter Tryd.func8, Tryd.ntmps8
    go_wp2_with first
      | (go_at_call 17; refine (sane_calls _ (hdW.on bm)).mono ?_; rintro e w9 ⟨rfl, b9⟩)
      | (go_at_call 35; refine f8.mono ?_; rintro e w4 ⟨rfl, b4⟩; have bm := (hal (.cells #[.bool s1, .slice A1 l1.length c1, .bool s2, .slice A2 l2.length c2, .bool s3, .slice A3 l3.length c3] 24)).trans (b4.mono (hal (.cells #[.bool s1, .slice A1 l1.length c1, .bool s2, .slice A2 l2.length c2, .bool s3, .slice A3 l3.length c3] 24)).size))
    go_ret
    exact ⟨rfl, (hbw.trans (bm.mono hbw.size)).trans (b9.mono (hbw.trans (bm.mono hbw.size)).size)⟩
  · have hw1 := h1.words
    have hw2 := h2.words
    have hw3 := h3.words
    obtain ⟨p1, p23⟩ := Bool.and_eq_true_iff.1 h8
    obtain ⟨p2, p3⟩ := Bool.and_eq_true_iff.1 p23
    obtain ⟨z1, e1⟩ := formed_ok hw1 p1
    obtain ⟨z2, e2⟩ := formed_ok hw2 p2
    obtain ⟨z3, e3⟩ := formed_ok hw3 p3
    clear h8 p1 p23 p2 p3
    obtain ⟨a, ha⟩ : ∃ a, toZ s1 l1 = a := ⟨_, rfl⟩
    obtain ⟨b, hb⟩ : ∃ b, toZ s2 l2 = b := ⟨_, rfl⟩
    obtain ⟨c, hc⟩ : ∃ c, toZ s3 l3 = c := ⟨_, rfl⟩
    rw [ha] at z1
    rw [hb] at z2
    rw [hc] at z3
    clear ha hb hc
    rw [← z1.len] at e1
    rw [← z2.len] at e2
    rw [← z3.len] at e3
    have t5 := len_mul e1 e3
    have t6 := len_mul e2 e3
    have t4 := gcd_len e1 e2
    have t8 : (lim ((c.natAbs : Int)).natAbs).length ≤ 8 := by rw [Int.natAbs_natCast]; exact e3
    have T5 := Lib.hid (Nat.le_trans t5 (show 8 + 8 ≤ 300 by decide))
    have T6 := Lib.hid (Nat.le_trans t6 (show 8 + 8 ≤ 300 by decide))
    have T9 := Lib.hid (Nat.le_trans (len_mul t4 t8) (show 8 + 8 ≤ 300 by decide))
    have z8 := okZ_abs z3
    have Q := Lib.hid (gcd_mul_abs a b c)
    have M1 := Lib.hid (fun (h : (0 : Int) < (Int.gcd a b : Int)) => modZ_gcd h (Int.gcd_dvd_left a b))
    have M2 := Lib.hid (fun (h : (0 : Int) < (Int.gcd a b : Int)) => modZ_gcd h (Int.gcd_dvd_right a b))
    obtain ⟨G, hG⟩ : ∃ G : Int, (Int.gcd a b : Int) = G := ⟨_, rfl⟩
    have hG0 : 0 ≤ G := by omega
    have K0 := fun W' h1 h2 k1 k2 => Gcd_z s1 s2 A1 A2 c1 c2 l1 l2 a b W' h1 h2 k1 k2 z1 z2
    rw [hG] at T9 Q M1 M2 K0
    clear hG t4 t5 t6 t8 e1 e2 e3
    by_cases hG1 : G = 0
    · go_enter Tryd.func8, Tryd.ntmps8
      go_wp2_with first
        | (go_at_call 17; have hmark := by15; refine (sane_calls _ (hdW.on by15)).mono ?_; rintro e w16 ⟨rfl, b16⟩; have by16 := by15.trans (b16.mono by15.size); replace B1 := B1.on b16; replace B2 := B2.on b16; replace B3 := B3.on b16; replace B4 := B4.on b16; replace B5 := B5.on b16; replace B6 := B6.on b16; replace B7 := B7.on b16; replace B8 := B8.on b16; replace B9 := B9.on b16; clear b16; clear u1a u1b; clear u4a u4b)
        | (go_at_call 20; have hmark := by14; refine (Same_z s7 s9 A7 A9 c7 c9 l7 l9 _ _ _ B7.rd B9.rd B7.cap B9.cap z7 z9 Q.out).mono ?_; rintro e w15 ⟨rfl, b15⟩; have by15 := by14.trans (b15.mono by14.size); replace B1 := B1.on b15; replace B2 := B2.on b15; replace B3 := B3.on b15; replace B4 := B4.on b15; replace B5 := B5.on b15; replace B6 := B6.on b15; replace B7 := B7.on b15; replace B8 := B8.on b15; replace B9 := B9.on b15; clear b15; clear u4a u4b; clear u7a u7b; clear u9a u9b; have u1a := cell_at B1.blk 0 _ rfl; have u1b := cell_at B1.blk 1 _ rfl; have u4a := cell_at B4.blk 0 _ rfl; have u4b := cell_at B4.blk 1 _ rfl)
        | (go_at_call 39; have hmark := by13; refine (Mul_z s4 false A4 A3 c4 c3 l4 l3 _ _ _ B4.rd B8.rd B4.cap B8.cap z4 z8 T9.out).mono ?_; rintro e w14 ⟨s9, A9, c9, l9, rfl, z9, n9, r9, b14⟩; obtain ⟨bx14, B9⟩ := one_box w14 s9 A9 c9 l9 r9 n9; have by14 := (by13.trans (b14.mono by13.size)).trans (bx14.mono (by13.trans (b14.mono by13.size)).size); replace B1 := (B1.on b14).on bx14; replace B2 := (B2.on b14).on bx14; replace B3 := (B3.on b14).on bx14; replace B4 := (B4.on b14).on bx14; replace B5 := (B5.on b14).on bx14; replace B6 := (B6.on b14).on bx14; replace B7 := (B7.on b14).on bx14; replace B8 := (B8.on b14).on bx14; clear bx14 b14; clear u3a u3b; clear u4a u4b; clear u8a u8b; have u4a := cell_at B4.blk 0 _ rfl; have u4b := cell_at B4.blk 1 _ rfl; have u7a := cell_at B7.blk 0 _ rfl; have u7b := cell_at B7.blk 1 _ rfl; have u9a := cell_at B9.blk 0 _ rfl; have u9b := cell_at B9.blk 1 _ rfl)
        | (go_at_call 26; have hmark := by12; refine (Gcd_z s5 s6 A5 A6 c5 c6 l5 l6 _ _ _ B5.rd B6.rd B5.cap B6.cap z5 z6).mono ?_; rintro e w13 ⟨s7, A7, c7, l7, s27, A27, c27, l27, s37, A37, c37, l37, rfl, z7, n7, n27, n37, r7, r27, r37, b13⟩; obtain ⟨bx13, B7⟩ := three_boxes' w13 s7 s27 s37 A7 A27 A37 c7 c27 c37 l7 l27 l37 r7 n7; have by13 := (by12.trans (b13.mono by12.size)).trans (bx13.mono (by12.trans (b13.mono by12.size)).size); replace B1 := (B1.on b13).on bx13; replace B2 := (B2.on b13).on bx13; replace B3 := (B3.on b13).on bx13; replace B4 := (B4.on b13).on bx13; replace B5 := (B5.on b13).on bx13; replace B6 := (B6.on b13).on bx13; clear bx13 b13; clear u5a u5b; clear u6a u6b; have u3a := cell_at B3.blk 0 _ rfl; have u3b := cell_at B3.blk 1 _ rfl; obtain ⟨bx, B8⟩ := one_box _ false A3 c3 l3 B3.rd B3.cap; replace by13 := by13.trans (bx.mono by13.size); replace B1 := B1.on bx; replace B2 := B2.on bx; replace B3 := B3.on bx; replace B4 := B4.on bx; replace B5 := B5.on bx; replace B6 := B6.on bx; replace B7 := B7.on bx; simp only [World.size_alloc] at B8; have u4a := cell_at B4.blk 0 _ rfl; have u4b := cell_at B4.blk 1 _ rfl; have u8a := cell_at B8.blk 0 _ rfl; have u8b := cell_at B8.blk 1 _ rfl)
        | (go_at_call 39; have hmark := by11; refine (Mul_z s2 s3 A2 A3 c2 c3 l2 l3 _ _ _ B2.rd B3.rd B2.cap B3.cap z2 z3 T6.out).mono ?_; rintro e w12 ⟨s6, A6, c6, l6, rfl, z6, n6, r6, b12⟩; obtain ⟨bx12, B6⟩ := one_box w12 s6 A6 c6 l6 r6 n6; have by12 := (by11.trans (b12.mono by11.size)).trans (bx12.mono (by11.trans (b12.mono by11.size)).size); replace B1 := (B1.on b12).on bx12; replace B2 := (B2.on b12).on bx12; replace B3 := (B3.on b12).on bx12; replace B4 := (B4.on b12).on bx12; replace B5 := (B5.on b12).on bx12; clear bx12 b12; clear u2a u2b; clear u3a u3b; have u5a := cell_at B5.blk 0 _ rfl; have u5b := cell_at B5.blk 1 _ rfl; have u6a := cell_at B6.blk 0 _ rfl; have u6b := cell_at B6.blk 1 _ rfl)
        | (go_at_call 39; have hmark := by10; refine (Mul_z s1 s3 A1 A3 c1 c3 l1 l3 _ _ _ B1.rd B3.rd B1.cap B3.cap z1 z3 T5.out).mono ?_; rintro e w11 ⟨s5, A5, c5, l5, rfl, z5, n5, r5, b11⟩; obtain ⟨bx11, B5⟩ := one_box w11 s5 A5 c5 l5 r5 n5; have by11 := (by10.trans (b11.mono by10.size)).trans (bx11.mono (by10.trans (b11.mono by10.size)).size); replace B1 := (B1.on b11).on bx11; replace B2 := (B2.on b11).on bx11; replace B3 := (B3.on b11).on bx11; replace B4 := (B4.on b11).on bx11; clear bx11 b11; clear u1a u1b; clear u3a u3b; have u2a := cell_at B2.blk 0 _ rfl; have u2b := cell_at B2.blk 1 _ rfl; have u3a := cell_at B3.blk 0 _ rfl; have u3b := cell_at B3.blk 1 _ rfl)
        | (go_at_call 26; have hmark := by9; refine (K0 _ B1.rd B2.rd B1.cap B2.cap).mono ?_; rintro e w10 ⟨s4, A4, c4, l4, s24, A24, c24, l24, s34, A34, c34, l34, rfl, z4, n4, n24, n34, r4, r24, r34, b10⟩; obtain ⟨bx10, B4⟩ := three_boxes' w10 s4 s24 s34 A4 A24 A34 c4 c24 c34 l4 l24 l34 r4 n4; have by10 := (by9.trans (b10.mono by9.size)).trans (bx10.mono (by9.trans (b10.mono by9.size)).size); replace B1 := (B1.on b10).on bx10; replace B2 := (B2.on b10).on bx10; replace B3 := (B3.on b10).on bx10; clear bx10 b10; have lz0 : ((l4.length : Int) == 0) = true := (by have := z4.nil hG1; rw [this]; rfl); have lz1 : (l4.length == 0) = true := (by have := z4.nil hG1; rw [this]; rfl); clear u1a u1b; clear u2a u2b; have u1a := cell_at B1.blk 0 _ rfl; have u1b := cell_at B1.blk 1 _ rfl; have u3a := cell_at B3.blk 0 _ rfl; have u3b := cell_at B3.blk 1 _ rfl)
        | (go_at_call 35; refine f8.mono ?_; rintro e w4 ⟨rfl, b4⟩; have by9 := (hal (.cells #[.bool s1, .slice A1 l1.length c1, .bool s2, .slice A2 l2.length c2, .bool s3, .slice A3 l3.length c3] 24)).trans (b4.mono (hal (.cells #[.bool s1, .slice A1 l1.length c1, .bool s2, .slice A2 l2.length c2, .bool s3, .slice A3 l3.length c3] 24)).size); replace B1 := B1.on by9; replace B2 := B2.on by9; replace B3 := B3.on by9; have u1a := cell_at B1.blk 0 _ rfl; have u1b := cell_at B1.blk 1 _ rfl; have u2a := cell_at B2.blk 0 _ rfl; have u2b := cell_at B2.blk 1 _ rfl)
      go_ret
      exact ⟨rfl, hbw.trans (by16.mono hbw.size)⟩
    · go_enter Tryd.func8, Tryd.ntmps8
      go_wp2_with first
        | (go_at_call 17; have hmark := by17; refine (sane_calls _ (hdW.on by17)).mono ?_; rintro e w18 ⟨rfl, b18⟩; have by18 := by17.trans (b18.mono by17.size); replace B1 := B1.on b18; replace B2 := B2.on b18; replace B3 := B3.on b18; replace B4 := B4.on b18; replace B5 := B5.on b18; replace B6 := B6.on b18; replace B7 := B7.on b18; replace B8 := B8.on b18; replace B9 := B9.on b18; replace B10 := B10.on b18; replace B11 := B11.on b18; replace B12 := B12.on b18; replace B13 := B13.on b18; clear b18; have lz110 : ((l11.length : Int) == 0) = true := (by have := z11.nil (M1.out (by omega)); rw [this]; rfl); have lz111 : (l11.length == 0) = true := (by have := z11.nil (M1.out (by omega)); rw [this]; rfl); have lz130 : ((l13.length : Int) == 0) = true := (by have := z13.nil (M2.out (by omega)); rw [this]; rfl); have lz131 : (l13.length == 0) = true := (by have := z13.nil (M2.out (by omega)); rw [this]; rfl); have u11a := cell_at B11.blk 0 _ rfl; have u11b := cell_at B11.blk 1 _ rfl; have u13a := cell_at B13.blk 0 _ rfl; have u13b := cell_at B13.blk 1 _ rfl)
        | (go_at_call 18; have hmark := by16; refine (Div_z s2 s4 A2 A4 c2 c4 l2 l4 _ _ _ B2.rd B4.rd B2.cap B4.cap z2 z4 hG1).mono ?_; rintro e w17 ⟨s12, A12, c12, l12, s13, A13, c13, l13, rfl, z12, z13, n12, n13, r12, r13, b17⟩; obtain ⟨bx17, B12, B13⟩ := two_boxes w17 s12 s13 A12 A13 c12 c13 l12 l13 r12 r13 n12 n13; have by17 := (by16.trans (b17.mono by16.size)).trans (bx17.mono (by16.trans (b17.mono by16.size)).size); replace B1 := (B1.on b17).on bx17; replace B2 := (B2.on b17).on bx17; replace B3 := (B3.on b17).on bx17; replace B4 := (B4.on b17).on bx17; replace B5 := (B5.on b17).on bx17; replace B6 := (B6.on b17).on bx17; replace B7 := (B7.on b17).on bx17; replace B8 := (B8.on b17).on bx17; replace B9 := (B9.on b17).on bx17; replace B10 := (B10.on b17).on bx17; replace B11 := (B11.on b17).on bx17; clear bx17 b17; clear u2a u2b; clear u4a u4b)
        | (go_at_call 18; have hmark := by15; refine (Div_z s1 s4 A1 A4 c1 c4 l1 l4 _ _ _ B1.rd B4.rd B1.cap B4.cap z1 z4 hG1).mono ?_; rintro e w16 ⟨s10, A10, c10, l10, s11, A11, c11, l11, rfl, z10, z11, n10, n11, r10, r11, b16⟩; obtain ⟨bx16, B10, B11⟩ := two_boxes w16 s10 s11 A10 A11 c10 c11 l10 l11 r10 r11 n10 n11; have by16 := (by15.trans (b16.mono by15.size)).trans (bx16.mono (by15.trans (b16.mono by15.size)).size); replace B1 := (B1.on b16).on bx16; replace B2 := (B2.on b16).on bx16; replace B3 := (B3.on b16).on bx16; replace B4 := (B4.on b16).on bx16; replace B5 := (B5.on b16).on bx16; replace B6 := (B6.on b16).on bx16; replace B7 := (B7.on b16).on bx16; replace B8 := (B8.on b16).on bx16; replace B9 := (B9.on b16).on bx16; clear bx16 b16; clear u1a u1b; clear u4a u4b; have u2a := cell_at B2.blk 0 _ rfl; have u2b := cell_at B2.blk 1 _ rfl; have u4a := cell_at B4.blk 0 _ rfl; have u4b := cell_at B4.blk 1 _ rfl)
        | (go_at_call 20; have hmark := by14; refine (Same_z s7 s9 A7 A9 c7 c9 l7 l9 _ _ _ B7.rd B9.rd B7.cap B9.cap z7 z9 Q.out).mono ?_; rintro e w15 ⟨rfl, b15⟩; have by15 := by14.trans (b15.mono by14.size); replace B1 := B1.on b15; replace B2 := B2.on b15; replace B3 := B3.on b15; replace B4 := B4.on b15; replace B5 := B5.on b15; replace B6 := B6.on b15; replace B7 := B7.on b15; replace B8 := B8.on b15; replace B9 := B9.on b15; clear b15; clear u4a u4b; clear u7a u7b; clear u9a u9b; have u1a := cell_at B1.blk 0 _ rfl; have u1b := cell_at B1.blk 1 _ rfl; have u4a := cell_at B4.blk 0 _ rfl; have u4b := cell_at B4.blk 1 _ rfl)
        | (go_at_call 39; have hmark := by13; refine (Mul_z s4 false A4 A3 c4 c3 l4 l3 _ _ _ B4.rd B8.rd B4.cap B8.cap z4 z8 T9.out).mono ?_; rintro e w14 ⟨s9, A9, c9, l9, rfl, z9, n9, r9, b14⟩; obtain ⟨bx14, B9⟩ := one_box w14 s9 A9 c9 l9 r9 n9; have by14 := (by13.trans (b14.mono by13.size)).trans (bx14.mono (by13.trans (b14.mono by13.size)).size); replace B1 := (B1.on b14).on bx14; replace B2 := (B2.on b14).on bx14; replace B3 := (B3.on b14).on bx14; replace B4 := (B4.on b14).on bx14; replace B5 := (B5.on b14).on bx14; replace B6 := (B6.on b14).on bx14; replace B7 := (B7.on b14).on bx14; replace B8 := (B8.on b14).on bx14; clear bx14 b14; clear u3a u3b; clear u4a u4b; clear u8a u8b; have u4a := cell_at B4.blk 0 _ rfl; have u4b := cell_at B4.blk 1 _ rfl; have u7a := cell_at B7.blk 0 _ rfl; have u7b := cell_at B7.blk 1 _ rfl; have u9a := cell_at B9.blk 0 _ rfl; have u9b := cell_at B9.blk 1 _ rfl)
        | (go_at_call 26; have hmark := by12; refine (Gcd_z s5 s6 A5 A6 c5 c6 l5 l6 _ _ _ B5.rd B6.rd B5.cap B6.cap z5 z6).mono ?_; rintro e w13 ⟨s7, A7, c7, l7, s27, A27, c27, l27, s37, A37, c37, l37, rfl, z7, n7, n27, n37, r7, r27, r37, b13⟩; obtain ⟨bx13, B7⟩ := three_boxes' w13 s7 s27 s37 A7 A27 A37 c7 c27 c37 l7 l27 l37 r7 n7; have by13 := (by12.trans (b13.mono by12.size)).trans (bx13.mono (by12.trans (b13.mono by12.size)).size); replace B1 := (B1.on b13).on bx13; replace B2 := (B2.on b13).on bx13; replace B3 := (B3.on b13).on bx13; replace B4 := (B4.on b13).on bx13; replace B5 := (B5.on b13).on bx13; replace B6 := (B6.on b13).on bx13; clear bx13 b13; clear u5a u5b; clear u6a u6b; have u3a := cell_at B3.blk 0 _ rfl; have u3b := cell_at B3.blk 1 _ rfl; obtain ⟨bx, B8⟩ := one_box _ false A3 c3 l3 B3.rd B3.cap; replace by13 := by13.trans (bx.mono by13.size); replace B1 := B1.on bx; replace B2 := B2.on bx; replace B3 := B3.on bx; replace B4 := B4.on bx; replace B5 := B5.on bx; replace B6 := B6.on bx; replace B7 := B7.on bx; simp only [World.size_alloc] at B8; have u4a := cell_at B4.blk 0 _ rfl; have u4b := cell_at B4.blk 1 _ rfl; have u8a := cell_at B8.blk 0 _ rfl; have u8b := cell_at B8.blk 1 _ rfl)
        | (go_at_call 39; have hmark := by11; refine (Mul_z s2 s3 A2 A3 c2 c3 l2 l3 _ _ _ B2.rd B3.rd B2.cap B3.cap z2 z3 T6.out).mono ?_; rintro e w12 ⟨s6, A6, c6, l6, rfl, z6, n6, r6, b12⟩; obtain ⟨bx12, B6⟩ := one_box w12 s6 A6 c6 l6 r6 n6; have by12 := (by11.trans (b12.mono by11.size)).trans (bx12.mono (by11.trans (b12.mono by11.size)).size); replace B1 := (B1.on b12).on bx12; replace B2 := (B2.on b12).on bx12; replace B3 := (B3.on b12).on bx12; replace B4 := (B4.on b12).on bx12; replace B5 := (B5.on b12).on bx12; clear bx12 b12; clear u2a u2b; clear u3a u3b; have u5a := cell_at B5.blk 0 _ rfl; have u5b := cell_at B5.blk 1 _ rfl; have u6a := cell_at B6.blk 0 _ rfl; have u6b := cell_at B6.blk 1 _ rfl)
        | (go_at_call 39; have hmark := by10; refine (Mul_z s1 s3 A1 A3 c1 c3 l1 l3 _ _ _ B1.rd B3.rd B1.cap B3.cap z1 z3 T5.out).mono ?_; rintro e w11 ⟨s5, A5, c5, l5, rfl, z5, n5, r5, b11⟩; obtain ⟨bx11, B5⟩ := one_box w11 s5 A5 c5 l5 r5 n5; have by11 := (by10.trans (b11.mono by10.size)).trans (bx11.mono (by10.trans (b11.mono by10.size)).size); replace B1 := (B1.on b11).on bx11; replace B2 := (B2.on b11).on bx11; replace B3 := (B3.on b11).on bx11; replace B4 := (B4.on b11).on bx11; clear bx11 b11; clear u1a u1b; clear u3a u3b; have u2a := cell_at B2.blk 0 _ rfl; have u2b := cell_at B2.blk 1 _ rfl; have u3a := cell_at B3.blk 0 _ rfl; have u3b := cell_at B3.blk 1 _ rfl)
        | (go_at_call 26; have hmark := by9; refine (K0 _ B1.rd B2.rd B1.cap B2.cap).mono ?_; rintro e w10 ⟨s4, A4, c4, l4, s24, A24, c24, l24, s34, A34, c34, l34, rfl, z4, n4, n24, n34, r4, r24, r34, b10⟩; obtain ⟨bx10, B4⟩ := three_boxes' w10 s4 s24 s34 A4 A24 A34 c4 c24 c34 l4 l24 l34 r4 n4; have by10 := (by9.trans (b10.mono by9.size)).trans (bx10.mono (by9.trans (b10.mono by9.size)).size); replace B1 := (B1.on b10).on bx10; replace B2 := (B2.on b10).on bx10; replace B3 := (B3.on b10).on bx10; clear bx10 b10; have lz0 : ((l4.length : Int) == 0) = false := (by have := z4.pos hG1; rw [beq_eq_false_iff_ne]; omega); have lz1 : (l4.length == 0) = false := (by have := z4.pos hG1; rw [beq_eq_false_iff_ne]; omega); clear u1a u1b; clear u2a u2b; have u1a := cell_at B1.blk 0 _ rfl; have u1b := cell_at B1.blk 1 _ rfl; have u3a := cell_at B3.blk 0 _ rfl; have u3b := cell_at B3.blk 1 _ rfl)
        | (go_at_call 35; refine f8.mono ?_; rintro e w4 ⟨rfl, b4⟩; have by9 := (hal (.cells #[.bool s1, .slice A1 l1.length c1, .bool s2, .slice A2 l2.length c2, .bool s3, .slice A3 l3.length c3] 24)).trans (b4.mono (hal (.cells #[.bool s1, .slice A1 l1.length c1, .bool s2, .slice A2 l2.length c2, .bool s3, .slice A3 l3.length c3] 24)).size); replace B1 := B1.on by9; replace B2 := B2.on by9; replace B3 := B3.on by9; have u1a := cell_at B1.blk 0 _ rfl; have u1b := cell_at B1.blk 1 _ rfl; have u2a := cell_at B2.blk 0 _ rfl; have u2b := cell_at B2.blk 1 _ rfl)
      go_ret
      exact ⟨rfl, hbw.trans (by18.mono hbw.size)⟩

end Nm
end Go.Proofs.YtlhmbbpkhahbeaaDoor
namespace Go.Proofs.YtlhmbbpkhahbeaaDoor
namespace Nm
open Go.ChangeShapes Go.WideShapes Go.ChangeAt Go.WideMaps Go.WideElems Go.RowKit

set_option maxRecDepth 100000 in
theorem numDivisors_lifted (os : Os) (started : os.Started) (H : Type) (enc : TypeId × Value → H) :
    ReturnsInHanded {} Tryd.checked os 8 .any (fun w args => (Rows.numDivisorsSpec.pre enc Tryd.prog Tryd.f8 [] false w args ∧ laidMetH Tryd.prog laidL w) ∧ sizedMet enc Tryd.prog Tryd.f8 (OpenSpec.ofChange Rows.numDivisorsSpec) false w args)
      (Rows.numDivisorsSpec.post enc Tryd.prog Tryd.f8 false true false false) := by
  refine returnsInHanded_of_change_and (C := Tryd.checked) (X := fun w _ => laidMetH Tryd.prog laidL w) (fun _ _ _ hh h => h.of_heap hh) own started (by kernel_rfl) Tryd.func8
    (ChangeSpec.witness_shaped (enc := enc) (C := Tryd.checked) (os := os) (X := fun w _ => laidMetH Tryd.prog laidL w) false (World.doorLaid Tryd.prog 14 os) #[.agg #[.bool false, .slice none 0 0], .agg #[.bool false, .slice none 0 0], .agg #[.bool false, .slice none 0 0]] 8 rfl (World.shaped_of_RefB (by kernel_rfl) (by kernel_rfl)) (by kernel_rfl) (by kernel_rfl) (by kernel_rfl) (door_met os _)) ?_
  intro W base args ds gs before hval0 hW _ hsz0 hL _
  have hval : ∀ (j : Nat) t v, Tryd.f8.params[j]? = some t → args[j]? = some v → Value.okWide Tryd.prog W .any base t v := hval0
  have hsz : (DataW.weightsEach Tryd.prog (Tryd.f8.params.toList ++ Rows.numDivisorsSpec.plain.varTypes Tryd.prog) (ds ++ gs)).all (· ≤ reachBytes) = true := hsz0
  have hW' := hW
  obtain ⟨p, q, hA0, hV, rfl, hfz, hnd⟩ := hW
  have hA : DataW.TrodAll enc Tryd.prog W 0 (fun _ => true) true Tryd.f8.params.toList args.toList ds p := hA0
  rw [Tryd.params8] at hA hval hsz
  obtain ⟨v0, v1, v2, d0, d1, d2, p0, p1, p2, rfl, rfl, rfl, h0, h1, h2⟩ := trodAll_three hA
  obtain ⟨rfl, rfl⟩ := trodVars_none hV
  have hw0 : ∀ n ∈ d0.weights Tryd.prog 24, n ≤ reachBytes := fun n hn => by simpa using List.all_eq_true.1 hsz n (DataW.weights_mem_each (j := 0) rfl rfl n hn)
  obtain ⟨n1, A1, c1, l1, rfl, r1, k1⟩ := open_intZ (hval 0 _ v0 rfl rfl) h0 hw0
  have hw1 : ∀ n ∈ d1.weights Tryd.prog 24, n ≤ reachBytes := fun n hn => by simpa using List.all_eq_true.1 hsz n (DataW.weights_mem_each (j := 1) rfl rfl n hn)
  obtain ⟨n2, A2, c2, l2, rfl, r2, k2⟩ := open_intZ (hval 1 _ v1 rfl rfl) h1 hw1
  have hw2 : ∀ n ∈ d2.weights Tryd.prog 24, n ≤ reachBytes := fun n hn => by simpa using List.all_eq_true.1 hsz n (DataW.weights_mem_each (j := 2) rfl rfl n hn)
  obtain ⟨n3, A3, c3, l3, rfl, r3, k3⟩ := open_intZ (hval 2 _ v2 rfl rfl) h2 hw2
  have hd := dig_of_laid hL
  clear hA0 hval0
  try simp only [List.append_nil] at hW'
  have hlt : ∀ x ∈ p0 ++ p1 ++ p2, x.block < W.heap.size := fun x hx => hW'.lt x (by simpa using hx)
  refine (NumDivisors_calls n1 n2 n3 A1 A2 A3 c1 c2 c3 l1 l2 l3 W r1 r2 r3 k1 k2 k3 hd).mono fun e W' ⟨he, hb⟩ => ?_
  subst he
  refine ⟨_, rfl, _, _, _, [], _, [], hW', trodAll_mk1 (shut_bool uBool true), trodAll_mk3 (Below.trod laidOut (by kernel_rfl) (of_decide_eq_true (by kernel_rfl)) h0 hb (fun x hx => hlt x (by simp [hx]))) (Below.trod laidOut (by kernel_rfl) (of_decide_eq_true (by kernel_rfl)) h1 hb (fun x hx => hlt x (by simp [hx]))) (Below.trod laidOut (by kernel_rfl) (of_decide_eq_true (by kernel_rfl)) h2 hb (fun x hx => hlt x (by simp [hx]))), rfl, hb.frame _, fun h => by cases h⟩

theorem numDivisors_holds : Rows.NumDivisorsSaid :=
  OpenClaim.holds_of_wide 8 Tryd.f8 rfl rfl rfl rfl rfl rfl rfl ⟨rfl, rfl, rfl, rfl, rfl⟩ rfl rfl rfl rfl rfl (by kernel_rfl) Tryd.func8 (by kernel_rfl)
    (of_decide_eq_true (by kernel_rfl)) (by unfold Func.isWrapper; first | (rw [if_pos (by decide +kernel)]; kernel_rfl) | (rw [if_neg (by decide +kernel)]; exact ⟨rfl, rfl⟩))
    (fun os started H enc _ => numDivisors_lifted os started H enc)

theorem numDivisors_card : Rows.NumDivisorsCardSaid :=
  Claim7.holds_tied_plain_at .later [] [.data] true (true, "81631b405a98d3f071c31393904156c9da5fef14bbd5c556ce9417642a36c1bb") true
    numDivisors_holds (fun _ h => by cases h) (by kernel_rfl) (fun _ h => by cases h) numDivisors_row_tie rfl ⟨rfl, rfl⟩ (by kernel_rfl) rfl
    (fun f fn hf hfn => by
      obtain rfl : f = 8 := Option.some.inj ((show Tryd.prog.funcNamed "zermelo/zermelolaw01.NumDivisors" = some 8 by kernel_rfl).symm.trans hf) |>.symm
      obtain rfl : fn = Tryd.f8 := (Option.some.inj (Tryd.func8.symm.trans hfn)).symm
      exact ⟨by kernel_rfl, fun j t ht => by
        have hp := Tryd.params8
        rw [hp] at ht
        have hall : (Tryd.f8.params.toList.all fun u => !Tryd.prog.wantsStandIn u) = true := by kernel_rfl
        rw [hp] at hall
        have hm := Array.mem_toList_iff.2 (Array.mem_of_getElem? ht)
        exact (show Tryd.prog.wantsStandIn t = false by simpa using List.all_eq_true.1 hall t hm)⟩)
    (by kernel_rfl)

end Nm
end Go.Proofs.YtlhmbbpkhahbeaaDoor
