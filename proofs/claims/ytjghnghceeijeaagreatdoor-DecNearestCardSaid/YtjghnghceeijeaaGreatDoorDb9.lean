/-
  Contracts of the walks below.
-/
import Derived.Test.YtjghnghceeijeaaGreatDoorDb8
import Derived.Defers
import Derived.Recover
set_option maxRecDepth 100000
set_option maxHeartbeats 4000000
set_option linter.unusedVariables false
set_option linter.unusedSimpArgs false
namespace Go.Proofs.YtjghnghceeijeaaGreatDoor
namespace Nm
open Go.RowKit Go.Shelf Go.BigFrame
attribute [local go_sem] Oper.semAt_some
def slotVal (o : Value) (W : World) : Nat :=
 match o with
 | .slice (some a) n _ => val ((List.range n).map fun i => match W.cell? ⟨a.block, a.off + i, none⟩ with | some (.int _ z) => z.toNat | _ => 0)
 | _ => 0
theorem slotVal_eq {W : World} {A : Option Addr} {l : List Nat} {d : Nat} (h : Rd W A l) : slotVal (.slice A l.length d) W = val l := by
 rcases Nat.eq_zero_or_pos l.length with h0 | h0
 · obtain rfl : l = [] := List.length_eq_zero_iff.1 h0
   cases A <;> rfl
 · obtain ⟨b, o, rfl⟩ := h.head h0
   show val _ = val l
   congr 1
   apply List.ext_getElem
   · simp
   · intro i h1 h2
     obtain ⟨b', o', e, hc⟩ := h.cell i h2
     cases e
     simp only [List.getElem_map, List.getElem_range]
     rw [hc]
     simp [h2, List.getD_eq_getElem?_getD]
theorem one_word {n : Nat} (h0 : 0 < n) (h : n < 4294967296) : lim n = [n] := by
 rw [lim_pos h0, Nat.mod_eq_of_lt h, Nat.div_eq_of_lt h, lim_zero]
theorem rd_word (W : World) {n : Nat} (h0 : 0 < n) (h : n < 4294967296) : Rd (W.alloc (.cells #[.int .u32 (n : Int)] 127)) (some ⟨W.heap.size, 0, none⟩) (lim n) := by
 rw [one_word h0 h]
 exact arr_rd (arr_new W [n]) (by intro u hu; simp at hu; rw [hu]; exact h) (by simp)
theorem len_of_bits {y m k : Nat} (h : y < 2 ^ m) (hm : m ≤ 32 * k) : (lim y).length ≤ k := by
 refine length_le_of_lt (Nat.lt_of_lt_of_le h ?_)
 rewrite [pow_BB]
 exact Nat.pow_le_pow_right (by decide) hm
theorem len_of_words {y j k : Nat} (h : y < BB ^ j) (hj : j ≤ k) : (lim y).length ≤ k := Nat.le_trans (length_le_of_lt h) hj
theorem big_len {y m : Nat} (h : y ≤ 2 ^ m) (hm : m ≤ 9700) : (lim y).length ≤ 304 :=
 len_of_bits (m := m + 1) (Nat.lt_of_le_of_lt h (Nat.pow_lt_pow_right (by decide) (Nat.lt_succ_self m))) (by omega)
theorem bits_of_len {a k : Nat} (h : a < BB ^ k) : a < 2 ^ (32 * k) := by rwa [pow_BB] at h
theorem blen_lt_of {a m : Nat} (h : a < 2 ^ m) : blen a ≤ m := by
 rcases Nat.lt_or_ge m (blen a) with hc | hc
 · exfalso
   have ha : a ≠ 0 := by rintro rfl; simp [blen] at hc
   have h2 := blen_le ha
   have h3 := Nat.pow_le_pow_right (n := 2) (by decide) (show m + 1 ≤ blen a by omega)
   rw [Nat.pow_succ] at h3
   omega
 · exact hc
theorem blen_len {a : Nat} (h : (lim a).length ≤ 300) : blen a ≤ 9600 :=
 Nat.le_trans (blen_lt_of (bits_of_len (lt_of_length_le (Nat.le_refl _)))) (by omega)
theorem root_calls (A : Option Addr) (c a n : Nat) (w : World) (hA : Rd w A (lim a)) (hc : (lim a).length ≤ c) (ha : (lim a).length ≤ 300) (hn1 : 1 ≤ n) (hn2 : n ≤ 100) :
 Calls Tryz.prog 157 #[.slice A (lim a).length c, .int .i64 (n : Int)] w fun e w' => ∃ x, IsRoot a n x ∧ RetNat x w e w' := by
 by_cases h0 : a = 0
 · subst h0
   rw [lim_zero] at hA hc ⊢
   go_enter Tryz.func157, Tryz.ntmps157
   go_wp2_with fail
   go_ret
   refine ⟨0, ⟨by rw [Nat.zero_pow (by omega)]; exact Nat.le_refl _, fun r hr => ?_⟩, A, c, by rw [lim_zero]; rfl, by rw [lim_zero]; exact hc, by rw [lim_zero]; exact hA, Below.refl _ _⟩
   rcases Nat.eq_zero_or_pos r with h | h
   · omega
   · have := Nat.pow_pos (n := n) h; omega
 · have hap : 0 < a := Nat.pos_of_ne_zero h0
   have hlp := lim_length_pos hap
   have hl0 : (((lim a).length : Int) == 0) = false := by rw [beq_eq_false_iff_ne]; omega
   by_cases h1 : n = 1
   · subst h1
     go_enter Tryz.func157, Tryz.ntmps157
     go_wp2_with fail
     go_ret
     exact ⟨a, ⟨by rw [Nat.pow_one]; exact Nat.le_refl _, fun r hr => by rwa [Nat.pow_one] at hr⟩, A, c, rfl, hc, hA, Below.refl _ _⟩
   · have hn1' : ((n : Int) == 1) = false := by rw [beq_eq_false_iff_ne]; omega
     obtain ⟨m, hm, hm'⟩ : ∃ m : Nat, (n : Int) - 1 = (m : Int) ∧ Hid (n = m + 1) := ⟨n - 1, by omega, by show n = _; omega⟩
     have hm1 : 1 ≤ m := by have := hm'.out; omega
     have hm2 : m ≤ 99 := by have := hm'.out; omega
     have hbl := blen_len ha
     obtain ⟨bl, hbb⟩ : ∃ b, blen a = b := ⟨_, rfl⟩
     have hbits := fun W h => bits_calls A c (lim a) W h hc (canon_lim a) (by omega)
     rw [val_lim, hbb] at hbits
     rw [hbb] at hbl
     obtain ⟨s, hs, hs', hsb⟩ : ∃ s : Nat, ((bl : Int) + (n : Int) - 1) / (n : Int) = (s : Int) ∧ Hid (s = (bl + n - 1) / n) ∧ s ≤ 9700 := by
      refine ⟨(bl + n - 1) / n, ?_, rfl, Nat.le_trans (Nat.div_le_self _ _) (by omega)⟩
      rw [show (bl : Int) + (n : Int) - 1 = ((bl + n - 1 : Nat) : Int) by omega]
      simp
     have hst : ∀ r, r ^ n ≤ a → r ≤ 2 ^ s := fun r hr => by rw [hs'.out, ← hbb]; exact root_start (by omega) hr
     have hsm : ∀ x, x ≤ 2 ^ s → (lim (x ^ n)).length ≤ 304 := fun x hx => big_len (root_small (a := a) (by omega) (by rw [hbb, ← hs'.out]; exact hx)) (by rw [hbb]; omega)
     have hshift : ∀ W, Below (w.alloc (.cells #[.int .u32 1] 127)).heap.size (w.alloc (.cells #[.int .u32 1] 127)) W → Calls Tryz.prog 204 #[.slice (some ⟨w.heap.size, 0, none⟩) 1 1, .int .i64 (s : Int)] W (RetNat (2 ^ s) W) := by
      intro W hW
      have := shift_calls (some ⟨w.heap.size, 0, none⟩) 1 s (lim 1) W ((rd_word w (n := 1) (by decide) (by decide)).on hW) (by rw [one_word (by decide) (by decide)]; simp) (by omega) (by rw [one_word (by decide) (by decide)]; simp)
      rwa [val_lim, one_word (by decide) (by decide), Nat.one_mul] at this
     have hb1 : ∀ o, Below w.heap.size w (w.alloc o) := fun o => (Below.refl _ _).alloc (Nat.le_refl _) _
     have Hst := Lib.hid hst
     have Hsm := Lib.hid hsm
     have Hbb := Lib.hid hbb
     clear hst hsm hbb
     go_enter Tryz.func157, Tryz.ntmps157
     go_wp2_with first
      | (go_at_call 205; refine (hbits _ (hA.on (hb1 _))).mono ?_; rintro e w2 ⟨rfl, nn, rfl⟩)
      | (go_at_call 204; refine (hshift _ (below_drewN (Below.refl _ _) nn)).mono ?_; rintro e w3 ⟨B0, d0, rfl, n0, r0, x0⟩)
     have hbA := below_drewN (hb1 (.cells #[.int .u32 1] 127)) nn
     have hb3 : Below w.heap.size w w3 := hbA.trans (x0.mono hbA.size)
     clear hbA
     go_loopw [5] (fun o W => ∃ (x : Nat) (B : Option Addr) (d : Nat), o = .slice B (lim x).length d ∧ (lim x).length ≤ d ∧ 0 < x ∧ x ≤ 2 ^ s ∧ Hid (∀ r, r ^ n ≤ a → r ≤ x) ∧ Rd W B (lim x) ∧ Below w.heap.size w W) (fun o W => slotVal o W)
     case atStart => exact ⟨2 ^ s, B0, d0, rfl, n0, Nat.two_pow_pos s, Nat.le_refl _, Hst.out, r0, hb3⟩
     case round =>
      clear hb3 x0 r0 n0 hbits hshift
      obtain ⟨x, B, d, rfl, hd, hx0, hxs, hP, hr, hbl⟩ := hrel
      obtain ⟨W0, hW0⟩ : ∃ W0, W0 = wr := ⟨wr, rfl⟩
      subst hW0
      have hlx := Hsm.out x hxs
      have hpl : ∀ i, i ≤ n → (lim (x ^ i)).length ≤ 304 := fun i hi => Nat.le_trans (length_mono (Nat.pow_le_pow_right hx0 hi)) hlx
      have hlx1 : (lim x).length ≤ 304 := by have := hpl 1 hn1; rwa [Nat.pow_one] at this
      have Hpl := Lib.hid hpl
      have hmul : ∀ W p A' d', Below W0.heap.size W0 W → Rd W A' (lim p) → (lim p).length ≤ d' → (lim p).length ≤ 304 → Calls Tryz.prog 158 #[.slice A' (lim p).length d', .slice B (lim x).length d] W (RetNat (p * x) W) := by
       intro W p A' d' hW h1 h2 h3
       have := mul_calls A' B d' d (lim p) (lim x) W h1 (hr.on hW) h2 hd (canon_lim _) (canon_lim _) (by omega)
       rwa [val_lim, val_lim] at this
      have hW0 : ∀ o, Below W0.heap.size W0 (W0.alloc o) := fun o => (Below.refl _ _).alloc (Nat.le_refl _) _
      clear hpl hlx
      go_wp2_with fail
      go_loopw [6, 32] (fun p i W => ∃ (k : Nat) (A' : Option Addr) (d' : Nat), i = .int .i64 (k : Int) ∧ k ≤ m ∧ p = .slice A' (lim (x ^ k)).length d' ∧ (lim (x ^ k)).length ≤ d' ∧ Rd W A' (lim (x ^ k)) ∧ Below W0.heap.size W0 W) (fun _ i _ => m - (intOf i).toNat)
      case atStart =>
       refine ⟨0, some ⟨W0.heap.size, 0, none⟩, 1, rfl, Nat.zero_le _, ?_, ?_, ?_, hW0 _⟩
       · rw [Nat.pow_zero, one_word (by decide) (by decide)]; rfl
       · rw [Nat.pow_zero, one_word (by decide) (by decide)]; simp
       · rw [Nat.pow_zero]; exact rd_word W0 (n := 1) (by decide) (by decide)
      case round =>
       obtain ⟨k, A', d', rfl, hk, rfl, hd', hr', hbl'⟩ := hrel
       by_cases hkm : k < m
       · have hm2' := hmul wr (x ^ k) A' d' hbl' hr' hd' (Hpl.out k (by have := hm'.out; omega))
         rw [← Nat.pow_succ] at hm2'
         obtain ⟨pk, hpk⟩ : ∃ q, x ^ k = q := ⟨_, rfl⟩
         obtain ⟨pk1, hpk1⟩ : ∃ q, x ^ (k + 1) = q := ⟨_, rfl⟩
         rw [hpk] at hm2' ⊢
         rw [hpk1] at hm2'
         have Hpk1 := Lib.hid hpk1
         clear hpk hpk1 hmul
         go_wp2_with (go_at_call 158; refine hm2'.mono ?_; rintro e w5 ⟨B2, d2, rfl, n2, r2, x2⟩)
         refine ⟨⟨k + 1, B2, d2, by simp, by omega, by rw [Hpk1.out], by rw [Hpk1.out]; exact n2, by rw [Hpk1.out]; exact r2, hbl'.trans (x2.mono hbl'.size)⟩, by simp only [intOf]; omega⟩
       · obtain rfl : k = m := by omega
         have hpm : 0 < x ^ k := Nat.pow_pos hx0
         have hP' : ∀ r, r ^ (k + 1) ≤ a → r ≤ x := by have := hP.out; rwa [hm'.out] at this
         have hnext : ∀ r, r ^ (k + 1) ≤ a → r ≤ (k * x + a / x ^ k) / (k + 1) := fun r h => newton_next hx0 h
         have hroot := newton_root (a := a) hx0 hP'
         have hlpm := Hpl.out k (by have := hm'.out; omega)
         have hlq := length_mono (Nat.div_le_self a (x ^ k))
         have hone' := hnext 1 (by rw [Nat.one_pow]; exact hap)
         obtain ⟨pm, hpm'⟩ : ∃ q, x ^ k = q := ⟨_, rfl⟩
         rw [hpm'] at hpm hnext hroot hlpm hlq hone' hd' hr' ⊢
         obtain ⟨q, hq⟩ : ∃ q, a / pm = q := ⟨_, rfl⟩
         obtain ⟨rr, hrr⟩ : ∃ q, a % pm = q := ⟨_, rfl⟩
         rw [hq] at hnext hroot hlq hone'
         obtain ⟨S, hS⟩ : ∃ S, k * x + q = S := ⟨_, rfl⟩
         rw [hS] at hnext hroot hone'
         have hn' := hm'.out
         rw [← hn'] at hnext hroot hone'
         obtain ⟨y, hy⟩ : ∃ y, S / n = y := ⟨_, rfl⟩
         rw [hy] at hnext hroot hone'
         obtain ⟨xk, hxk⟩ : ∃ y, x * k = y := ⟨_, rfl⟩
         have hlk : (lim k).length = 1 := by rw [one_word (n := k) (by omega) (by omega)]; rfl
         have hln : (lim n).length = 1 := by rw [one_word (n := n) (by omega) (by omega)]; rfl
         have hlxk : (lim xk).length ≤ 305 := by
          have := prod_length (x := x) (y := k) hlx1 (Nat.le_of_eq hlk)
          rw [hxk] at this; omega
         have hlS : (lim S).length ≤ 306 := by
          have := sum_length (x := xk) (y := q) (k := 305) hlxk (by omega)
          rw [← hxk, Nat.mul_comm, hS] at this; exact this
         have hly := length_mono (show y ≤ S by rw [← hy]; exact Nat.div_le_self _ _)
         have hwa : ∀ (W : World) o, Below W.heap.size W (W.alloc o) := fun W o => (Below.refl _ _).alloc (Nat.le_refl _) _
         have hdiv1 : ∀ W, Below W0.heap.size W0 W → Calls Tryz.prog 206 #[.slice A (lim a).length c, .slice A' (lim pm).length d'] wr (RetDiv q rr wr) := by
          intro W _
          have := div_calls A A' c d' (lim a) (lim pm) wr (hA.on (hbl.trans (hbl'.mono hbl.size))) hr' hc hd' (canon_lim _) (canon_lim _) (by rw [val_lim]; exact hpm) (by omega)
          rwa [val_lim, val_lim, hq, hrr] at this
         have hmul2 : ∀ W, Below W0.heap.size W0 W → Calls Tryz.prog 158 #[.slice B (lim x).length d, .slice (some ⟨W.heap.size, 0, none⟩) 1 1] (W.alloc (.cells #[.int .u32 (k : Int)] 127)) (RetNat xk (W.alloc (.cells #[.int .u32 (k : Int)] 127))) := by
          intro W hW
          have := mul_calls B (some ⟨W.heap.size, 0, none⟩) d 1 (lim x) (lim k) (W.alloc (.cells #[.int .u32 (k : Int)] 127)) (hr.on (hW.trans ((hwa W _).mono hW.size))) (rd_word W (by omega) (by omega)) hd (by rw [hlk]; exact Nat.le_refl _) (canon_lim _) (canon_lim _) (by rw [hlk]; omega)
          rwa [val_lim, val_lim, hxk, hlk] at this
         have hadd : ∀ W A1 d1 A2 d2, Rd W A1 (lim xk) → (lim xk).length ≤ d1 → Rd W A2 (lim q) → (lim q).length ≤ d2 → Calls Tryz.prog 160 #[.slice A1 (lim xk).length d1, .slice A2 (lim q).length d2] W (RetNat S W) := by
          intro W A1 d1 A2 d2 h1 h2 h3 h4
          have := add_calls A1 A2 d1 d2 (lim xk) (lim q) W h1 h3 h2 h4 (by omega) (by omega)
          rwa [val_lim, val_lim, show xk + q = S by rw [← hxk, Nat.mul_comm, hS]] at this
         have hdiv2 : ∀ W A1 d1, Below W0.heap.size W0 W → Rd W A1 (lim S) → (lim S).length ≤ d1 → Calls Tryz.prog 206 #[.slice A1 (lim S).length d1, .slice (some ⟨W.heap.size, 0, none⟩) 1 1] (W.alloc (.cells #[.int .u32 (n : Int)] 127)) (RetDiv y (S % n) (W.alloc (.cells #[.int .u32 (n : Int)] 127))) := by
          intro W A1 d1 hW h1 h2
          have := div_calls A1 (some ⟨W.heap.size, 0, none⟩) d1 1 (lim S) (lim n) (W.alloc (.cells #[.int .u32 (n : Int)] 127)) (h1.on (hwa W _)) (rd_word W (by omega) (by omega)) h2 (by rw [hln]; exact Nat.le_refl _) (canon_lim _) (canon_lim _) (by rw [val_lim]; omega) (by omega)
          rwa [val_lim, val_lim, hy, hln] at this
         have Hq := Lib.hid hq
         have Hxk := Lib.hid hxk
         obtain ⟨sn, hsn⟩ : ∃ z, S % n = z := ⟨_, rfl⟩
         simp only [hsn] at hdiv2
         clear hq hrr hS hy hxk hlk hln hsn hmul hpm' hn'
         by_cases hyx : x ≤ y
         · obtain ⟨z, hz⟩ : ∃ z : Nat, cmpZ (y : Int) (x : Int) = (z : Int) := by
            unfold cmpZ; rw [if_neg (by omega)]; split
            · exact ⟨1, rfl⟩
            · exact ⟨0, rfl⟩
           have hcm : ∀ W A1 d1, Below W0.heap.size W0 W → Rd W A1 (lim y) → (lim y).length ≤ d1 → Calls Tryz.prog 159 #[.slice A1 (lim y).length d1, .slice B (lim x).length d] W fun e w' => e = .returned (.int .i64 (z : Int)) ∧ ∃ n, w' = W.drewN n := by
            intro W A1 d1 hW h1 h2
            have := compare_calls A1 B d1 d (lim y) (lim x) W h1 (hr.on hW) h2 hd (canon_lim _) (canon_lim _)
            rw [val_lim, val_lim] at this
            rwa [show cmpZ (y : Int) (x : Int) = (z : Int) from hz] at this
           have hroot' := Lib.hid (hroot hyx)
           clear hz hroot hnext hP' hP
           go_wp2_with first
            | (go_at_call 206; refine (hdiv2 w7 A7 c7 x7 r7 n7).mono ?_; rintro e w8 ⟨Ay, cy, Az, cz, rfl, n8, _, r8, _, b8⟩; have x8 := x7.trans ((hwa w7 _).trans (b8.mono (hwa _ _).size) |>.mono x7.size))
            | (go_at_call 206; refine (hdiv1 wr hbl').mono ?_; rintro e w5 ⟨Aq, cq, Ar, cr, rfl, n5, _, r5, _, b5⟩; have x5 := hbl'.trans (b5.mono hbl'.size))
            | (go_at_call 158; refine (hmul2 w5 x5).mono ?_; rintro e w6 ⟨A6, c6, rfl, n6, r6, b6⟩; have x6 := x5.trans ((hwa w5 _).trans (b6.mono (hwa _ _).size) |>.mono x5.size))
            | (go_at_call 160; refine (hadd w6 A6 c6 Aq cq r6 n6 (r5.on ((hwa w5 _).trans (b6.mono (hwa _ _).size))) n5).mono ?_; rintro e w7 ⟨A7, c7, rfl, n7, r7, b7⟩; have x7 := x6.trans (b7.mono x6.size))
            | (go_at_call 159; refine (hcm w8 Ay cy x8 r8 n8).mono ?_; rintro e w9 ⟨rfl, nn, rfl⟩)
           have xx := below_drewN x8 nn
           go_ret
           exact ⟨x, hroot'.out, B, d, rfl, hd, hr.on xx, hbl.trans (xx.mono hbl.size)⟩
         · have hcm : ∀ W A1 d1, Below W0.heap.size W0 W → Rd W A1 (lim y) → (lim y).length ≤ d1 → Calls Tryz.prog 159 #[.slice A1 (lim y).length d1, .slice B (lim x).length d] W fun e w' => e = .returned (.int .i64 (-1)) ∧ ∃ n, w' = W.drewN n := by
            intro W A1 d1 hW h1 h2
            have := compare_calls A1 B d1 d (lim y) (lim x) W h1 (hr.on hW) h2 hd (canon_lim _) (canon_lim _)
            rw [val_lim, val_lim] at this
            rwa [show cmpZ (y : Int) (x : Int) = (-1) from by unfold cmpZ; rw [if_pos (by omega)]] at this
           have hnext' := Lib.hid hnext
           clear hroot hnext hP' hP
           go_wp2_with first
            | (go_at_call 206; refine (hdiv2 w7 A7 c7 x7 r7 n7).mono ?_; rintro e w8 ⟨Ay, cy, Az, cz, rfl, n8, _, r8, _, b8⟩; have x8 := x7.trans ((hwa w7 _).trans (b8.mono (hwa _ _).size) |>.mono x7.size))
            | (go_at_call 206; refine (hdiv1 wr hbl').mono ?_; rintro e w5 ⟨Aq, cq, Ar, cr, rfl, n5, _, r5, _, b5⟩; have x5 := hbl'.trans (b5.mono hbl'.size))
            | (go_at_call 158; refine (hmul2 w5 x5).mono ?_; rintro e w6 ⟨A6, c6, rfl, n6, r6, b6⟩; have x6 := x5.trans ((hwa w5 _).trans (b6.mono (hwa _ _).size) |>.mono x5.size))
            | (go_at_call 160; refine (hadd w6 A6 c6 Aq cq r6 n6 (r5.on ((hwa w5 _).trans (b6.mono (hwa _ _).size))) n5).mono ?_; rintro e w7 ⟨A7, c7, rfl, n7, r7, b7⟩; have x7 := x6.trans (b7.mono x6.size))
            | (go_at_call 159; refine (hcm w8 Ay cy x8 r8 n8).mono ?_; rintro e w9 ⟨rfl, nn, rfl⟩)
           have xx := below_drewN x8 nn
           have r8' := r8.on (below_drewN (Below.refl w8.heap.size w8) nn)
           refine ⟨⟨y, Ay, cy, rfl, n8, hone', Nat.le_trans (Nat.le_of_lt (Nat.lt_of_not_le hyx)) hxs, hnext', r8', hbl.trans (xx.mono hbl.size)⟩, ?_⟩
           rw [slotVal_eq r8', slotVal_eq hr, val_lim, val_lim]
           exact Nat.lt_of_not_le hyx
theorem assert_wrong (x : Int) (W : World) : (Instr.typeAssert (.iface 201 (.agg #[.int .i64 x])) 20 201 true).run Tryz.prog W = .ok (.tuple #[.agg #[.int .i64 x], .bool true]) W := by
 rfl
theorem catch_idle_int (p q : Addr) (w : World) :
 CallsD Tryz.prog 200 #[.pointer (some p), .pointer (some q)] .returning w fun e u' w' => e = .returned (.tuple #[]) ∧ u' = .returning ∧ w' = w := by
 refine callsD_of_wpS Tryz.func200 rfl fun c₀ cs hu => ?_
 apply wpS_seq
 apply wpS_region
 simp [wpOpsS, go_sem, recoverD, hu, Tryz.ntmps200, Exit.thenS]
 apply wpS_seq
 apply wpS_seq
 apply wpS_region
 simp [wpOpsS, go_sem, Exit.thenS]
 refine wpS_cond (t := true) (by simp [Act.eval, Array.replicate]) ?_
 simp only [if_true]
 refine wpS_of_wp (wp_ret ?_)
 cases c₀
 simp_all [bodyPostS, results, Tryz.results200, Exit.thenS]
theorem catch_wrong_int (g : Nat) (x : Int) (older : List PanicEntry) (a b : Value) (c : Value) (w : World) (h1 : w.heap[g]? = some (.cells #[a, b] 24 (0, 0))) (h2 : w.heap[g + 1]? = some (.cells #[c] 30 (0, 0))) :
 CallsD Tryz.prog 200 #[.pointer (some ⟨g, 0, none⟩), .pointer (some ⟨g + 1, 0, none⟩)] (.panicking ({ v := .iface 201 (.agg #[.int .i64 x]), recovered := false } :: older)) w fun e u' w' =>
  e = .returned (.tuple #[]) ∧ u' = .panicking ({ v := .iface 201 (.agg #[.int .i64 x]), recovered := true } :: older) ∧
   w'.heap[g]? = some (.cells #[.bool false, .slice none 0 0] 24 (0, 0)) ∧ w'.heap[g + 1]? = some (.cells #[.int .i64 x] 30 (0, 0)) ∧ Below g w w' := by
 refine callsD_of_wpS Tryz.func200 rfl fun c₀ cs hu => ?_
 apply wpS_seq
 apply wpS_region
 simp [wpOpsS, go_sem, recoverD, hu, Tryz.ntmps200, Exit.thenS]
 refine wpS_of_wp ?_
 have hta := assert_wrong x
 have x0 := cell_at h1 0 a rfl
 have x1 := cell_at h1 1 b rfl
 have x2 := cell_at h2 0 c rfl
 obtain ⟨y0, y1⟩ := fZ2 h1
 have y2 := frozen_at h2 0
 simp only [Array.replicate_succ, Array.replicate_zero, List.push_toArray, List.nil_append, List.cons_append]
 go_wp2_with fail
 have hl1 := (Array.getElem?_eq_some_iff.1 h1).1
 have hl2 := (Array.getElem?_eq_some_iff.1 h2).1
 obtain ⟨W4, hW4⟩ : ∃ W4, ((w.alloc (.cells #[.int .i64 x] 201)).alloc (.cells #[.bool false, .slice none 0 0] 24)) = W4 := ⟨_, rfl⟩
 have hz1 : W4.heap[w.heap.size]? = some (.cells #[.int .i64 x] 201 (0, 0)) := by rw [← hW4]; exact (Below.heap_alloc _ _ _ (by simp)).trans (World.alloc_heap_new w _)
 have hz2 : W4.heap[w.heap.size + 1]? = some (.cells #[.bool false, .slice none 0 0] 24 (0, 0)) := by rw [← hW4]; have := World.alloc_heap_new (w.alloc (.cells #[.int .i64 x] 201)) (.cells #[.bool false, .slice none 0 0] 24); rwa [World.size_alloc] at this
 have hz3 : W4.heap[g]? = some (.cells #[a, b] 24 (0, 0)) := by rw [← hW4]; exact (Below.heap_alloc _ _ _ (by simp; omega)).trans ((Below.heap_alloc _ _ _ hl1).trans h1)
 have hz4 : W4.heap[g + 1]? = some (.cells #[c] 30 (0, 0)) := by rw [← hW4]; exact (Below.heap_alloc _ _ _ (by simp; omega)).trans ((Below.heap_alloc _ _ _ hl2).trans h2)
 have hbl : Below g w W4 := by rw [← hW4]; exact ((Below.refl g w).alloc (by omega) _).alloc (by simp; omega) _
 rw [hW4]
 clear hW4 x0 x1 x2 y0 y1 y2 h1 h2
 have z0 := cell_at hz1 0 _ rfl
 obtain ⟨z1, z2⟩ := cL2 hz2
 have x0 := cell_at hz3 0 a rfl
 have x1 := cell_at hz3 1 b rfl
 have x2 := cell_at hz4 0 c rfl
 obtain ⟨y0, y1⟩ := fZ2 hz3
 have y2 := frozen_at hz4 0
 have n1 : ¬ g = w.heap.size := by omega
 have n2 : ¬ g = w.heap.size + 1 := by omega
 have n3 : ¬ w.heap.size = g := by omega
 have n4 : ¬ w.heap.size + 1 = g := by omega
 have n5 : ¬ g + 1 = w.heap.size := by omega
 have n6 : ¬ g + 1 = w.heap.size + 1 := by omega
 have n7 : ¬ w.heap.size = g + 1 := by omega
 have n8 : ¬ w.heap.size + 1 = g + 1 := by omega
 generalize w.heap.size = bq at *
 go_region_held3 (fun w' => w'.cell? ⟨bq, 0, none⟩ = some (.int .i64 x) ∧ w'.cell? ⟨bq + 1, 0, none⟩ = some (.bool false) ∧ w'.cell? ⟨bq + 1, 1, none⟩ = some (.slice none 0 0)) ((first | assumption | go_keep)) ((first | fail))
 cases c₀
 simp (config := { zetaDelta := true }) only [bodyPostS, results, Tryz.results200]
 refine ⟨trivial, _, rfl, .tuple #[], by simp [go_sem], rfl, rfl, ?_, ?_, ?_⟩
 · exact (Below.heap_setCell _ _ _ g (by simp)).trans (set_blk (set_blk hz3 0 _) 1 _)
 · exact set_blk ((Below.heap_setCell _ _ _ (g + 1) (by simp)).trans ((Below.heap_setCell _ _ _ (g + 1) (by simp)).trans hz4)) 0 _
 · exact below_drew (((hbl.setCell (Nat.le_refl _) _).setCell (Nat.le_refl _) _).setCell (by simp) _)
theorem try_int_ok (G : Nat) (caps : Array Value) (hG : ∀ (args : Array Value) (w : World), (callFunc G args).run Tryz.prog w = .ok (.enter G args) w) (w : World) (W2 : World)
 (hW2 : (w.alloc (.cells #[.bool false, .slice none 0 0] 24)).alloc (.cells #[.int .i64 0] 30) = W2) (R : Bool → Option Addr → Nat → Nat → World → Prop)
 (h : Calls Tryz.prog G caps W2 fun e w' => ∃ s A n c, e = .returned (.agg #[.bool s, .slice A n c]) ∧ R s A n c w' ∧ Below W2.heap.size W2 w') :
 Calls Tryz.prog 144 #[.func (.func G) #[] caps] w fun e w' =>
  ∃ s A n c w1, R s A n c w1 ∧ Below w.heap.size w w' ∧ (∀ A l, Rd w1 A l → Rd w' A l) ∧ e = .returned (.tuple #[.agg #[.bool s, .slice A n c], .int .i64 0]) := by
 have hmf := mkf
 have hz1 : W2.heap[w.heap.size]? = some (.cells #[.bool false, .slice none 0 0] 24 (0, 0)) := by rw [← hW2]; exact (Below.heap_alloc _ _ _ (by simp)).trans (World.alloc_heap_new w _)
 have hz2 : W2.heap[w.heap.size + 1]? = some (.cells #[.int .i64 0] 30 (0, 0)) := by rw [← hW2]; have := World.alloc_heap_new (w.alloc (.cells #[.bool false, .slice none 0 0] 24)) (.cells #[.int .i64 0] 30); rwa [World.size_alloc] at this
 have hsz : W2.heap.size = w.heap.size + 2 := by rw [← hW2]; simp
 have hb2 : Below w.heap.size w W2 := by rw [← hW2]; exact ((Below.refl _ w).alloc (Nat.le_refl _) _).alloc (by simp) _
 have Hsz := Lib.hid hsz
 clear hsz
 go_enter_defers Tryz.func144, Tryz.ntmps144
 go_wp2_with first
  | (refine h.mono ?_; rintro e w' ⟨s, A, n, c, rfl, hR, hbl⟩; have hy1 := (hbl.block w.heap.size (by have := Hsz.out; omega)).trans hz1; have hy2 := (hbl.block (w.heap.size + 1) (by have := Hsz.out; omega)).trans hz2; obtain ⟨x0, x1⟩ := cL2 hy1; have x2 := cell_at hy2 0 _ rfl; obtain ⟨y0, y1⟩ := fZ2 hy1; have y2 := frozen_at hy2 0)
 obtain ⟨X, hX⟩ : ∃ X, (((w'.setCell ⟨w.heap.size, 0, none⟩ (.bool s)).setCell ⟨w.heap.size, 1, none⟩ (.slice A n c)).setCell ⟨w.heap.size + 1, 0, none⟩ (.int .i64 0)) = X := ⟨_, rfl⟩
 have hx1 : X.heap[w.heap.size]? = some (.cells #[.bool s, .slice A n c] 24 (0, 0)) := by rw [← hX]; exact (Below.heap_setCell _ _ _ _ (by simp)).trans (set_blk (set_blk hy1 0 _) 1 _)
 have hx2 : X.heap[w.heap.size + 1]? = some (.cells #[.int .i64 0] 30 (0, 0)) := by rw [← hX]; exact set_blk ((Below.heap_setCell _ _ _ _ (by simp)).trans ((Below.heap_setCell _ _ _ _ (by simp)).trans hy2)) 0 _
 have hbX : Below w.heap.size w X := by rw [← hX]; exact (((hb2.trans (hbl.mono hb2.size)).setCell (Nat.le_refl _) _).setCell (Nat.le_refl _) _).setCell (by simp) _
 have hRd : ∀ A l, Rd w' A l → Rd X A l := by
  intro A l hA
  rw [← hX]
  rcases Nat.eq_zero_or_pos l.length with h0 | h0
  · obtain rfl : l = [] := List.length_eq_zero_iff.1 h0
    exact Rd.nil _ _
  · obtain ⟨b, o, rfl⟩ := hA.head h0
    obtain ⟨b', o', e, hc⟩ := hA.cell 0 h0
    cases e
    have e1 : b ≠ w.heap.size := by
     rintro rfl
     simp only [World.cell?, hy1, Option.isSome_none, Bool.false_eq_true, if_false] at hc
     rcases Nat.lt_or_ge (o + 0) 2 with h | h
     · rcases (show o + 0 = 0 ∨ o + 0 = 1 by omega) with h | h <;> rw [h] at hc <;> simp at hc
     · rw [Array.getElem?_eq_none (by simpa using h)] at hc; cases hc
    have e2 : b ≠ w.heap.size + 1 := by
     rintro rfl
     simp only [World.cell?, hy2, Option.isSome_none, Bool.false_eq_true, if_false] at hc
     rcases Nat.lt_or_ge (o + 0) 1 with h | h
     · rw [show o + 0 = 0 by omega] at hc; simp at hc
     · rw [Array.getElem?_eq_none (by simpa using h)] at hc; cases hc
    exact grw_rd (grownBy_setCell_at _ _ _ _) (grw_rd (grownBy_setCell_at _ _ _ _) (grw_rd (grownBy_setCell_at _ _ _ _) hA (fun b o e => by cases e; exact e1)) (fun b o e => by cases e; exact e1)) (fun b o e => by cases e; exact e2)
 rw [hX]
 refine leaves_cons (f := 200) (args := #[.pointer (some ⟨w.heap.size, 0, none⟩), .pointer (some ⟨w.heap.size + 1, 0, none⟩)]) (by simp) (by simp [go_sem]) ?_
 refine (catch_idle_int ⟨w.heap.size, 0, none⟩ ⟨w.heap.size + 1, 0, none⟩ _).mono ?_
 rintro e u' w'' ⟨rfl, rfl, rfl⟩
 obtain ⟨v0, v1⟩ := cL2 hx1
 have v2 := cell_at hx2 0 _ rfl
 refine ⟨.tuple #[.agg #[.bool s, .slice A n c], .int .i64 0], ?_, s, A, n, c, w', hR, hbX, hRd, rfl⟩
 simp [results, Tryz.results144, go_sem, v0, v1, v2]
theorem try_int_wrong (G : Nat) (caps : Array Value) (hG : ∀ (args : Array Value) (w : World), (callFunc G args).run Tryz.prog w = .ok (.enter G args) w) (w : World) (W2 : World)
 (hW2 : (w.alloc (.cells #[.bool false, .slice none 0 0] 24)).alloc (.cells #[.int .i64 0] 30) = W2) (c : Int)
 (h : Calls Tryz.prog G caps W2 fun e w' => e = .panicked (wrong c) ∧ Below W2.heap.size W2 w') :
 Calls Tryz.prog 144 #[.func (.func G) #[] caps] w fun e w' =>
  Below w.heap.size w w' ∧ e = .returned (.tuple #[.agg #[.bool false, .slice none 0 0], .int .i64 c]) := by
 have hmf := mkf
 have hz1 : W2.heap[w.heap.size]? = some (.cells #[.bool false, .slice none 0 0] 24 (0, 0)) := by rw [← hW2]; exact (Below.heap_alloc _ _ _ (by simp)).trans (World.alloc_heap_new w _)
 have hz2 : W2.heap[w.heap.size + 1]? = some (.cells #[.int .i64 0] 30 (0, 0)) := by rw [← hW2]; have := World.alloc_heap_new (w.alloc (.cells #[.bool false, .slice none 0 0] 24)) (.cells #[.int .i64 0] 30); rwa [World.size_alloc] at this
 have hsz : W2.heap.size = w.heap.size + 2 := by rw [← hW2]; simp
 have hb2 : Below w.heap.size w W2 := by rw [← hW2]; exact ((Below.refl _ w).alloc (Nat.le_refl _) _).alloc (by simp) _
 have Hsz := Lib.hid hsz
 clear hsz
 go_enter_defers Tryz.func144, Tryz.ntmps144
 go_wp2_with first
  | (refine h.mono ?_; rintro e w' ⟨rfl, hbl⟩)
 have hy1 := (hbl.block w.heap.size (by have := Hsz.out; omega)).trans hz1
 have hy2 := (hbl.block (w.heap.size + 1) (by have := Hsz.out; omega)).trans hz2
 have hbw : Below w.heap.size w w' := hb2.trans (hbl.mono hb2.size)
 refine leaves_cons (f := 200) (args := #[.pointer (some ⟨w.heap.size, 0, none⟩), .pointer (some ⟨w.heap.size + 1, 0, none⟩)]) (by simp) (by simp [go_sem]) ?_
 refine (catch_wrong_int w.heap.size c [] _ _ _ _ hy1 hy2).mono ?_
 rintro e u' w'' ⟨rfl, rfl, hx1, hx2, hbx⟩
 obtain ⟨v0, v1⟩ := cL2 hx1
 have v2 := cell_at hx2 0 _ rfl
 refine ⟨.tuple #[.agg #[.bool false, .slice none 0 0], .int .i64 c], ?_, hbw.trans hbx, rfl⟩
 simp [results, Tryz.results144, go_sem, v0, v1, v2]
structure IntBox (w : World) (g : Nat) (neg : Bool) (A : Option Addr) (c : Nat) (l : List Nat) : Prop where
 blk : w.heap[g]? = some (.cells #[.bool neg, .slice A l.length c] 24 (0, 0))
 rd : Rd w A l
 cap : l.length ≤ c
theorem IntBox.on {w W : World} {g : Nat} {neg : Bool} {A : Option Addr} {c : Nat} {l : List Nat} (h : IntBox w g neg A c l) (hb : Below w.heap.size w W) : IntBox W g neg A c l :=
 ⟨(hb.block g (Array.getElem?_eq_some_iff.1 h.blk).1).trans h.blk, h.rd.on hb, h.cap⟩
theorem okI_isInt {neg : Bool} {l : List Nat} (hw : Words l) (h : okI neg l = true) : IsInt neg l := by
 unfold okI at h
 split at h
 · rename_i h0
   obtain rfl : l = [] := List.length_eq_zero_iff.1 h0
   exact ⟨canon_nil, by simp, fun hn => by rw [hn] at h; cases h⟩
 · rename_i h0
   simp only [Bool.and_eq_true, decide_eq_true_eq, bne_iff_ne] at h
   refine ⟨⟨hw, fun hne => ?_⟩, h.1, fun _ e => h0 (by rw [e]; rfl)⟩
   have ht : l.getD (l.length - 1) 0 = l.getLast hne := by rw [List.getLast_eq_getElem, List.getD_eq_getElem?_getD, List.getElem?_eq_getElem (by omega)]; rfl
   rw [← ht]; exact h.2
theorem formed_two (g : Nat) (n1 n2 : Bool) (A1 A2 : Option Addr) (c1 c2 : Nat) (l1 l2 : List Nat) (w : World) (hg : w.heap[g]? = some (.cells #[.bool n1, .slice A1 l1.length c1, .bool n2, .slice A2 l2.length c2] 24 (0, 0)))
 (h1 : Rd w A1 l1) (h2 : Rd w A2 l2) (hc1 : l1.length ≤ c1) (hc2 : l2.length ≤ c2) :
 Calls Tryz.prog 146 #[.slice (some ⟨g, 0, none⟩) 2 2] w fun e w' =>
  ((okI n1 l1 && okI n2 l2) = true → e = .returned (.tuple #[])) ∧ ((okI n1 l1 && okI n2 l2) = false → e = .panicked (wrong 1)) ∧ Below w.heap.size w w' := by
 have := formed_calls g [⟨n1, A1, c1, l1⟩, ⟨n2, A2, c2, l2⟩] w (Array.getElem?_eq_some_iff.1 hg).1 ⟨?_, ?_, ?_⟩ (by simp)
 · simpa [IntArg.ok] using this
 · intro k hk
   match k, hk with
   | 0, _ => exact cell_at hg 0 _ rfl
   | 1, _ => exact cell_at hg 2 _ rfl
 · intro k hk
   match k, hk with
   | 0, _ => exact cell_at hg 1 _ rfl
   | 1, _ => exact cell_at hg 3 _ rfl
 · intro k hk
   match k, hk with
   | 0, _ => exact ⟨h1, hc1⟩
   | 1, _ => exact ⟨h2, hc2⟩
structure Blk (W : World) (g : Nat) (cur : Array Value) (t : TypeId) : Prop where
 h : W.heap[g]? = some (.cells cur t (0, 0))
theorem Blk.on {w W : World} {g : Nat} {cur : Array Value} {t : TypeId} (h : Blk w g cur t) (hb : Below w.heap.size w W) : Blk W g cur t := ⟨(hb.block g (Array.getElem?_eq_some_iff.1 h.h).1).trans h.h⟩
theorem two_old (w : World) (a b : Obj) : ∀ {cur : Array Value} {t : TypeId}, a = .cells cur t (0, 0) → Blk ((w.alloc a).alloc b) w.heap.size cur t := fun e => ⟨by rw [← e]; exact (Below.heap_alloc _ _ _ (by simp)).trans (World.alloc_heap_new w _)⟩
theorem rd_sets {W : World} {A : Option Addr} {l : List Nat} {g : Nat} {t : TypeId} {s : Bool} {B : Option Addr} {n c : Nat} (h : Rd W A l) (hb : Blk W g #[.bool s, .slice B n c] t) (u v : Value) : Rd ((W.setCell ⟨g, 0, none⟩ u).setCell ⟨g, 1, none⟩ v) A l := by
 rcases Nat.eq_zero_or_pos l.length with h0 | h0
 · obtain rfl : l = [] := List.length_eq_zero_iff.1 h0
   exact Rd.nil _ _
 · obtain ⟨b, o, rfl⟩ := h.head h0
   obtain ⟨b', o', e, hc⟩ := h.cell 0 h0
   cases e
   have e1 : b ≠ g := by
    rintro rfl
    simp only [World.cell?, hb.h, Option.isSome_none, Bool.false_eq_true, if_false] at hc
    rcases Nat.lt_or_ge (o + 0) 2 with h | h
    · rcases (show o + 0 = 0 ∨ o + 0 = 1 by omega) with h | h <;> rw [h] at hc <;> simp at hc
    · rw [Array.getElem?_eq_none (by simpa using h)] at hc; cases hc
   exact grw_rd (grownBy_setCell_at _ _ _ _) (grw_rd (grownBy_setCell_at _ _ _ _) h (fun b o e => by cases e; exact e1)) (fun b o e => by cases e; exact e1)
theorem two_blk (w : World) (a b : Obj) : ((w.alloc a).alloc b).heap[w.heap.size + 1]? = some b := by
 have := World.alloc_heap_new (w.alloc a) b
 rwa [World.size_alloc] at this
theorem add1_bad (g1 g2 : Nat) (n1 n2 : Bool) (A1 A2 : Option Addr) (c1 c2 : Nat) (l1 l2 : List Nat) (w : World) (h1 : IntBox w g1 n1 A1 c1 l1) (h2 : IntBox w g2 n2 A2 c2 l2) (hbad : (okI n1 l1 && okI n2 l2) = false) :
 Calls Tryz.prog 145 #[.pointer (some ⟨g1, 0, none⟩), .pointer (some ⟨g2, 0, none⟩)] w fun e w' => e = .panicked (wrong 1) ∧ Below w.heap.size w w' := by
 obtain ⟨x0, x1⟩ := cL2 h1.blk
 obtain ⟨y0, y1⟩ := cL2 h2.blk
 have t1 := (Array.getElem?_eq_some_iff.1 h1.blk).1
 have t2 := (Array.getElem?_eq_some_iff.1 h2.blk).1
 have hb2 : ∀ a b, Below w.heap.size w ((w.alloc a).alloc b) := fun a b => ((Below.refl _ w).alloc (Nat.le_refl _) _).alloc (by simp) _
 have hf := fun a => formed_two (w.heap.size + 1) n1 n2 A1 A2 c1 c2 l1 l2 _ (two_blk w a (.cells #[.bool n1, .slice A1 l1.length c1, .bool n2, .slice A2 l2.length c2] 24)) (h1.rd.on (hb2 _ _)) (h2.rd.on (hb2 _ _)) h1.cap h2.cap
 go_enter Tryz.func145, Tryz.ntmps145
 go_wp2_with (go_at_call 146; refine (hf _).mono ?_; rintro e w' ⟨-, hp, hbl⟩; cases hp hbad)
 exact ⟨rfl, rfl, (hb2 _ _).trans (hbl.mono (hb2 _ _).size)⟩
theorem add1_ok (g1 g2 : Nat) (n1 n2 : Bool) (A1 A2 : Option Addr) (c1 c2 : Nat) (l1 l2 : List Nat) (w : World) (h1 : IntBox w g1 n1 A1 c1 l1) (h2 : IntBox w g2 n2 A2 c2 l2) (k1 : IsInt n1 l1) (k2 : IsInt n2 l2) (hok : (okI n1 l1 && okI n2 l2) = true)
 (hs : (lim (addS n1 (val l1) n2 (val l2)).2).length ≤ 300) :
 Calls Tryz.prog 145 #[.pointer (some ⟨g1, 0, none⟩), .pointer (some ⟨g2, 0, none⟩)] w (RetInt ((addS n1 (val l1) n2 (val l2)).1 && (addS n1 (val l1) n2 (val l2)).2 != 0) (addS n1 (val l1) n2 (val l2)).2 w) := by
 obtain ⟨x0, x1⟩ := cL2 h1.blk
 obtain ⟨y0, y1⟩ := cL2 h2.blk
 have t1 := (Array.getElem?_eq_some_iff.1 h1.blk).1
 have t2 := (Array.getElem?_eq_some_iff.1 h2.blk).1
 have hb2 : ∀ a b, Below w.heap.size w ((w.alloc a).alloc b) := fun a b => ((Below.refl _ w).alloc (Nat.le_refl _) _).alloc (by simp) _
 have hf := fun a => formed_two (w.heap.size + 1) n1 n2 A1 A2 c1 c2 l1 l2 _ (two_blk w a (.cells #[.bool n1, .slice A1 l1.length c1, .bool n2, .slice A2 l2.length c2] 24)) (h1.rd.on (hb2 _ _)) (h2.rd.on (hb2 _ _)) h1.cap h2.cap
 have ht := fun W (hW : Below w.heap.size w W) => total_calls n1 n2 A1 A2 c1 c2 l1 l2 W (h1.rd.on hW) (h2.rd.on hW) h1.cap h2.cap k1.canon k2.canon (by have := k1.small; omega) (by have := k2.small; omega)
 generalize addS n1 (val l1) n2 (val l2) = r at *
 obtain ⟨s, m⟩ := r
 dsimp only at *
 have hw := fun W A c (h : Rd W A (lim m)) (hc : (lim m).length ≤ c) => whole_ok s A c (lim m) W h hc (by rw [val_lim]; exact hs)
 simp only [val_lim] at hw
 go_enter Tryz.func145, Tryz.ntmps145
 go_wp2_with first
  | (go_at_call 146; refine (hf _).mono ?_; rintro e w' ⟨hp, -, hbl⟩; cases hp hok; have hb3 := (hb2 _ _).trans (hbl.mono (hb2 _ _).size); obtain ⟨x0', x1'⟩ := cL2 ((hb3.block g1 t1).trans h1.blk); obtain ⟨y0', y1'⟩ := cL2 ((hb3.block g2 t2).trans h2.blk))
  | (go_at_call 148; refine (ht _ hb3).mono ?_; rintro e w4 ⟨A4, c4, rfl, n4, r4, b4⟩)
  | (go_at_call 147; refine (hw _ A4 c4 r4 n4).mono ?_; rintro e w5 ⟨A5, c5, rfl, n5, r5, b5⟩; have hq0 := two_old w (.cells #[.bool false, .slice none 0 0] 24) (.cells #[.bool n1, .slice A1 l1.length c1, .bool n2, .slice A2 l2.length c2] 24) rfl; have hq := hq0.on hbl; have hq' := hq.on b4; have hq5 := hq'.on b5; obtain ⟨z0, z1⟩ := cL2 hq5.h; obtain ⟨u0, u1⟩ := fZ2 hq5.h)
 exact ret_cell rfl rfl rfl (set_blk (set_blk hq5.h 0 _) 1 _) ⟨A5, c5, rfl, n5, rd_sets r5 hq5 _ _, (((((hb3.trans (b4.mono hb3.size)).trans (b5.mono (hb3.trans (b4.mono hb3.size)).size))).setCell (Nat.le_refl _) _).setCell (Nat.le_refl _) _)⟩
theorem add1_big (g1 g2 : Nat) (n1 n2 : Bool) (A1 A2 : Option Addr) (c1 c2 : Nat) (l1 l2 : List Nat) (w : World) (h1 : IntBox w g1 n1 A1 c1 l1) (h2 : IntBox w g2 n2 A2 c2 l2) (k1 : IsInt n1 l1) (k2 : IsInt n2 l2) (hok : (okI n1 l1 && okI n2 l2) = true)
 (hs : 300 < (lim (addS n1 (val l1) n2 (val l2)).2).length) :
 Calls Tryz.prog 145 #[.pointer (some ⟨g1, 0, none⟩), .pointer (some ⟨g2, 0, none⟩)] w fun e w' => e = .panicked (wrong 3) ∧ Below w.heap.size w w' := by
 obtain ⟨x0, x1⟩ := cL2 h1.blk
 obtain ⟨y0, y1⟩ := cL2 h2.blk
 have t1 := (Array.getElem?_eq_some_iff.1 h1.blk).1
 have t2 := (Array.getElem?_eq_some_iff.1 h2.blk).1
 have hb2 : ∀ a b, Below w.heap.size w ((w.alloc a).alloc b) := fun a b => ((Below.refl _ w).alloc (Nat.le_refl _) _).alloc (by simp) _
 have hf := fun a => formed_two (w.heap.size + 1) n1 n2 A1 A2 c1 c2 l1 l2 _ (two_blk w a (.cells #[.bool n1, .slice A1 l1.length c1, .bool n2, .slice A2 l2.length c2] 24)) (h1.rd.on (hb2 _ _)) (h2.rd.on (hb2 _ _)) h1.cap h2.cap
 have ht := fun W (hW : Below w.heap.size w W) => total_calls n1 n2 A1 A2 c1 c2 l1 l2 W (h1.rd.on hW) (h2.rd.on hW) h1.cap h2.cap k1.canon k2.canon (by have := k1.small; omega) (by have := k2.small; omega)
 generalize addS n1 (val l1) n2 (val l2) = r at *
 obtain ⟨s, m⟩ := r
 dsimp only at *
 have hw := fun W A c (h : Rd W A (lim m)) (hc : (lim m).length ≤ c) => whole_no s A c (lim m) W h hc (by rw [val_lim]; exact hs)
 go_enter Tryz.func145, Tryz.ntmps145
 go_wp2_with first
  | (go_at_call 146; refine (hf _).mono ?_; rintro e w' ⟨hp, -, hbl⟩; cases hp hok; have hb3 := (hb2 _ _).trans (hbl.mono (hb2 _ _).size); obtain ⟨x0', x1'⟩ := cL2 ((hb3.block g1 t1).trans h1.blk); obtain ⟨y0', y1'⟩ := cL2 ((hb3.block g2 t2).trans h2.blk))
  | (go_at_call 148; refine (ht _ hb3).mono ?_; rintro e w4 ⟨A4, c4, rfl, n4, r4, b4⟩)
  | (go_at_call 147; refine (hw _ A4 c4 r4 n4).mono ?_; rintro e w5 ⟨rfl, b5⟩)
 exact ⟨rfl, rfl, (hb3.trans (b4.mono hb3.size)).trans (b5.mono (hb3.trans (b4.mono hb3.size)).size)⟩
end Nm
end Go.Proofs.YtjghnghceeijeaaGreatDoor
