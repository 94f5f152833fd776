/-
  Contracts of the walks below, out of the texts U, V, W, X, Y, Z, Ra, Sa, Ta, Va, Wa, Za, Ac, Ad, Xa, Ya, Yb, Ae, Bb, Bc, Bd, Be.
-/
import Derived.Test.YtlhmbbpkhahbeaaGreatDoorNumSb1
import Derived.Deep.RegionHeld3
import Derived.Deep.CutRange
import Derived.BigQuiet
import Derived.Laws.EntriesVeiled
import Derived.Defers
import Derived.Recover
import Derived.Laws.ResultCell
import Derived.Deep.RegionHeld2
namespace Go.Proofs.YtlhmbbpkhahbeaaGreatDoor
namespace Nm
/-- a magnitude in two parts -/
theorem half_parts (a k q : Nat) (hq : q = min k (lim a).length) :
    a = val ((lim a).take q) + BB ^ k * val ((lim a).drop q) ∧ (lim (val ((lim a).take q))).length ≤ q ∧ (lim a).drop q = lim (val ((lim a).drop q)) := by
  have hc := canon_lim a
  refine ⟨?_, ?_, ?_⟩
  · have e := List.take_append_drop q (lim a)
    have h1 : a = val ((lim a).take q) + BB ^ ((lim a).take q).length * val ((lim a).drop q) := by
      rw [← val_append, e, val_lim]
    rcases Nat.lt_or_ge (lim a).length k with h | h
    · have e2 : (lim a).drop q = [] := List.drop_of_length_le (by omega)
      rw [e2] at h1 ⊢
      simpa [val] using h1
    · have e2 : ((lim a).take q).length = k := by rw [List.length_take]; omega
      rw [e2] at h1
      exact h1
  · refine length_le_of_lt ?_
    have := val_lt (words_take hc.1 q)
    refine Nat.lt_of_lt_of_le this (Nat.pow_le_pow_right (by decide) ?_)
    rw [List.length_take]; omega
  · refine (lim_val ⟨words_drop hc.1 q, fun h => ?_⟩).symm
    rw [List.getLast_drop]
    exact hc.2 _
theorem lt_of_length_le {x k : Nat} (h : (lim x).length ≤ k) : x < BB ^ k := length_le_iff.1 h
theorem sum_length {x y k : Nat} (hx : (lim x).length ≤ k) (hy : (lim y).length ≤ k) : (lim (x + y)).length ≤ k + 1 := by
  refine length_le_of_lt ?_
  have h1 := lt_of_length_le hx
  have h2 := lt_of_length_le hy
  rw [Nat.pow_succ]
  have : BB ^ k * 2 ≤ BB ^ k * BB := Nat.mul_le_mul (Nat.le_refl _) (by decide)
  generalize BB ^ k = P at *
  generalize P * BB = R at *
  omega
theorem prod_length {x y k j : Nat} (hx : (lim x).length ≤ k) (hy : (lim y).length ≤ j) : (lim (x * y)).length ≤ k + j := by
  refine length_le_of_lt ?_
  rw [Nat.pow_add]
  exact Nat.mul_lt_mul'' (lt_of_length_le hx) (lt_of_length_le hy)
theorem up_length {x k j : Nat} (hx : (lim x).length ≤ j) : (lim (BB ^ k * x)).length ≤ k + j := by
  refine length_le_of_lt ?_
  rw [Nat.pow_add]
  exact Nat.mul_lt_mul_of_pos_left (lt_of_length_le hx) (Nat.pow_pos (by decide))
/-- the product out of three products -/
theorem halves_sum {a b a0 a1 b0 b1 P : Nat} (ha : a = a0 + P * a1) (hb : b = b0 + P * b1) :
    a0 * b0 + P * ((a0 + a1) * (b0 + b1) - a0 * b0 - a1 * b1) + P * P * (a1 * b1) = a * b := by
  have e : (a0 + a1) * (b0 + b1) - a0 * b0 - a1 * b1 = a0 * b1 + a1 * b0 := by
    rw [Nat.add_mul, Nat.mul_add, Nat.mul_add]; omega
  rw [e, ha, hb, Nat.add_mul, Nat.mul_add, Nat.mul_add, Nat.mul_add]
  have e1 : a0 * (P * b1) = P * (a0 * b1) := Nat.mul_left_comm _ _ _
  have e2 : P * a1 * b0 = P * (a1 * b0) := Nat.mul_assoc _ _ _
  have e3 : P * a1 * (P * b1) = P * P * (a1 * b1) := by rw [Nat.mul_assoc, Nat.mul_left_comm a1, ← Nat.mul_assoc]
  rw [e1, e2, e3]
  omega
theorem mul_le_parts (a0 a1 b0 b1 : Nat) : a0 * b0 ≤ (a0 + a1) * (b0 + b1) ∧ a1 * b1 ≤ (a0 + a1) * (b0 + b1) - a0 * b0 := by
  rw [Nat.add_mul, Nat.mul_add, Nat.mul_add]; omega
/-- all that is asked of the sizes -/
structure Halves (a b k q1 q2 : Nat) (a0 a1 b0 b1 M : Nat) : Prop where
  ha : a = a0 + BB ^ k * a1
  hb : b = b0 + BB ^ k * b1
  i1 : (lim a0).length + (lim b0).length < M
  i2 : (lim a1).length + (lim b1).length < M
  i3 : (lim (a0 + a1)).length + (lim (b0 + b1)).length < M
  la0 : (lim a0).length ≤ k
  lb0 : (lim b0).length ≤ k
  la1 : (lim a1).length ≤ k + 1
  lb1 : (lim b1).length ≤ k + 1
  lm : (lim ((a0 + a1) * (b0 + b1))).length ≤ 2 * k + 4
theorem halves_of {a b k n q1 q2 M : Nat} (hn : n = max (lim a).length (lim b).length) (hk : k = n / 2) (hq1 : q1 = min k (lim a).length) (hq2 : q2 = min k (lim b).length) (hM : (lim a).length + (lim b).length = M) (hlg : 40 ≤ min (lim a).length (lim b).length) :
    Halves a b k q1 q2 (val ((lim a).take q1)) (val ((lim a).drop q1)) (val ((lim b).take q2)) (val ((lim b).drop q2)) M := by
  obtain ⟨p1, p2, p3⟩ := half_parts a k q1 hq1
  obtain ⟨r1, r2, r3⟩ := half_parts b k q2 hq2
  have p4 : (lim (val ((lim a).drop q1))).length = (lim a).length - q1 := by rw [← p3, List.length_drop]
  have r4 : (lim (val ((lim b).drop q2))).length = (lim b).length - q2 := by rw [← r3, List.length_drop]
  generalize val ((lim a).take q1) = a0 at *
  generalize val ((lim a).drop q1) = a1 at *
  generalize val ((lim b).take q2) = b0 at *
  generalize val ((lim b).drop q2) = b1 at *
  have s1 : (lim (a0 + a1)).length ≤ k + 2 := sum_length (k := k + 1) (by omega) (by omega)
  have s2 : (lim (b0 + b1)).length ≤ k + 2 := sum_length (k := k + 1) (by omega) (by omega)
  exact ⟨p1, r1, by omega, by omega, by omega, by omega, by omega, by omega, by omega, by have := prod_length s1 s2; omega⟩
end Nm
end Go.Proofs.YtlhmbbpkhahbeaaGreatDoor
namespace Go.Proofs.YtlhmbbpkhahbeaaGreatDoor
namespace Nm
open Go.RowKit Go.Shelf Go.BigFrame
attribute [local go_sem] Oper.semAt_some
/-- the function value that lies in the box of 'halves' -/
abbrev hv (Bh : Nat) : Value := .func (.func 87) #[] #[.pointer (some ⟨Bh, 0, none⟩)]
theorem cell_keep {W W' : World} {B : Nat} {v : Value} (h : W.cell? ⟨B, 0, none⟩ = some v) (hb : Below W.heap.size W W') : W'.cell? ⟨B, 0, none⟩ = some v :=
  (hb.cell (p := ⟨B, 0, none⟩) (World.block_lt_of_cell? W _ h)).trans h
theorem Rd.drop {w : World} {b o : Nat} {l : List Nat} (h : Rd w (some ⟨b, o, none⟩) l) (q : Nat) (A' : Option Addr) (hA : q < l.length → A' = some ⟨b, o + q, none⟩) : Rd w A' (l.drop q) := by
  refine ⟨fun i hi => ?_, words_drop h.words q, by have := h.small; rw [List.length_drop]; omega⟩
  rw [List.length_drop] at hi
  obtain ⟨b', o', e, hc⟩ := h.cell (q + i) (by omega)
  cases e
  refine ⟨b, o + q, hA (by omega), ?_⟩
  rw [Nat.add_assoc, hc, List.getD_eq_getElem?_getD, List.getD_eq_getElem?_getD, List.getElem?_drop]
theorem Rd.on {W W' : World} {A : Option Addr} {l : List Nat} (h : Rd W A l) (hb : Below W.heap.size W W') : Rd W' A l := h.below hb rfl
set_option maxRecDepth 100000 in
set_option maxHeartbeats 4000000 in
theorem halves_short (Bh : Nat) (A1 A2 : Option Addr) (c1 c2 : Nat) (l1 l2 : List Nat) (w : World) (h1 : Rd w A1 l1) (h2 : Rd w A2 l2) (hc1 : l1.length ≤ c1) (hc2 : l2.length ≤ c2) (hs1 : l1.length ≤ 65536) (hs2 : l2.length ≤ 65536)
    (hsh : min l1.length l2.length < 40) :
    Calls Tryz.prog 87 #[.slice A1 l1.length c1, .slice A2 l2.length c2, .pointer (some ⟨Bh, 0, none⟩)] w (RetNat (val l1 * val l2) w) := by
  go_enter Tryz.func87, Tryz.ntmps87
  go_wp2_with first
    | (go_at_call 88; refine (long_calls A1 A2 c1 c2 l1 l2 _ h1 h2 hc1 hc2 hs1 hs2).mono ?_; rintro e w' ⟨A, c, rfl, hr1, hr2, hr3⟩)
  go_ret
  exact ⟨_, _, rfl, hr1, hr2, hr3⟩
set_option maxRecDepth 100000 in
set_option maxHeartbeats 4000000 in
theorem halves_step (Bh M : Nat) (hM : M ≤ 32768)
    (ih : ∀ (x y : Nat) (A A' : Option Addr) (c c' : Nat) (W : World), (lim x).length + (lim y).length < M → Rd W A (lim x) → Rd W A' (lim y) → (lim x).length ≤ c → (lim y).length ≤ c' → W.cell? ⟨Bh, 0, none⟩ = some (hv Bh) →
      Calls Tryz.prog 87 #[.slice A (lim x).length c, .slice A' (lim y).length c', .pointer (some ⟨Bh, 0, none⟩)] W (RetNat (x * y) W))
    (A1 A2 : Option Addr) (c1 c2 a b : Nat) (w : World) (hlen : (lim a).length + (lim b).length = M) (h1 : Rd w A1 (lim a)) (h2 : Rd w A2 (lim b)) (hc1 : (lim a).length ≤ c1) (hc2 : (lim b).length ≤ c2)
    (hB : w.cell? ⟨Bh, 0, none⟩ = some (hv Bh)) (hlg : 40 ≤ min (lim a).length (lim b).length) :
    Calls Tryz.prog 87 #[.slice A1 (lim a).length c1, .slice A2 (lim b).length c2, .pointer (some ⟨Bh, 0, none⟩)] w (RetNat (a * b) w) := by
  obtain ⟨n, hn, hn'⟩ : ∃ n : Nat, max ((lim a).length : Int) ((lim b).length : Int) = (n : Int) ∧ Hid (n = max (lim a).length (lim b).length) := ⟨max (lim a).length (lim b).length, by omega, rfl⟩
  obtain ⟨k, hk, hk'⟩ : ∃ k : Nat, (n : Int) / 2 = (k : Int) ∧ Hid (k = n / 2) := ⟨n / 2, by omega, rfl⟩
  obtain ⟨q1, hq1, hq1'⟩ : ∃ q : Nat, min (k : Int) ((lim a).length : Int) = (q : Int) ∧ Hid (q = min k (lim a).length) := ⟨min k (lim a).length, by omega, rfl⟩
  obtain ⟨q2, hq2, hq2'⟩ : ∃ q : Nat, min (k : Int) ((lim b).length : Int) = (q : Int) ∧ Hid (q = min k (lim b).length) := ⟨min k (lim b).length, by omega, rfl⟩
  have hH := halves_of hn'.out hk'.out hq1'.out hq2'.out hlen hlg
  obtain ⟨-, hp2, hp3⟩ := half_parts a k q1 hq1'.out
  obtain ⟨-, hr2, hr3⟩ := half_parts b k q2 hq2'.out
  have hnb : n ≤ 32768 := by have := hn'.out; omega
  have hkb : k ≤ 16384 := by have := hk'.out; omega
  have hq1b : q1 ≤ (lim a).length := by have := hq1'.out; omega
  have hq2b : q2 ≤ (lim b).length := by have := hq2'.out; omega
  have hl1b : (lim a).length ≤ 32768 := by omega
  have hl2b : (lim b).length ≤ 32768 := by omega
  obtain ⟨b1, o1, rfl⟩ := h1.head (by omega)
  obtain ⟨b2, o2, rfl⟩ := h2.head (by omega)
  have e1 : ((lim a).take q1).length = q1 := by rw [List.length_take]; omega
  have e2 : ((lim b).take q2).length = q2 := by rw [List.length_take]; omega
  have d1 : ((lim a).drop q1).length = (lim a).length - q1 := List.length_drop
  have d2 : ((lim b).drop q2).length = (lim b).length - q2 := List.length_drop
  have hT1 : ∀ W, Below w.heap.size w W → Calls Tryz.prog 63 #[.slice (some ⟨b1, o1, none⟩) q1 c1] W fun e w' => e = .returned (.slice (some ⟨b1, o1, none⟩) (lim (val ((lim a).take q1))).length c1) ∧ w' = W := by
    intro W hW
    have := trim_calls (some ⟨b1, o1, none⟩) c1 ((lim a).take q1) W ((h1.take q1).on hW) (by omega)
    rw [e1] at this
    exact this.mono fun e w' h => ⟨h.1, h.2.symm⟩
  have hT2 : ∀ W, Below w.heap.size w W → Calls Tryz.prog 63 #[.slice (some ⟨b2, o2, none⟩) q2 c2] W fun e w' => e = .returned (.slice (some ⟨b2, o2, none⟩) (lim (val ((lim b).take q2))).length c2) ∧ w' = W := by
    intro W hW
    have := trim_calls (some ⟨b2, o2, none⟩) c2 ((lim b).take q2) W ((h2.take q2).on hW) (by omega)
    rw [e2] at this
    exact this.mono fun e w' h => ⟨h.1, h.2.symm⟩
  have hra := (h1.take q1).trim
  have hrb := (h2.take q2).trim
  unfold trim at hra hrb
  have hda := h1.drop q1
  have hdb := h2.drop q2
  rw [hp3] at hda d1
  rw [hr3] at hdb d2
  generalize val ((lim a).take q1) = a0 at *
  generalize val ((lim a).drop q1) = a1 at *
  generalize val ((lim b).take q2) = b0 at *
  generalize val ((lim b).drop q2) = b1' at *
  clear hp3 hr3 e1 e2 hn' hk' hq1' hq2'
  have hq1c := fun (r : Nat) (W : World) (h : Below w.heap.size w W) => Calls.quiet_of_same (n := r) (hT1 (W.drewN r) (below_drewN h r))
  have hq2c := fun (r : Nat) (W : World) (h : Below w.heap.size w W) => Calls.quiet_of_same (n := r) (hT2 (W.drewN r) (below_drewN h r))
  have D1 := Lib.hid d1
  have D2 := Lib.hid d2
  have HH := Lib.hid hH
  clear hH d1 d2 hT1 hT2
  go_enter Tryz.func87, Tryz.ntmps87
  go_wp2_with fail
  go_quiet ((go_at_call 63; exact hq1c _ w (Below.refl _ _)))
  generalize hA9 : (if c1 = q1 then (some ⟨b1, o1, none⟩ : Option Addr) else some ⟨b1, o1 + q1, none⟩) = A9
  have hr9 := hda A9 (by intro h; rw [← hA9, if_neg (by omega)])
  clear hA9 hda hq1c
  rw [← D1.out]
  obtain ⟨w1, hw1⟩ : ∃ w1, w.drewN nq = w1 := ⟨_, rfl⟩
  have hbw1 : Below w.heap.size w w1 := by rw [← hw1]; exact below_drewN (Below.refl _ _) _
  rw [hw1]
  clear hw1
  go_wp2_with fail
  go_quiet ((go_at_call 63; exact hq2c _ w1 hbw1))
  generalize hA11 : (if c2 = q2 then (some ⟨b2, o2, none⟩ : Option Addr) else some ⟨b2, o2 + q2, none⟩) = A11
  have hr11 := hdb A11 (by intro h; rw [← hA11, if_neg (by omega)])
  clear hA11 hdb hq2c
  rw [← D2.out]
  obtain ⟨w2, hw2⟩ : ∃ w2, w1.drewN nq = w2 := ⟨_, rfl⟩
  have hbw2 : Below w.heap.size w w2 := by rw [← hw2]; exact below_drewN hbw1 _
  rw [hw2]
  clear hw2
  replace hr9 := hr9.on hbw2
  replace hr11 := hr11.on hbw2
  replace hra := hra.on hbw2
  replace hrb := hrb.on hbw2
  replace hB := cell_keep hB hbw2
  clear hbw1
  have hBl := World.block_lt_of_cell? w2 _ hB
  have hcx1 : (lim a0).length ≤ c1 := by have := hp2; omega
  have hcx2 : (lim b0).length ≤ c2 := by have := hr2; omega
  have hcd1 : (lim a1).length ≤ c1 - q1 := by have := D1.out; omega
  have hcd2 : (lim b1').length ≤ c2 - q2 := by have := D2.out; omega
  obtain ⟨L, hL⟩ : ∃ L, a0 * b0 = L := ⟨_, rfl⟩
  obtain ⟨H, hH⟩ : ∃ L, a1 * b1' = L := ⟨_, rfl⟩
  obtain ⟨S1, hS1⟩ : ∃ L, a0 + a1 = L := ⟨_, rfl⟩
  obtain ⟨S2, hS2⟩ : ∃ L, b0 + b1' = L := ⟨_, rfl⟩
  obtain ⟨Mm, hMm⟩ : ∃ L, S1 * S2 = L := ⟨_, rfl⟩
  obtain ⟨k2, hk2, hk2'⟩ : ∃ k2 : Nat, 2 * (k : Int) = (k2 : Int) ∧ Hid (k2 = 2 * k) := ⟨2 * k, by omega, rfl⟩
  have hk2b : k2 ≤ 32768 := by have := hk2'.out; omega
  have hparts := mul_le_parts a0 a1 b0 b1'
  rw [hS1, hS2, hMm, hL, hH] at hparts
  have hsum := halves_sum HH.out.ha HH.out.hb
  rw [hS1, hS2, hMm, hL, hH] at hsum
  have hlm := HH.out.lm
  have hi3' := HH.out.i3
  rw [hS1, hS2] at hi3' hlm
  rw [hMm] at hlm
  have hlL := prod_length HH.out.la0 HH.out.lb0
  have hlH := prod_length HH.out.la1 HH.out.lb1
  rw [hL] at hlL
  rw [hH] at hlH
  have hl5 := length_mono hparts.1
  have hl6 := length_mono hparts.2
  have hl7 := length_mono (show Mm - L ≤ Mm by omega)
  have hl8 := length_mono (show Mm - L - H ≤ Mm by omega)
  have hla0 := HH.out.la0
  have hla1 := HH.out.la1
  have hlb0 := HH.out.lb0
  have hlb1 := HH.out.lb1
  have hl9 := up_length (k := k) (Nat.le_trans hl8 hlm)
  have hl10 := up_length (k := k2) hlH
  have hl11 := sum_length (x := L) (y := BB ^ k * (Mm - L - H)) (k := 3 * k + 4) (by omega) (by omega)
  have hPP : BB ^ k2 = BB ^ k * BB ^ k := by rw [hk2'.out, ← Nat.pow_add]; congr 1; omega
  rw [← hPP] at hsum
  obtain ⟨md, hmd⟩ : ∃ L', Mm - L - H = L' := ⟨_, rfl⟩
  obtain ⟨m1, hm1⟩ : ∃ L', Mm - L = L' := ⟨_, rfl⟩
  rw [hm1] at hmd
  obtain ⟨u1, hu1⟩ : ∃ L', BB ^ k * md = L' := ⟨_, rfl⟩
  obtain ⟨u2, hu2⟩ : ∃ L', BB ^ k2 * H = L' := ⟨_, rfl⟩
  rw [hm1, hmd] at hsum
  rw [hu1, hu2] at hsum
  rw [hu2] at hl10
  rw [hm1, hmd] at hl8 hl9 hl11
  rw [hu1] at hl9 hl11
  rw [hm1] at hl6 hl7
  have hpL := Lib.hid hparts
  have HL := Lib.hid hL
  have HHH := Lib.hid hH
  have HS1 := Lib.hid hS1
  have HS2 := Lib.hid hS2
  have HMm := Lib.hid hMm
  have Hmd := Lib.hid hmd
  have Hm1 := Lib.hid hm1
  have Hu1 := Lib.hid hu1
  have Hu2 := Lib.hid hu2
  have Hsum := Lib.hid hsum
  rw [hm1] at hparts
  clear hPP hsum hmd hu1 hu2 
  have hlow : ∀ W, Below w2.heap.size w2 W → Calls Tryz.prog 87 #[.slice (some ⟨b1, o1, none⟩) (lim a0).length c1, .slice (some ⟨b2, o2, none⟩) (lim b0).length c2, .pointer (some ⟨Bh, 0, none⟩)] W (RetNat L W) := by
    rw [← hL]; exact fun W hW => ih a0 b0 _ _ _ _ W HH.out.i1 (hra.on hW) (hrb.on hW) hcx1 hcx2 (cell_keep hB hW)
  have hhigh : ∀ W, Below w2.heap.size w2 W → Calls Tryz.prog 87 #[.slice A9 (lim a1).length (c1 - q1), .slice A11 (lim b1').length (c2 - q2), .pointer (some ⟨Bh, 0, none⟩)] W (RetNat H W) := by
    rw [← hH]; exact fun W hW => ih a1 b1' _ _ _ _ W HH.out.i2 (hr9.on hW) (hr11.on hW) hcd1 hcd2 (cell_keep hB hW)
  clear hL hH hS1 hS2 hMm hm1 hparts
  go_wp2_with fail
  go_region_held3 (fun w' => w'.cell? ⟨Bh, 0, none⟩ = some (.func (.func 87) #[] #[.pointer (some ⟨Bh, 0, none⟩)])) ((first | assumption | exact hB))
    ((first
      | (go_at_call 87; refine (hhigh w3 hb3).mono ?_; rintro e w4 ⟨Ahi, chi, rfl, hi1, hi2, hi3⟩; have hb4 : Below w2.heap.size w2 w4 := hb3.trans (hi3.mono hb3.size); have hB4 := cell_keep hB hb4)
      | (go_at_call 87; refine (hlow w2.drew (below_drewN (Below.refl _ w2) 1)).mono ?_; rintro e w3 ⟨Alo, clo, rfl, lo1, lo2, lo3⟩; have hb3 : Below w2.heap.size w2 w3 := (below_drewN (Below.refl _ w2) 1).trans lo3; have hB3 := cell_keep hB hb3)))
  clear hlow hhigh
  replace lo2 := lo2.on hi3
  replace hr9 := hr9.on hb4
  replace hr11 := hr11.on hb4
  replace hra := hra.on hb4
  replace hrb := hrb.on hb4
  have hb04 : Below w.heap.size w w4 := hbw2.trans (hb4.mono hbw2.size)
  clear hB hB3 hb3 hi3 lo3 hb4 hBl
  have hs1 : ∀ W, Below w4.heap.size w4 W → Calls Tryz.prog 52 #[.slice (some ⟨b1, o1, none⟩) (lim a0).length c1, .slice A9 (lim a1).length (c1 - q1)] W (RetNat S1 W) := by
    intro W hW
    have := add_calls (some ⟨b1, o1, none⟩) A9 c1 (c1 - q1) (lim a0) (lim a1) W (hra.on hW) (hr9.on hW) hcx1 hcd1 (by omega) (by omega)
    rwa [val_lim, val_lim, HS1.out] at this
  have hs2 : ∀ W, Below w4.heap.size w4 W → Calls Tryz.prog 52 #[.slice (some ⟨b2, o2, none⟩) (lim b0).length c2, .slice A11 (lim b1').length (c2 - q2)] W (RetNat S2 W) := by
    intro W hW
    have := add_calls (some ⟨b2, o2, none⟩) A11 c2 (c2 - q2) (lim b0) (lim b1') W (hrb.on hW) (hr11.on hW) hcx2 hcd2 (by omega) (by omega)
    rwa [val_lim, val_lim, HS2.out] at this
  have hmm : ∀ W A A' c c', Below w4.heap.size w4 W → Rd W A (lim S1) → Rd W A' (lim S2) → (lim S1).length ≤ c → (lim S2).length ≤ c' → Calls Tryz.prog 87 #[.slice A (lim S1).length c, .slice A' (lim S2).length c', .pointer (some ⟨Bh, 0, none⟩)] W (RetNat Mm W) := by
    intro W A A' c c' hW r1 r2 n1 n2
    have := ih S1 S2 A A' c c' W hi3' r1 r2 n1 n2 (cell_keep hB4 hW)
    rwa [HMm.out] at this
  have hd1 : ∀ W A c, Below w4.heap.size w4 W → Rd W A (lim Mm) → (lim Mm).length ≤ c → Calls Tryz.prog 53 #[.slice A (lim Mm).length c, .slice Alo (lim L).length clo] W (RetNat m1 W) := by
    intro W A c hW r1 n1
    have := sub_calls A Alo c clo (lim Mm) (lim L) W r1 (lo2.on hW) n1 lo1 (by rw [val_lim, val_lim]; exact hpL.out.1) hl5 (by omega)
    rwa [val_lim, val_lim, Hm1.out] at this
  have hd2 : ∀ W A c, Below w4.heap.size w4 W → Rd W A (lim m1) → (lim m1).length ≤ c → Calls Tryz.prog 53 #[.slice A (lim m1).length c, .slice Ahi (lim H).length chi] W (RetNat md W) := by
    intro W A c hW r1 n1
    have := sub_calls A Ahi c chi (lim m1) (lim H) W r1 (hi2.on hW) n1 hi1 (by rw [val_lim, val_lim, ← Hm1.out]; exact hpL.out.2) hl6 (by omega)
    rwa [val_lim, val_lim, Hmd.out] at this
  have hup1 : ∀ W A c, Below w4.heap.size w4 W → Rd W A (lim md) → (lim md).length ≤ c → Calls Tryz.prog 89 #[.slice A (lim md).length c, .int .i64 (k : Int)] W (RetNat u1 W) := by
    intro W A c hW r1 n1
    have := up_calls A c k (lim md) W r1 n1 (canon_lim _) (by omega) (by omega)
    rwa [val_lim, Hu1.out] at this
  have hup2 : ∀ W, Below w4.heap.size w4 W → Calls Tryz.prog 89 #[.slice Ahi (lim H).length chi, .int .i64 (k2 : Int)] W (RetNat u2 W) := by
    intro W hW
    have := up_calls Ahi chi k2 (lim H) W (hi2.on hW) hi1 (canon_lim _) (by omega) (by omega)
    rwa [val_lim, Hu2.out] at this
  have ha1 : ∀ W A c, Below w4.heap.size w4 W → Rd W A (lim u1) → (lim u1).length ≤ c → Calls Tryz.prog 52 #[.slice Alo (lim L).length clo, .slice A (lim u1).length c] W (RetNat (L + u1) W) := by
    intro W A c hW r1 n1
    have := add_calls Alo A clo c (lim L) (lim u1) W (lo2.on hW) r1 lo1 n1 (by omega) (by omega)
    rwa [val_lim, val_lim] at this
  have ha2 : ∀ W A c A' c', Rd W A (lim (L + u1)) → (lim (L + u1)).length ≤ c → Rd W A' (lim u2) → (lim u2).length ≤ c' → Calls Tryz.prog 52 #[.slice A (lim (L + u1)).length c, .slice A' (lim u2).length c'] W (RetNat (a * b) W) := by
    intro W A c A' c' r1 n1 r2 n2
    have := add_calls A A' c c' (lim (L + u1)) (lim u2) W r1 r2 n1 n2 (by omega) (by omega)
    rwa [val_lim, val_lim, Hsum.out] at this
  go_wp2_with fail
  go_region_held3 (fun w' => w'.cell? ⟨Bh, 0, none⟩ = some (.func (.func 87) #[] #[.pointer (some ⟨Bh, 0, none⟩)])) ((first | assumption | exact hB4))
    ((first
      | (go_at_call 87; refine (hmm w6 A5 A6 c5 c6 hb6 (r5.on x6) r6 n5 n6).mono ?_; rintro e w7 ⟨A7, c7, rfl, n7, r7, x7⟩; have hb7 : Below w4.heap.size w4 w7 := hb6.trans (x7.mono hb6.size); have hB7 := cell_keep hB4 hb7)
      | (go_at_call 53; refine (hd2 w8 A8 c8 hb8 r8 n8).mono ?_; rintro e w9 ⟨A99, c9, rfl, n9, r99, x9⟩; have hb9 : Below w4.heap.size w4 w9 := hb8.trans (x9.mono hb8.size); have hB9 := cell_keep hB4 hb9)
      | (go_at_call 53; refine (hd1 w7 A7 c7 hb7 r7 n7).mono ?_; rintro e w8 ⟨A8, c8, rfl, n8, r8, x8⟩; have hb8 : Below w4.heap.size w4 w8 := hb7.trans (x8.mono hb7.size); have hB8 := cell_keep hB4 hb8)
      | (go_at_call 52; refine (hs2 w5 hb5).mono ?_; rintro e w6 ⟨A6, c6, rfl, n6, r6, x6⟩; have hb6 : Below w4.heap.size w4 w6 := hb5.trans (x6.mono hb5.size); have hB6 := cell_keep hB4 hb6)
      | (go_at_call 52; refine (hs1 w4.drew (below_drewN (Below.refl _ w4) 1)).mono ?_; rintro e w5 ⟨A5, c5, rfl, n5, r5, x5⟩; have hb5 : Below w4.heap.size w4 w5 := (below_drewN (Below.refl _ w4) 1).trans x5; have hB5 := cell_keep hB4 hb5)))
  clear hs1 hs2 hmm hd1 hd2
  go_wp2_with first
    | (go_at_call 89; refine (hup2 w11 hb11).mono ?_; rintro e w12 ⟨A12, c12, rfl, n12, r12, x12⟩; have hb12 : Below w4.heap.size w4 w12 := hb11.trans (x12.mono hb11.size))
    | (go_at_call 89; refine (hup1 w9 A99 c9 hb9 r99 n9).mono ?_; rintro e w10 ⟨A10, c10, rfl, n10, r10, x10⟩; have hb10 : Below w4.heap.size w4 w10 := hb9.trans (x10.mono hb9.size))
    | (go_at_call 52; refine (ha2 w12 A13 c13 A12 c12 (r13.on x12) n13 r12 n12).mono ?_; rintro e w14 ⟨A14, c14, rfl, n14, r14, x14⟩)
    | (go_at_call 52; refine (ha1 w10 A10 c10 hb10 r10 n10).mono ?_; rintro e w11 ⟨A13, c13, rfl, n13, r13, x11⟩; have hb11 : Below w4.heap.size w4 w11 := hb10.trans (x11.mono hb10.size))
  go_ret
  exact ⟨_, _, rfl, n14, r14, hb04.trans ((hb12.trans (x14.mono hb12.size)).mono hb04.size)⟩
theorem halves_calls (Bh : Nat) (M : Nat) : M ≤ 32768 → ∀ (x y : Nat) (A A' : Option Addr) (c c' : Nat) (W : World), (lim x).length + (lim y).length = M → Rd W A (lim x) → Rd W A' (lim y) → (lim x).length ≤ c → (lim y).length ≤ c' → W.cell? ⟨Bh, 0, none⟩ = some (hv Bh) →
      Calls Tryz.prog 87 #[.slice A (lim x).length c, .slice A' (lim y).length c', .pointer (some ⟨Bh, 0, none⟩)] W (RetNat (x * y) W) := by
  induction M using Nat.strongRecOn with
  | ind M ih =>
    intro hM x y A A' c c' W hlen h1 h2 hc1 hc2 hB
    rcases Nat.lt_or_ge (min (lim x).length (lim y).length) 40 with h | h
    · have := halves_short Bh A A' c c' (lim x) (lim y) W h1 h2 hc1 hc2 (by omega) (by omega) h
      rwa [val_lim, val_lim] at this
    · exact halves_step Bh M hM (fun x y A A' c c' W hlt h1 h2 hc1 hc2 hB => ih _ hlt (by omega) x y A A' c c' W rfl h1 h2 hc1 hc2 hB) A A' c c' x y W hlen h1 h2 hc1 hc2 hB h
set_option maxRecDepth 100000 in
set_option maxHeartbeats 4000000 in
/-- '(nat).mul' -/
theorem mul_calls (A1 A2 : Option Addr) (c1 c2 : Nat) (l1 l2 : List Nat) (w : World) (h1 : Rd w A1 l1) (h2 : Rd w A2 l2) (hc1 : l1.length ≤ c1) (hc2 : l2.length ≤ c2) (k1 : Canon l1) (k2 : Canon l2) (hs : l1.length + l2.length ≤ 32768) :
    Calls Tryz.prog 59 #[.slice A1 l1.length c1, .slice A2 l2.length c2] w (RetNat (val l1 * val l2) w) := by
  have hb : ∀ o, Below w.heap.size w (w.alloc o) := fun o => (Below.refl _ _).alloc (Nat.le_refl _) _
  have hh : ∀ t, Calls Tryz.prog 87 #[.slice A1 l1.length c1, .slice A2 l2.length c2, .pointer (some ⟨w.heap.size, 0, none⟩)] (w.alloc (.cells #[hv w.heap.size] t)) (RetNat (val l1 * val l2) (w.alloc (.cells #[hv w.heap.size] t))) := by
    intro t
    have := halves_calls w.heap.size _ hs (val l1) (val l2) A1 A2 c1 c2 (w.alloc (.cells #[hv w.heap.size] t)) (by rw [lim_val k1, lim_val k2]) (by rw [lim_val k1]; exact h1.on (hb _)) (by rw [lim_val k2]; exact h2.on (hb _)) (by rw [lim_val k1]; exact hc1) (by rw [lim_val k2]; exact hc2)
      (Boxed.new w t (hv w.heap.size)).cell
    rwa [lim_val k1, lim_val k2] at this
  go_enter Tryz.func59, Tryz.ntmps59
  go_wp2_with first
    | (go_at_call 87; refine (hh _).mono ?_; rintro e w' ⟨A, c, rfl, r1, r2, r3⟩)
  go_ret
  exact ⟨_, _, rfl, r1, r2, (hb _).trans (r3.mono (by simp))⟩
end Nm
end Go.Proofs.YtlhmbbpkhahbeaaGreatDoor
namespace Go
variable {P : Program}
/-- an append asks of its second type no more than that it is a slice -/
theorem append_types (t u e e' : TypeId) (ht : P.underlying t = some (.slice e)) (hu : P.underlying u = some (.slice e')) (ty : TypeId) (s x : Value) (w : World) :
    (Builtin.append_ #[t, u] ty #[s, x]).run P w = (Builtin.append_ #[t, t] ty #[s, x]).run P w := by
  cases s with
  | slice base l c =>
    simp only [Builtin.append_, underlying]
    simp [go_sem, ht, hu]
  | _ => simp [Builtin.append_, underlying, Sem.run_bind, go_sem, ht]
theorem wp_append_own2 (w : World) {o : Oper} {a : Act} {K : Act → World → Prop} {Q : Exit → Act → World → Prop} (s x : Operand) (t u : TypeId)
    (ho : o.op = .call { callee := .builtin .append, args := #[s, x], argTypes := #[t, u] })
    (base : Nat) (e e' : TypeId) (i : TypeInfo) (z : Value) (size bytes : Nat) (ht : P.underlying t = some (.slice e)) (hu : P.underlying u = some (.slice e')) (hi : P.info? e = some i) (hz : i.zero = some z)
    (hsize : i.size = size) (hby : i.bytes = bytes) (hzs : z.cells.size = size) (hsz : 0 < size)
    (v : Value) (n : Nat) (xs : List Value) (hs : a.eval s = v) (hown : w.ownsRow base e size v n xs)
    (ad : Addr) (m c : Nat) (news : List Value) (hx : a.eval x = .slice (some ad) m c) (hl : news.length = m * size) (hnews : ∀ j u, news[j]? = some u → w.cell? (ad.add j) = some u) (h1 : ∀ u ∈ news, u.oneCell' = true)
    (h63 : n + m ≤ maxLen) (hbytes : (n + m) * bytes ≤ 140737488355328) (hbase : base ≤ w.heap.size)
    (h : ∀ v' w', w'.ownsRow base e size v' (n + m) (xs ++ news) → w.grownBy w' v.ownBlock → (v' = .slice none 0 0 ↔ v = .slice none 0 0 ∧ m = 0) → K (a.put o.dst v') w') : o.wp P a w K Q := by
  obtain ⟨v', w', hr, h2, h3, h4⟩ := run_append_own (P := P) w base t o.type e i z size bytes ht hi hz hsize hby hzs hsz v n xs hown ad m c news hl hnews h1 h63 hbytes hbase
  rw [← append_types t u e e' ht hu] at hr
  unfold Oper.wp execOp
  simp only [ho, resolve, invoke, builtin, Sem.run_bind, Sem.run_pure, Result.andThen_ok, List.map_toArray, List.map_cons, List.map_nil, hs, hx, hr]
  exact h v' w' h2 h3 h4
theorem wpList_append_own2 (w : World) {ops : Array Oper} {rest : List Oper} {o : Oper} {a : Act} {Q : Exit → Act → World → Prop} (hgd : o.guard = none) (s x : Operand) (t u : TypeId)
    (ho : o.op = .call { callee := .builtin .append, args := #[s, x], argTypes := #[t, u] })
    (base : Nat) (e e' : TypeId) (i : TypeInfo) (z : Value) (size bytes : Nat) (ht : P.underlying t = some (.slice e)) (hu : P.underlying u = some (.slice e')) (hi : P.info? e = some i) (hz : i.zero = some z)
    (hsize : i.size = size) (hby : i.bytes = bytes) (hzs : z.cells.size = size) (hsz : 0 < size)
    (v : Value) (n : Nat) (xs : List Value) (hs : a.eval s = v) (hown : w.ownsRow base e size v n xs)
    (ad : Addr) (m c : Nat) (news : List Value) (hx : a.eval x = .slice (some ad) m c) (hl : news.length = m * size) (hnews : ∀ j u, news[j]? = some u → w.cell? (ad.add j) = some u) (h1 : ∀ u ∈ news, u.oneCell' = true)
    (h63 : n + m ≤ maxLen) (hbytes : (n + m) * bytes ≤ 140737488355328) (hbase : base ≤ w.heap.size)
    (h : ∀ v' w', w'.ownsRow base e size v' (n + m) (xs ++ news) → w.grownBy w' v.ownBlock → (v' = .slice none 0 0 ↔ v = .slice none 0 0 ∧ m = 0) → wpList P ops Q rest (a.put o.dst v') w') : wpList P ops Q (o :: rest) a w :=
  wpList_plain hgd fun _ hK => wp_append_own2 w s x t u ho base e e' i z size bytes ht hu hi hz hsize hby hzs hsz v n xs hs hown ad m c news hx hl hnews h1 h63 hbytes hbase fun v' w' h2 h3 h4 => hK _ _ (h v' w' h2 h3 h4)
/-- nothing appended to nothing -/
theorem run_append_none (t u e e' : TypeId) (i : TypeInfo) (ht : P.underlying t = some (.slice e)) (hu : P.underlying u = some (.slice e')) (hi : P.info? e = some i) (ty : TypeId) (A : Option Addr) (c : Nat) (w : World) :
    (Builtin.append_ #[t, u] ty #[.slice none 0 0, .slice A 0 c]).run P w = .ok (.slice none 0 0) w := by
  cases A
  all_goals
    simp only [Builtin.append_, underlying]
    simp [go_sem, ht, hu, sizeOf, typeInfo, hi, Result.andThen]
theorem wpList_append_none (w : World) {ops : Array Oper} {rest : List Oper} {o : Oper} {a : Act} {Q : Exit → Act → World → Prop} (hgd : o.guard = none) (s x : Operand) (t u : TypeId)
    (ho : o.op = .call { callee := .builtin .append, args := #[s, x], argTypes := #[t, u] }) (e e' : TypeId) (i : TypeInfo) (ht : P.underlying t = some (.slice e)) (hu : P.underlying u = some (.slice e')) (hi : P.info? e = some i)
    (A : Option Addr) (c : Nat) (hs : a.eval s = .slice none 0 0) (hx : a.eval x = .slice A 0 c)
    (h : wpList P ops Q rest (a.put o.dst (.slice none 0 0)) w) : wpList P ops Q (o :: rest) a w :=
  wpList_plain hgd fun _ hK => by
    have hr := run_append_none (P := P) t u e e' i ht hu hi o.type A c w
    unfold Oper.wp execOp
    simp only [ho, resolve, invoke, builtin, Sem.run_bind, Sem.run_pure, Result.andThen_ok, List.map_toArray, List.map_cons, List.map_nil, hs, hx, hr]
    exact hK _ _ h
end Go
namespace Go.Proofs.YtlhmbbpkhahbeaaGreatDoor
namespace Nm
open Go.RowKit Go.Shelf Go.BigFrame
attribute [local go_sem] Oper.semAt_some
theorem cell_at {W : World} {B : Nat} {cur : Array Value} {t : TypeId} (h : W.heap[B]? = some (.cells cur t (0, 0))) (i : Nat) (v : Value) (hi : cur[i]? = some v) : W.cell? ⟨B, i, none⟩ = some v := by
  simp only [World.cell?, h, Option.isSome_none, Bool.false_eq_true, if_false]
  exact hi
theorem frozen_at {W : World} {B : Nat} {cur : Array Value} {t : TypeId} (h : W.heap[B]? = some (.cells cur t (0, 0))) (i : Nat) : W.frozen? ⟨B, i, none⟩ = false := by
  simp [World.frozen?, h]
theorem set_blk {W : World} {B : Nat} {cur : Array Value} {t : TypeId} (h : W.heap[B]? = some (.cells cur t (0, 0))) (i : Nat) (v : Value) : (W.setCell ⟨B, i, none⟩ v).heap[B]? = some (.cells (cur.setIfInBounds i v) t (0, 0)) := by
  obtain ⟨hlt, hk⟩ := Array.getElem?_eq_some_iff.1 h
  show (W.heap.modify B _)[B]? = _
  rw [Array.getElem?_eq_getElem (by rw [Array.size_modify]; exact hlt), Array.getElem_modify_self, hk]
  rfl
theorem int_size : (Tryz.prog.info? 24).map (·.size) = some 2 := by kernel_rfl
/-- a result that lies in a cell of type Int -/
theorem ret_cell {fn : Func} {p : Tmp} (h : fn.results = #[.cell p 24]) {a : Act} {w : World} {g : Nat} {x y : Value} {R : Ending → World → Prop} (hd0 : a.defers = []) (hp : a.tmps.getD p undef = .pointer (some ⟨g, 0, none⟩))
    (hg : w.heap[g]? = some (.cells #[x, y] 24 (0, 0))) (hR : R (.returned (.agg #[x, y])) w) : bodyPost Tryz.prog fn R .ret a w := by
  exact bodyPost_ret (results_cell_row h _ _ g 24 #[x, y] (0, 0) _ hp hg Tryz.underlying24 rfl int_size) hd0 hR
/-- an integer that is handed back -/
def RetInt (s : Bool) (n : Nat) (w : World) (e : Ending) (w' : World) : Prop :=
  ∃ A c, e = .returned (iv s A (lim n).length c) ∧ (lim n).length ≤ c ∧ Rd w' A (lim n) ∧ Below w.heap.size w w'
set_option maxRecDepth 100000 in
set_option maxHeartbeats 2000000 in
theorem whole_no (neg : Bool) (A : Option Addr) (c : Nat) (l : List Nat) (w : World) (hA : Rd w A l) (hc : l.length ≤ c) (hl : 300 < (lim (val l)).length) :
    Calls Tryz.prog 33 #[.bool neg, .slice A l.length c] w fun e w' => e = .panicked (wrong 3) ∧ Below w.heap.size w w' := by
  have ht := fun W h => trim_calls A c l W h hc
  unfold trim at ht
  have hb : ∀ o, Below w.heap.size w (w.alloc o) := fun o => (Below.refl _ _).alloc (Nat.le_refl _) _
  have hlt := trim_length_le hA.words
  have hs := hA.small
  unfold trim at hlt
  have h3 : (((lim (val l)).length : Int) ≤ 300) ↔ False := by rw [iff_false]; omega
  go_enter Tryz.func33, Tryz.ntmps33
  go_wp2_with first
    | (go_at_call 63; refine (ht _ (hA.on (hb _))).mono ?_; rintro e w' ⟨rfl, rfl⟩)
    | (go_at_call 25; refine (must_no 3 _).mono ?_; rintro e w' ⟨rfl, rfl⟩)
  exact ⟨rfl, rfl, hb _⟩
set_option maxRecDepth 100000 in
set_option maxHeartbeats 2000000 in
theorem whole_ok (neg : Bool) (A : Option Addr) (c : Nat) (l : List Nat) (w : World) (hA : Rd w A l) (hc : l.length ≤ c) (hl : (lim (val l)).length ≤ 300) :
    Calls Tryz.prog 33 #[.bool neg, .slice A l.length c] w (RetInt (neg && val l != 0) (val l) w) := by
  have ht := fun W h => trim_calls A c l W h hc
  have hlt := trim_length_le hA.words
  have hrt := hA.trim
  unfold trim at ht hlt hrt
  have hb : ∀ o, Below w.heap.size w (w.alloc o) := fun o => (Below.refl _ _).alloc (Nat.le_refl _) _
  have hs := hA.small
  have h3 : (((lim (val l)).length : Int) ≤ 300) ↔ True := by rw [iff_true]; omega
  obtain ⟨i0, hi, hz0, hz1, hz2⟩ := info_parts info_u32
  have hbt : Tryz.prog.underlying 22 = some (.slice 50) := by kernel_rfl
  by_cases h0 : val l = 0
  · rw [h0, lim_zero] at ht hlt hrt h3
    rw [h0]
    have e0 : (neg && (0 : Nat) != 0) = false := by cases neg <;> rfl
    rw [e0]
    cases neg
    all_goals
      go_enter Tryz.func33, Tryz.ntmps33
      go_wp2_with first
        | (go_at_call 63; refine (ht _ (hA.on (hb _))).mono ?_; rintro e w' ⟨rfl, rfl⟩)
        | (go_at_call 25; refine (must_ok 3 _).mono ?_; rintro e w' ⟨rfl, rfl⟩)
        | (at_builtin; (refine wpList_append_none _ rfl _ _ 22 54 rfl 50 50 i0 hbt Tryz.underlying54 hi A c rfl rfl ?_))
    all_goals
      exact ret_cell rfl rfl rfl (World.alloc_heap_new w _) ⟨none, 0, by rw [lim_zero]; rfl, by rw [lim_zero]; exact Nat.le_refl _, by rw [lim_zero]; exact Rd.nil _ _, hb _⟩
  · have hp : 0 < val l := Nat.pos_of_ne_zero h0
    have hlp := lim_length_pos hp
    obtain ⟨b, o, rfl⟩ := hrt.head hlp
    have e0 : (neg && val l != 0) = neg := by
      have : (val l != 0) = true := by simpa using h0
      rw [this]; cases neg <;> rfl
    rw [e0]
    have hnews := rd_news (hrt.on (hb (.cells #[.bool false, .slice none 0 0] 24)))
    have hlp' : ((0 : Int) < ((lim (val l)).length : Int)) ↔ True := by rw [iff_true]; omega
    clear h0
    cases neg
    all_goals
      go_enter Tryz.func33, Tryz.ntmps33
      go_wp2_with first
        | (go_at_call 63; refine (ht _ (hA.on (hb _))).mono ?_; rintro e w' ⟨rfl, rfl⟩)
        | (go_at_call 25; refine (must_ok 3 _).mono ?_; rintro e w' ⟨rfl, rfl⟩)
        | (at_builtin; (refine wpList_append_own2 _ rfl _ _ 22 54 rfl (w.heap.size + 1) 50 50 i0 (.int .u32 0) 1 4 hbt Tryz.underlying54 hi hz0 hz1 hz2 rfl (by decide) _ _ _ rfl (World.ownsRow_nil _ _ _ _) ⟨b, o, none⟩ (lim (val l)).length c (wvals (lim (val l))) rfl (by simp) hnews (wvals_one _) (by unfold maxLen; omega) (by omega) (by simp) ?_); intro v' w4 hown' hg4 _; obtain ⟨A', c', hv', hn', hc', hrd', hab⟩ := own_rd (l := lim (val l)) hown' (words_lim _) (by omega); subst hv'; have hblk : w4.heap[w.heap.size]? = some (.cells #[.bool false, .slice none 0 0] 24 (0, 0)) := (hg4.block w.heap.size (by simp) (fun e => by cases e)).trans (World.alloc_heap_new w _); have x0 : w4.cell? ⟨w.heap.size, 0, none⟩ = some (.bool false) := cell_at hblk 0 _ rfl; have x1 : w4.cell? ⟨w.heap.size, 1, none⟩ = some (.slice none 0 0) := cell_at hblk 1 _ rfl; have y0 := frozen_at hblk 0; have y1 := frozen_at hblk 1; have hb4 : Below w.heap.size w w4 := (hb _).grown hg4 (by simp) (fun j e => by cases e))
      refine ret_cell rfl rfl rfl (set_blk (set_blk hblk 0 _) 1 _) ⟨A', c', rfl, by omega, ?_, (hb4.setCell (Nat.le_refl _) _).setCell (Nat.le_refl _) _⟩
      exact grw_rd (grownBy_setCell_at _ _ _ _) (grw_rd (grownBy_setCell_at _ _ _ _) hrd' (fun b o e => by have := hab b o e; omega)) (fun b o e => by have := hab b o e; omega)
end Nm
end Go.Proofs.YtlhmbbpkhahbeaaGreatDoor
namespace Go.Proofs.YtlhmbbpkhahbeaaGreatDoor
namespace Nm
open Go.RowKit Go.Shelf Go.BigFrame
attribute [local go_sem] Oper.semAt_some
/-- formed -/
structure IsInt (neg : Bool) (l : List Nat) : Prop where
  canon : Canon l
  small : l.length ≤ 300
  sign : neg = true → l ≠ []
theorem sgn_order {n1 n2 : Bool} {l1 l2 : List Nat} (h1 : IsInt n1 l1) (h2 : IsInt n2 l2) (hne : sgn n1 l1 ≠ sgn n2 l2) : cmpZ (sgn n1 l1) (sgn n2 l2) = cmpZ (toZ n1 l1) (toZ n2 l2) := by
  have p1 : l1 ≠ [] → 0 < val l1 := val_pos_of_canon h1.canon
  have p2 : l2 ≠ [] → 0 < val l2 := val_pos_of_canon h2.canon
  have z1 : l1 = [] → val l1 = 0 := by rintro rfl; rfl
  have z2 : l2 = [] → val l2 = 0 := by rintro rfl; rfl
  have s1 := h1.sign
  have s2 := h2.sign
  unfold sgn at *
  unfold toZ cmpZ
  by_cases e1 : l1 = [] <;> by_cases e2 : l2 = [] <;> cases n1 <;> cases n2 <;> simp_all <;> omega
theorem sgn_same {n1 n2 : Bool} {l1 l2 : List Nat} (h1 : n1 = true → 0 < l1.length) (h2 : n2 = true → 0 < l2.length) (e : sgn n1 l1 = sgn n2 l2) : n2 = n1 := by
  unfold sgn at e
  cases n1 <;> cases n2
  · rfl
  · have := h2 rfl
    exfalso
    rw [if_neg (show ¬ l2.length = 0 by omega)] at e
    by_cases hz : l1.length = 0
    · rw [if_pos hz] at e; exact absurd e (by decide)
    · rw [if_neg hz] at e; exact absurd e (by decide)
  · have := h1 rfl
    exfalso
    rw [if_neg (show ¬ l1.length = 0 by omega)] at e
    by_cases hz : l2.length = 0
    · rw [if_pos hz] at e; exact absurd e (by decide)
    · rw [if_neg hz] at e; exact absurd e (by decide)
  · rfl
theorem below_drew {n : Nat} {w W : World} (h : Below n w W) : Below n w W.drew := below_drewN h 1
set_option maxRecDepth 100000 in
set_option maxHeartbeats 2000000 in
theorem order_calls (n1 n2 : Bool) (A1 A2 : Option Addr) (c1 c2 : Nat) (l1 l2 : List Nat) (w : World) (h1 : Rd w A1 l1) (h2 : Rd w A2 l2) (hc1 : l1.length ≤ c1) (hc2 : l2.length ≤ c2) (k1 : IsInt n1 l1) (k2 : IsInt n2 l2) :
    Calls Tryz.prog 36 #[iv n1 A1 l1.length c1, iv n2 A2 l2.length c2] w fun e w' => e = .returned (.int .i64 (cmpZ (toZ n1 l1) (toZ n2 l2))) ∧ Below w.heap.size w w' := by
  have hsg : ∀ (n : Bool) (l : List Nat), ∃ z : Int, sgn n l = z ∧ -1 ≤ z ∧ z ≤ 1 := by
    intro n l
    refine ⟨_, rfl, ?_⟩
    unfold sgn
    split
    · omega
    · split <;> omega
  have t1 := fun W => sign_calls n1 A1 c1 l1 W
  have t2 := fun W => sign_calls n2 A2 c2 l2 W
  obtain ⟨s1, e1, b1, b2⟩ := hsg n1 l1
  obtain ⟨s2, e2, b3, b4⟩ := hsg n2 l2
  rw [e1] at t1
  rw [e2] at t2
  by_cases hne : s1 = s2
  · subst hne
    have hl1 : n1 = true → 0 < l1.length := fun h => List.length_pos_iff.2 (k1.sign h)
    have hl2 : n2 = true → 0 < l2.length := fun h => List.length_pos_iff.2 (k2.sign h)
    have hnn : n2 = n1 := sgn_same hl1 hl2 (e1.trans e2.symm)
    have hne' : (s1 != s1) = false := by simp
    clear hsg hl1 hl2
    cases n1
    · have hn : n2 = false := hnn
      subst hn
      have hcm := fun W (hW : Below w.heap.size w W) => compare_calls A1 A2 c1 c2 l1 l2 W (h1.on hW) (h2.on hW) hc1 hc2 k1.canon k2.canon
      rw [show cmpZ (val l1 : Int) (val l2 : Int) = cmpZ (toZ false l1) (toZ false l2) from rfl] at hcm
      clear e1 e2
      go_enter Tryz.func36, Tryz.ntmps36
      go_wp2_with fail
      go_region_held3 (fun w' => w'.cell? ⟨w.heap.size, 0, none⟩ = some (.bool false) ∧ w'.cell? ⟨w.heap.size, 1, none⟩ = some (.slice A1 l1.length c1) ∧ w'.cell? ⟨w.heap.size + 1, 0, none⟩ = some (.bool false) ∧ w'.cell? ⟨w.heap.size + 1, 1, none⟩ = some (.slice A2 l2.length c2)) ((first | assumption | go_keep))
        ((first
          | (go_at_call 68; have hmark := m1; refine (t2 _).mono ?_; rintro e w4 ⟨rfl, rfl⟩)
          | (go_at_call 68; refine (t1 _).mono ?_; rintro e w3 ⟨rfl, rfl⟩; have m1 : True := trivial)))
      go_wp2_with first
        | (go_at_call 62; refine (hcm _ (by (repeat (first | exact Below.refl _ _ | refine below_drew ?_ | refine Below.alloc ?_ (by simp; omega) _ | refine Below.alloc ?_ (by simp) _)))).mono ?_; rintro e w5 ⟨rfl, nn, rfl⟩)
      go_ret
      exact ⟨rfl, by refine below_drewN ?_ _; (repeat (first | exact Below.refl _ _ | refine below_drew ?_ | refine Below.alloc ?_ (by simp; omega) _ | refine Below.alloc ?_ (by simp) _))⟩
    · have hn : n2 = true := hnn
      subst hn
      have hcm := fun W (hW : Below w.heap.size w W) => compare_calls A2 A1 c2 c1 l2 l1 W (h2.on hW) (h1.on hW) hc2 hc1 k2.canon k1.canon
      rw [show cmpZ (val l2 : Int) (val l1 : Int) = cmpZ (toZ true l1) (toZ true l2) from by unfold cmpZ toZ; simp only [if_true]; split <;> split <;> (try split) <;> (try split) <;> omega] at hcm
      clear e1 e2
      go_enter Tryz.func36, Tryz.ntmps36
      go_wp2_with fail
      go_region_held3 (fun w' => w'.cell? ⟨w.heap.size, 0, none⟩ = some (.bool true) ∧ w'.cell? ⟨w.heap.size, 1, none⟩ = some (.slice A1 l1.length c1) ∧ w'.cell? ⟨w.heap.size + 1, 0, none⟩ = some (.bool true) ∧ w'.cell? ⟨w.heap.size + 1, 1, none⟩ = some (.slice A2 l2.length c2)) ((first | assumption | go_keep))
        ((first
          | (go_at_call 68; have hmark := m1; refine (t2 _).mono ?_; rintro e w4 ⟨rfl, rfl⟩)
          | (go_at_call 68; refine (t1 _).mono ?_; rintro e w3 ⟨rfl, rfl⟩; have m1 : True := trivial)))
      go_wp2_with first
        | (go_at_call 62; refine (hcm _ (by (repeat (first | exact Below.refl _ _ | refine below_drew ?_ | refine Below.alloc ?_ (by simp; omega) _ | refine Below.alloc ?_ (by simp) _)))).mono ?_; rintro e w5 ⟨rfl, nn, rfl⟩)
      go_ret
      exact ⟨rfl, by refine below_drewN ?_ _; (repeat (first | exact Below.refl _ _ | refine below_drew ?_ | refine Below.alloc ?_ (by simp; omega) _ | refine Below.alloc ?_ (by simp) _))⟩
  · have hc := fun W => cmp_int_calls s1 s2 W
    have ho := sgn_order k1 k2 (by rw [e1, e2]; exact hne)
    rw [e1, e2] at ho
    rw [ho] at hc
    clear e1 e2 ho hsg
    have hne' : (s1 != s2) = true := by rw [bne_iff_ne]; exact hne
    go_enter Tryz.func36, Tryz.ntmps36
    go_wp2_with fail
    go_region_held3 (fun w' => w'.cell? ⟨w.heap.size, 0, none⟩ = some (.bool n1) ∧ w'.cell? ⟨w.heap.size, 1, none⟩ = some (.slice A1 l1.length c1) ∧ w'.cell? ⟨w.heap.size + 1, 0, none⟩ = some (.bool n2) ∧ w'.cell? ⟨w.heap.size + 1, 1, none⟩ = some (.slice A2 l2.length c2)) ((first | assumption | go_keep))
      ((first
        | (go_at_call 68; have hmark := m1; refine (t2 _).mono ?_; rintro e w4 ⟨rfl, rfl⟩)
        | (go_at_call 68; refine (t1 _).mono ?_; rintro e w3 ⟨rfl, rfl⟩; have m1 : True := trivial)))
    go_wp2_with first
      | (go_at_call 69; refine (hc _).mono ?_; rintro e w5 ⟨rfl, rfl⟩)
    go_ret
    exact ⟨rfl, by (repeat (first | exact Below.refl _ _ | refine below_drew ?_ | refine Below.alloc ?_ (by simp; omega) _ | refine Below.alloc ?_ (by simp) _))⟩
/-- the arguments of 'formed' -/
structure IntArg where
  neg : Bool
  A : Option Addr
  c : Nat
  l : List Nat
def IntArg.ok (x : IntArg) : Bool := okI x.neg x.l
structure ArgsAt (w : World) (g : Nat) (xs : List IntArg) : Prop where
  neg : ∀ k (h : k < xs.length), w.cell? ⟨g, k * 2, none⟩ = some (.bool xs[k].neg)
  abs : ∀ k (h : k < xs.length), w.cell? ⟨g, k * 2 + 1, none⟩ = some (.slice xs[k].A xs[k].l.length xs[k].c)
  rd : ∀ k (h : k < xs.length), Rd w xs[k].A xs[k].l ∧ xs[k].l.length ≤ xs[k].c
set_option maxRecDepth 100000 in
set_option maxHeartbeats 2000000 in
theorem formed_calls (g : Nat) (xs : List IntArg) (w : World) (hg : g < w.heap.size) (hx : ArgsAt w g xs) (hn : xs.length ≤ 8) :
    Calls Tryz.prog 24 #[.slice (some ⟨g, 0, none⟩) xs.length xs.length] w fun e w' =>
      (xs.all IntArg.ok = true → e = .returned (.tuple #[])) ∧ (xs.all IntArg.ok = false → e = .panicked (wrong 1)) ∧ Below w.heap.size w w' := by
  go_enter Tryz.func24, Tryz.ntmps24
  go_wp2_with fail
  go_loopw [6] (fun i W => ∃ k : Nat, i = .int .i64 (k : Int) ∧ k ≤ xs.length ∧ (xs.take k).all IntArg.ok = true ∧ Below w.heap.size w W) (fun i _ => xs.length - (intOf i).toNat)
  case atStart => exact ⟨0, rfl, Nat.zero_le _, rfl, Below.refl _ _⟩
  case round =>
    obtain ⟨k, rfl, hk, hall, hbl⟩ := hrel
    by_cases hlt : k < xs.length
    · have x0 := (hbl.cell (p := ⟨g, k * 2, none⟩) hg).trans (hx.neg k hlt)
      have x1 := (hbl.cell (p := ⟨g, k * 2 + 1, none⟩) hg).trans (hx.abs k hlt)
      obtain ⟨hrd, hcc⟩ := hx.rd k hlt
      obtain ⟨x, hxk⟩ : ∃ x, xs[k] = x := ⟨_, rfl⟩
      rw [hxk] at x0 x1 hrd hcc
      have hck := fun (W' : World) (h : Rd W' x.A x.l) => Check_calls x.neg x.A x.c x.l W' h hcc
      have hbw : ∀ o, Below wr.heap.size wr (wr.alloc o) := fun o => (Below.refl _ _).alloc (Nat.le_refl _) _
      have hrw := hrd.on hbl
      clear hx
      by_cases hok : okI x.neg x.l = true
      · simp only [hok, if_true] at hck
        go_wp2_with first
          | (go_at_call 35; (refine (hck _ (hrw.on (hbw _))).mono ?_; rintro e w4 ⟨rfl, hb4⟩))
          | (go_at_call 25; refine (must_ok 1 _).mono ?_; rintro e w5 ⟨rfl, rfl⟩)
        refine ⟨⟨k + 1, by simp, by omega, ?_, hbl.trans (((hbw _).trans (hb4.mono (by simp))).mono hbl.size)⟩, by simp only [intOf]; omega⟩
        rw [List.take_succ_eq_append_getElem hlt, List.all_append, hall, hxk]
        simp [IntArg.ok, hok]
      · have hok' : okI x.neg x.l = false := by simpa using hok
        simp only [hok', Bool.false_eq_true, if_false] at hck
        go_wp2_with first
          | (go_at_call 35; refine (hck _ (hrw.on (hbw _))).mono ?_; rintro e w4 ⟨rfl, hb4⟩)
          | (go_at_call 25; refine (must_no 1 _).mono ?_; rintro e w5 ⟨rfl, rfl⟩)
        refine ⟨rfl, fun h => ?_, fun _ => rfl, hbl.trans (((hbw _).trans (hb4.mono (by simp))).mono hbl.size)⟩
        have := List.all_eq_true.1 h xs[k] (List.getElem_mem hlt)
        rw [hxk] at this
        exact absurd this hok
    · go_wp2_with fail
      go_end0
      rw [List.take_of_length_le (by omega)] at hall
      refine ⟨fun _ => rfl, ?_, hbl⟩
      intro h
      rw [hall] at h
      cases h
end Nm
end Go.Proofs.YtlhmbbpkhahbeaaGreatDoor
namespace Go.Proofs.YtlhmbbpkhahbeaaGreatDoor
namespace Nm
open Go.RowKit Go.Shelf Go.BigFrame
attribute [local go_sem] Oper.semAt_some
set_option maxRecDepth 100000 in
theorem bitsOf_calls (n : Nat) (w : World) (hn : n ≤ 1000000) :
    Calls Tryz.prog 85 #[.int .i64 (n : Int)] w fun e w' => e = .returned (.int .i64 (blen n : Int)) ∧ w' = w := by
  go_enter Tryz.func85, Tryz.ntmps85
  go_wp2_with fail
  go_loopw [0, 3] (fun x y W => ∃ m k : Nat, x = .int .i64 (m : Int) ∧ y = .int .i64 (k : Int) ∧ Hid (blen m + k = blen n) ∧ m ≤ n ∧ k ≤ blen n ∧ W = w) (fun x _ _ => (intOf x).toNat)
  case atStart => exact ⟨n, 0, rfl, rfl, Nat.add_zero _, Nat.le_refl _, Nat.zero_le _, rfl⟩
  case round =>
    obtain ⟨m, k, rfl, rfl, hb, hm, hk, rfl⟩ := hrel
    have hbn : blen n ≤ 32 := blen_word (by omega)
    by_cases h0 : 0 < m
    · obtain ⟨q, hq, hq'⟩ : ∃ q : Nat, (m : Int) / 2 = (q : Int) ∧ Hid (q = m / 2) := ⟨m / 2, by omega, rfl⟩
      go_wp2_with fail
      have hh := blen_half (n := m) (by omega)
      rw [← hq'.out] at hh
      have hb' := hb.out
      refine ⟨⟨q, k + 1, rfl, by simp, by show _ = _; omega, by have := hq'.out; omega, by omega, trivial⟩, by simp only [intOf]; have := hq'.out; omega⟩
    · obtain rfl : m = 0 := by omega
      have hkb : k = blen n := by have := hb.out; rw [blen_zero] at this; omega
      subst hkb
      go_wp2_with fail
      go_ret
      exact ⟨rfl, rfl⟩
theorem and_one (a : Nat) (ha : a < 9223372036854775808) : bits .and .i64 (a : Int) 1 = ((a % 2 : Nat) : Int) := by
  have := (bits_nat .i64 63 (by decide) (fun n h0 h1 => by rw [IntKind.wrap_i64]; omega) a 1 (by omega) (by decide)).1
  rw [show ((1 : Nat) : Int) = 1 from rfl] at this
  rw [this, Nat.and_one_is_mod]
/-- the steps of a power -/
theorem pow_step (a n i : Nat) : (a ^ (n / 2 ^ (i + 1))) * (a ^ (n / 2 ^ (i + 1))) * (if n / 2 ^ i % 2 = 1 then a else 1) = a ^ (n / 2 ^ i) := by
  have h : n / 2 ^ (i + 1) = n / 2 ^ i / 2 := by rw [Nat.pow_succ, Nat.div_div_eq_div_mul]
  rw [h, ← Nat.pow_add]
  generalize n / 2 ^ i = m
  by_cases hm : m % 2 = 1
  · rw [if_pos hm, ← Nat.pow_succ]; congr 1; omega
  · rw [if_neg hm, Nat.mul_one]; congr 1; omega
theorem pow_len_mono {a m n : Nat} (h : m ≤ n) (hm : 300 < (lim (a ^ m)).length) : 300 < (lim (a ^ n)).length := by
  rcases Nat.eq_zero_or_pos a with rfl | ha
  · exfalso
    have : (lim (0 ^ m)).length ≤ 1 := length_le_of_lt (by
      rcases Nat.eq_zero_or_pos m with rfl | hp
      · decide
      · rw [Nat.zero_pow hp]; decide)
    omega
  · exact Nat.lt_of_lt_of_le hm (length_mono (Nat.pow_le_pow_right ha h))
set_option maxRecDepth 100000 in
set_option maxHeartbeats 4000000 in
theorem power_calls (A : Option Addr) (c a n : Nat) (w : World) (hA : Rd w A (lim a)) (hc : (lim a).length ≤ c) (ha : (lim a).length ≤ 300) (hn : n ≤ 1000000) :
    Calls Tryz.prog 56 #[.slice A (lim a).length c, .int .i64 (n : Int)] w fun e w' =>
      ((lim (a ^ n)).length ≤ 300 → RetNat (a ^ n) w e w') ∧ (300 < (lim (a ^ n)).length → e = .panicked (wrong 3)) ∧ Below w.heap.size w w' := by
  have hbits := fun W => bitsOf_calls n W hn
  have hbn : blen n ≤ 32 := blen_word (by omega)
  have hb1 : ∀ o, Below w.heap.size w (w.alloc o) := fun o => (Below.refl _ _).alloc (Nat.le_refl _) _
  have hone := arr_rd (arr_new w [1]) (by intro u hu; simp at hu; rw [hu]; decide) (by simp)
  have hl1 : lim 1 = [1] := lim_val (l := [1]) ⟨by intro u hu; simp at hu; rw [hu]; decide, fun h => by simp⟩
  go_enter Tryz.func56, Tryz.ntmps56
  go_wp2_with (go_at_call 85; refine (hbits _).mono ?_; rintro e w' ⟨rfl, rfl⟩)
  go_loopw [5, 6] (fun o i W => ∃ (k : Nat) (B : Option Addr) (d : Nat), i = .int .i64 ((k : Int) - 1) ∧ k ≤ blen n ∧ o = .slice B (lim (a ^ (n / 2 ^ k))).length d ∧ (lim (a ^ (n / 2 ^ k))).length ≤ d ∧ (lim (a ^ (n / 2 ^ k))).length ≤ 300 ∧ Rd W B (lim (a ^ (n / 2 ^ k))) ∧ Below w.heap.size w W)
    (fun _ i _ => (intOf i + 1).toNat)
  case atStart =>
    have e : n / 2 ^ blen n = 0 := Nat.div_eq_of_lt (blen_lt n)
    refine ⟨blen n, some ⟨w.heap.size, 0, none⟩, 1, rfl, Nat.le_refl _, ?_, ?_, ?_, ?_, hb1 _⟩
    all_goals rw [e, Nat.pow_zero, hl1]
    · rfl
    · simp
    · simp
    · exact hone
  case round =>
    obtain ⟨k, B, d, rfl, hk, rfl, hd, h3, hr, hbl⟩ := hrel
    by_cases h0 : 0 < k
    · obtain ⟨k, rfl⟩ : ∃ j, k = j + 1 := ⟨k - 1, by omega⟩
      rw [show ((k + 1 : Nat) : Int) - 1 = (k : Int) by omega]
      clear h0
      obtain ⟨m, hm, hm', hmb⟩ : ∃ m : Nat, (n : Int) / 2 ^ k = (m : Int) ∧ Hid (m = n / 2 ^ k) ∧ m ≤ 1000000 := ⟨n / 2 ^ k, by simp, rfl, Nat.le_trans (Nat.div_le_self _ _) hn⟩
      obtain ⟨bt, hbt, hbt'⟩ : ∃ m' : Nat, bits .and .i64 (m : Int) 1 = (m' : Int) ∧ Hid (m' = m % 2) := ⟨m % 2, and_one m (by omega), rfl⟩
      have hst := pow_step a n k
      rw [← hm'.out, ← hbt'.out] at hst
      have hmle : m ≤ n := by rw [hm'.out]; exact Nat.div_le_self _ _
      obtain ⟨p, hp⟩ : ∃ p, a ^ (n / 2 ^ (k + 1)) = p := ⟨_, rfl⟩
      rw [hp] at hst hd h3 hr ⊢
      obtain ⟨pp, hpp⟩ : ∃ q, p * p = q := ⟨_, rfl⟩
      rw [hpp] at hst
      have hl2 := prod_length h3 h3
      rw [hpp] at hl2
      have hmul1 : ∀ W, Below wr.heap.size wr W → Calls Tryz.prog 59 #[.slice B (lim p).length d, .slice B (lim p).length d] W (RetNat pp W) := by
        intro W hW
        have := mul_calls B B d d (lim p) (lim p) W (hr.on hW) (hr.on hW) hd hd (canon_lim _) (canon_lim _) (by omega)
        rwa [val_lim, hpp] at this
      have hmul2 : ∀ W B' d', Rd W B' (lim pp) → (lim pp).length ≤ d' → Below w.heap.size w W → Calls Tryz.prog 59 #[.slice B' (lim pp).length d', .slice A (lim a).length c] W (RetNat (pp * a) W) := by
        intro W B' d' h1 h2 hW
        have := mul_calls B' A d' c (lim pp) (lim a) W h1 (hA.on hW) h2 hc (canon_lim _) (canon_lim _) (by omega)
        rwa [val_lim, val_lim] at this
      clear hp hpp
      by_cases hbit : bt = 1
      · subst hbit
        rw [if_pos rfl] at hst
        obtain ⟨v, hv⟩ : ∃ v, pp * a = v := ⟨_, rfl⟩
        rw [hv] at hst
        simp only [hv] at hmul2
        have Hst := Lib.hid hst
        clear hst hv
        have hv' : v = a ^ (n / 2 ^ k) := by rw [← hm'.out]; exact Hst.out
        have Hv := Lib.hid hv'
        clear hv'
        by_cases hs : (lim v).length ≤ 300
        · have hs' : (((lim v).length : Int) ≤ 300) ↔ True := by rw [iff_true]; omega
          go_wp2_with first
            | (go_at_call 59; refine (hmul2 w2 B2 d2 r2 n2 (hbl.trans (x2.mono hbl.size))).mono ?_; rintro e w3 ⟨B3, d3, rfl, n3, r3, x3⟩)
            | (go_at_call 59; refine (hmul1 wr (Below.refl _ _)).mono ?_; rintro e w2 ⟨B2, d2, rfl, n2, r2, x2⟩)
            | (go_at_call 25; refine (must_ok 3 _).mono ?_; rintro e w5 ⟨rfl, rfl⟩)
          refine ⟨⟨k, B3, _, rfl, by omega, by rw [← Hv.out], by rw [← Hv.out]; exact n3, by rw [← Hv.out]; exact hs, by rw [← Hv.out]; exact r3, (hbl.trans (x2.mono hbl.size)).trans (x3.mono (hbl.trans (x2.mono hbl.size)).size)⟩, by simp only [intOf]; omega⟩
        · have hs' : (((lim v).length : Int) ≤ 300) ↔ False := by rw [iff_false]; omega
          go_wp2_with first
            | (go_at_call 59; refine (hmul2 w2 B2 d2 r2 n2 (hbl.trans (x2.mono hbl.size))).mono ?_; rintro e w3 ⟨B3, d3, rfl, n3, r3, x3⟩)
            | (go_at_call 59; refine (hmul1 wr (Below.refl _ _)).mono ?_; rintro e w2 ⟨B2, d2, rfl, n2, r2, x2⟩)
            | (go_at_call 25; refine (must_no 3 _).mono ?_; rintro e w5 ⟨rfl, rfl⟩)
          have hbig : 300 < (lim (a ^ n)).length := pow_len_mono hmle (by have := Hst.out; rw [← this]; omega)
          exact ⟨rfl, fun h => by omega, fun _ => rfl, (hbl.trans (x2.mono hbl.size)).trans (x3.mono (hbl.trans (x2.mono hbl.size)).size)⟩
      · rw [if_neg hbit, Nat.mul_one] at hst
        have hb' : (((bt : Nat) : Int) == 1) = false := by rw [beq_eq_false_iff_ne]; omega
        have Hst := Lib.hid hst
        clear hst hmul2
        have hv' : pp = a ^ (n / 2 ^ k) := by rw [← hm'.out]; exact Hst.out
        have Hv := Lib.hid hv'
        clear hv'
        by_cases hs : (lim pp).length ≤ 300
        · have hs' : (((lim pp).length : Int) ≤ 300) ↔ True := by rw [iff_true]; omega
          go_wp2_with first
            | (go_at_call 59; refine (hmul1 wr (Below.refl _ _)).mono ?_; rintro e w2 ⟨B2, d2, rfl, n2, r2, x2⟩)
            | (go_at_call 25; refine (must_ok 3 _).mono ?_; rintro e w5 ⟨rfl, rfl⟩)
          refine ⟨⟨k, B2, _, rfl, by omega, by rw [← Hv.out], by rw [← Hv.out]; exact n2, by rw [← Hv.out]; exact hs, by rw [← Hv.out]; exact r2, hbl.trans (x2.mono hbl.size)⟩, by simp only [intOf]; omega⟩
        · have hs' : (((lim pp).length : Int) ≤ 300) ↔ False := by rw [iff_false]; omega
          go_wp2_with first
            | (go_at_call 59; refine (hmul1 wr (Below.refl _ _)).mono ?_; rintro e w2 ⟨B2, d2, rfl, n2, r2, x2⟩)
            | (go_at_call 25; refine (must_no 3 _).mono ?_; rintro e w5 ⟨rfl, rfl⟩)
          have hbig : 300 < (lim (a ^ n)).length := pow_len_mono hmle (by have := Hst.out; rw [← this]; omega)
          exact ⟨rfl, fun h => by omega, fun _ => rfl, hbl.trans (x2.mono hbl.size)⟩
    · obtain rfl : k = 0 := by omega
      rw [Nat.pow_zero, Nat.div_one] at hd h3 hr ⊢
      go_wp2_with fail
      go_ret
      exact ⟨fun _ => ⟨_, _, rfl, hd, hr, hbl⟩, fun h => by omega, hbl⟩
end Nm
end Go.Proofs.YtlhmbbpkhahbeaaGreatDoor
namespace Go.Proofs.YtlhmbbpkhahbeaaGreatDoor
namespace Nm
theorem two_sq (x r : Nat) : 2 * (r * x) ≤ x * x + r * r := by
  rcases Nat.le_total x r with h | h
  · obtain ⟨d, rfl⟩ := Nat.exists_eq_add_of_le h
    have e := Nat.mul_comm d x
    simp only [Nat.mul_add, Nat.add_mul]
    omega
  · obtain ⟨d, rfl⟩ := Nat.exists_eq_add_of_le h
    have e := Nat.mul_comm d r
    simp only [Nat.mul_add, Nat.add_mul]
    omega
theorem amgm (x r n : Nat) : (n + 1) * (r * x ^ n) ≤ n * x ^ (n + 1) + r ^ (n + 1) := by
  induction n with
  | zero => simp
  | succ n ih =>
    have h1 := Nat.mul_le_mul (Nat.le_refl r) ih
    have h2 := Nat.mul_le_mul (Nat.le_refl ((n + 1) * x ^ n)) (two_sq x r)
    have e1 : r * ((n + 1) * (r * x ^ n)) = (n + 1) * x ^ n * (r * r) := by
      rw [Nat.mul_comm r, Nat.mul_assoc, Nat.mul_assoc (n + 1), Nat.mul_comm (r * x ^ n) r, Nat.mul_comm (x ^ n), ← Nat.mul_assoc r r]
    have e2 : r * (n * x ^ (n + 1) + r ^ (n + 1)) = n * (r * x ^ (n + 1)) + r ^ (n + 2) := by
      rw [Nat.mul_add, Nat.mul_left_comm, ← Nat.pow_succ']
    have e3 : (n + 1) * x ^ n * (2 * (r * x)) = 2 * (n + 1) * (r * x ^ (n + 1)) := by
      rw [Nat.pow_succ]
      generalize x ^ n = P
      simp only [Nat.mul_comm, Nat.mul_left_comm, Nat.mul_assoc]
    have e4 : (n + 1) * x ^ n * (x * x + r * r) = (n + 1) * x ^ (n + 2) + (n + 1) * x ^ n * (r * r) := by
      rw [Nat.mul_add, Nat.pow_succ, Nat.pow_succ, Nat.mul_assoc (n + 1), Nat.mul_assoc (x ^ n)]
    rw [e1, e2] at h1
    rw [e3, e4] at h2
    rw [show n + 1 + 1 = n + 2 from rfl]
    generalize r * x ^ (n + 1) = A at *
    generalize (n + 1) * x ^ n * (r * r) = B at *
    generalize (n + 1) * x ^ (n + 2) = C at *
    generalize r ^ (n + 2) = D at *
    have e5 : n * A = (n + 2) * A - 2 * A := by rw [Nat.add_mul]; omega
    have e6 : 2 * (n + 1) * A = (n + 2) * A + n * A := by rw [← Nat.add_mul]; congr 1; omega
    omega
/-- Newton's step does not go below a root -/
theorem newton_ge {a x r m : Nat} (hx : 0 < x) (h : r ^ (m + 1) ≤ a) : (m + 1) * r ≤ m * x + a / x ^ m := by
  have hp : 0 < x ^ m := Nat.pow_pos hx
  have h1 := amgm x r m
  have h2 : (m + 1) * r * x ^ m ≤ m * x * x ^ m + a := by
    rw [Nat.pow_succ, ← Nat.mul_assoc (m + 1), Nat.mul_comm (x ^ m) x, ← Nat.mul_assoc m] at h1
    omega
  have h3 : (m + 1) * r ≤ (m * x * x ^ m + a) / x ^ m := (Nat.le_div_iff_mul_le hp).2 h2
  rw [Nat.add_comm (m * x * x ^ m) a, Nat.add_mul_div_right _ _ hp] at h3
  omega
/-- where it does not go down the number is no greater than the root -/
theorem newton_stop {a x m : Nat} (hx : 0 < x) (h : x ≤ (m * x + a / x ^ m) / (m + 1)) : x ^ (m + 1) ≤ a := by
  have hp : 0 < x ^ m := Nat.pow_pos hx
  have h1 := (Nat.le_div_iff_mul_le (show 0 < m + 1 by omega)).1 h
  have h2 : x ≤ a / x ^ m := by rw [Nat.mul_succ, Nat.mul_comm x m] at h1; omega
  have h3 := (Nat.le_div_iff_mul_le hp).1 h2
  rwa [Nat.pow_succ, Nat.mul_comm]
/-- x is the greatest whose n-th power is at most a -/
def IsRoot (a n x : Nat) : Prop := x ^ n ≤ a ∧ ∀ r, r ^ n ≤ a → r ≤ x
theorem root_start {a n r : Nat} (hn : 0 < n) (h : r ^ n ≤ a) : r ≤ 2 ^ ((blen a + n - 1) / n) := by
  rcases Nat.lt_or_ge (2 ^ ((blen a + n - 1) / n)) r with hc | hc
  · exfalso
    have h1 : (2 ^ ((blen a + n - 1) / n)) ^ n ≤ r ^ n := Nat.pow_le_pow_left (Nat.le_of_lt hc) n
    rw [← Nat.pow_mul] at h1
    have h2 : blen a ≤ (blen a + n - 1) / n * n := by
      have := Nat.div_add_mod (blen a + n - 1) n
      have h4 := Nat.mod_lt (blen a + n - 1) hn
      rw [Nat.mul_comm]
      generalize n * ((blen a + n - 1) / n) = X at *
      omega
    have h3 := Nat.pow_le_pow_right (n := 2) (by decide) h2
    have := blen_lt a
    omega
  · exact hc
theorem root_small {a n x : Nat} (_hn : 0 < n) (hx : x ≤ 2 ^ ((blen a + n - 1) / n)) : x ^ n ≤ 2 ^ (blen a + n - 1) := by
  refine Nat.le_trans (Nat.pow_le_pow_left hx n) ?_
  rw [← Nat.pow_mul]
  exact Nat.pow_le_pow_right (by decide) (Nat.div_mul_le_self _ _)
theorem newton_root {a x m : Nat} (hx : 0 < x) (hP : ∀ r, r ^ (m + 1) ≤ a → r ≤ x) (h : x ≤ (m * x + a / x ^ m) / (m + 1)) : IsRoot a (m + 1) x := ⟨newton_stop hx h, hP⟩
theorem newton_next {a x m : Nat} (hx : 0 < x) {r : Nat} (h : r ^ (m + 1) ≤ a) : r ≤ (m * x + a / x ^ m) / (m + 1) := by
  rw [Nat.le_div_iff_mul_le (by omega), Nat.mul_comm]
  exact newton_ge hx h
end Nm
end Go.Proofs.YtlhmbbpkhahbeaaGreatDoor
namespace Go.Proofs.YtlhmbbpkhahbeaaGreatDoor
namespace Nm
open Go.RowKit Go.Shelf Go.BigFrame
attribute [local go_sem] Oper.semAt_some
/-- the number in a slice of words -/
def slotVal (o : Value) (W : World) : Nat :=
  match o with
  | .slice (some a) n _ => val ((List.range n).map fun i => match W.cell? ⟨a.block, a.off + i, none⟩ with | some (.int _ z) => z.toNat | _ => 0)
  | _ => 0
theorem slotVal_eq {W : World} {A : Option Addr} {l : List Nat} {d : Nat} (h : Rd W A l) : slotVal (.slice A l.length d) W = val l := by
  rcases Nat.eq_zero_or_pos l.length with h0 | h0
  · obtain rfl : l = [] := List.length_eq_zero_iff.1 h0
    cases A <;> rfl
  · obtain ⟨b, o, rfl⟩ := h.head h0
    show val _ = val l
    congr 1
    apply List.ext_getElem
    · simp
    · intro i h1 h2
      obtain ⟨b', o', e, hc⟩ := h.cell i h2
      cases e
      simp only [List.getElem_map, List.getElem_range]
      rw [hc]
      simp [h2, List.getD_eq_getElem?_getD]
theorem one_word {n : Nat} (h0 : 0 < n) (h : n < 4294967296) : lim n = [n] := by
  rw [lim_pos h0, Nat.mod_eq_of_lt h, Nat.div_eq_of_lt h, lim_zero]
theorem rd_word (W : World) {n : Nat} (h0 : 0 < n) (h : n < 4294967296) : Rd (W.alloc (.cells #[.int .u32 (n : Int)] 50)) (some ⟨W.heap.size, 0, none⟩) (lim n) := by
  rw [one_word h0 h]
  exact arr_rd (arr_new W [n]) (by intro u hu; simp at hu; rw [hu]; exact h) (by simp)
theorem len_of_bits {y m k : Nat} (h : y < 2 ^ m) (hm : m ≤ 32 * k) : (lim y).length ≤ k := by
  refine length_le_of_lt (Nat.lt_of_lt_of_le h ?_)
  rewrite [pow_BB]
  exact Nat.pow_le_pow_right (by decide) hm
theorem big_len {y m : Nat} (h : y ≤ 2 ^ m) (hm : m ≤ 9700) : (lim y).length ≤ 304 :=
  len_of_bits (m := m + 1) (Nat.lt_of_le_of_lt h (Nat.pow_lt_pow_right (by decide) (Nat.lt_succ_self m))) (by omega)
theorem bits_of_len {a k : Nat} (h : a < BB ^ k) : a < 2 ^ (32 * k) := by rwa [pow_BB] at h
theorem blen_lt_of {a m : Nat} (h : a < 2 ^ m) : blen a ≤ m := by
  rcases Nat.lt_or_ge m (blen a) with hc | hc
  · exfalso
    have ha : a ≠ 0 := by rintro rfl; simp [blen] at hc
    have h2 := blen_le ha
    have h3 := Nat.pow_le_pow_right (n := 2) (by decide) (show m + 1 ≤ blen a by omega)
    rw [Nat.pow_succ] at h3
    omega
  · exact hc
theorem blen_len {a : Nat} (h : (lim a).length ≤ 300) : blen a ≤ 9600 :=
  Nat.le_trans (blen_lt_of (bits_of_len (lt_of_length_le (Nat.le_refl _)))) (by omega)
set_option maxRecDepth 100000 in
set_option maxHeartbeats 4000000 in
theorem root_calls (A : Option Addr) (c a n : Nat) (w : World) (hA : Rd w A (lim a)) (hc : (lim a).length ≤ c) (ha : (lim a).length ≤ 300) (hn1 : 1 ≤ n) (hn2 : n ≤ 100) :
    Calls Tryz.prog 61 #[.slice A (lim a).length c, .int .i64 (n : Int)] w fun e w' => ∃ x, IsRoot a n x ∧ RetNat x w e w' := by
  by_cases h0 : a = 0
  · subst h0
    rw [lim_zero] at hA hc ⊢
    go_enter Tryz.func61, Tryz.ntmps61
    go_wp2_with fail
    go_ret
    refine ⟨0, ⟨by rw [Nat.zero_pow (by omega)]; exact Nat.le_refl _, fun r hr => ?_⟩, A, c, by rw [lim_zero]; rfl, by rw [lim_zero]; exact hc, by rw [lim_zero]; exact hA, Below.refl _ _⟩
    rcases Nat.eq_zero_or_pos r with h | h
    · omega
    · have := Nat.pow_pos (n := n) h; omega
  · have hap : 0 < a := Nat.pos_of_ne_zero h0
    have hlp := lim_length_pos hap
    have hl0 : (((lim a).length : Int) == 0) = false := by rw [beq_eq_false_iff_ne]; omega
    by_cases h1 : n = 1
    · subst h1
      go_enter Tryz.func61, Tryz.ntmps61
      go_wp2_with fail
      go_ret
      exact ⟨a, ⟨by rw [Nat.pow_one]; exact Nat.le_refl _, fun r hr => by rwa [Nat.pow_one] at hr⟩, A, c, rfl, hc, hA, Below.refl _ _⟩
    · have hn1' : ((n : Int) == 1) = false := by rw [beq_eq_false_iff_ne]; omega
      obtain ⟨m, hm, hm'⟩ : ∃ m : Nat, (n : Int) - 1 = (m : Int) ∧ Hid (n = m + 1) := ⟨n - 1, by omega, by show n = _; omega⟩
      have hm1 : 1 ≤ m := by have := hm'.out; omega
      have hm2 : m ≤ 99 := by have := hm'.out; omega
      have hbl := blen_len ha
      obtain ⟨bl, hbb⟩ : ∃ b, blen a = b := ⟨_, rfl⟩
      have hbits := fun W h => bits_calls A c (lim a) W h hc (canon_lim a) (by omega)
      rw [val_lim, hbb] at hbits
      rw [hbb] at hbl
      obtain ⟨s, hs, hs', hsb⟩ : ∃ s : Nat, ((bl : Int) + (n : Int) - 1) / (n : Int) = (s : Int) ∧ Hid (s = (bl + n - 1) / n) ∧ s ≤ 9700 := by
        refine ⟨(bl + n - 1) / n, ?_, rfl, Nat.le_trans (Nat.div_le_self _ _) (by omega)⟩
        rw [show (bl : Int) + (n : Int) - 1 = ((bl + n - 1 : Nat) : Int) by omega]
        simp
      have hst : ∀ r, r ^ n ≤ a → r ≤ 2 ^ s := fun r hr => by rw [hs'.out, ← hbb]; exact root_start (by omega) hr
      have hsm : ∀ x, x ≤ 2 ^ s → (lim (x ^ n)).length ≤ 304 := fun x hx => big_len (root_small (a := a) (by omega) (by rw [hbb, ← hs'.out]; exact hx)) (by rw [hbb]; omega)
      have hshift : ∀ W, Below (w.alloc (.cells #[.int .u32 1] 50)).heap.size (w.alloc (.cells #[.int .u32 1] 50)) W → Calls Tryz.prog 81 #[.slice (some ⟨w.heap.size, 0, none⟩) 1 1, .int .i64 (s : Int)] W (RetNat (2 ^ s) W) := by
        intro W hW
        have := shift_calls (some ⟨w.heap.size, 0, none⟩) 1 s (lim 1) W ((rd_word w (n := 1) (by decide) (by decide)).on hW) (by rw [one_word (by decide) (by decide)]; simp) (by omega) (by rw [one_word (by decide) (by decide)]; simp)
        rwa [val_lim, one_word (by decide) (by decide), Nat.one_mul] at this
      have hb1 : ∀ o, Below w.heap.size w (w.alloc o) := fun o => (Below.refl _ _).alloc (Nat.le_refl _) _
      have Hst := Lib.hid hst
      have Hsm := Lib.hid hsm
      have Hbb := Lib.hid hbb
      clear hst hsm hbb
      go_enter Tryz.func61, Tryz.ntmps61
      go_wp2_with first
        | (go_at_call 90; refine (hbits _ (hA.on (hb1 _))).mono ?_; rintro e w2 ⟨rfl, nn, rfl⟩)
        | (go_at_call 81; refine (hshift _ (below_drewN (Below.refl _ _) nn)).mono ?_; rintro e w3 ⟨B0, d0, rfl, n0, r0, x0⟩)
      have hbA := below_drewN (hb1 (.cells #[.int .u32 1] 50)) nn
      have hb3 : Below w.heap.size w w3 := hbA.trans (x0.mono hbA.size)
      clear hbA
      go_loopw [5] (fun o W => ∃ (x : Nat) (B : Option Addr) (d : Nat), o = .slice B (lim x).length d ∧ (lim x).length ≤ d ∧ 0 < x ∧ x ≤ 2 ^ s ∧ Hid (∀ r, r ^ n ≤ a → r ≤ x) ∧ Rd W B (lim x) ∧ Below w.heap.size w W) (fun o W => slotVal o W)
      case atStart => exact ⟨2 ^ s, B0, d0, rfl, n0, Nat.two_pow_pos s, Nat.le_refl _, Hst.out, r0, hb3⟩
      case round =>
        clear hb3 x0 r0 n0 hbits hshift
        obtain ⟨x, B, d, rfl, hd, hx0, hxs, hP, hr, hbl⟩ := hrel
        obtain ⟨W0, hW0⟩ : ∃ W0, W0 = wr := ⟨wr, rfl⟩
        subst hW0
        have hlx := Hsm.out x hxs
        have hpl : ∀ i, i ≤ n → (lim (x ^ i)).length ≤ 304 := fun i hi => Nat.le_trans (length_mono (Nat.pow_le_pow_right hx0 hi)) hlx
        have hlx1 : (lim x).length ≤ 304 := by have := hpl 1 hn1; rwa [Nat.pow_one] at this
        have Hpl := Lib.hid hpl
        have hmul : ∀ W p A' d', Below W0.heap.size W0 W → Rd W A' (lim p) → (lim p).length ≤ d' → (lim p).length ≤ 304 → Calls Tryz.prog 59 #[.slice A' (lim p).length d', .slice B (lim x).length d] W (RetNat (p * x) W) := by
          intro W p A' d' hW h1 h2 h3
          have := mul_calls A' B d' d (lim p) (lim x) W h1 (hr.on hW) h2 hd (canon_lim _) (canon_lim _) (by omega)
          rwa [val_lim, val_lim] at this
        have hW0 : ∀ o, Below W0.heap.size W0 (W0.alloc o) := fun o => (Below.refl _ _).alloc (Nat.le_refl _) _
        clear hpl hlx
        go_wp2_with fail
        go_loopw [6, 32] (fun p i W => ∃ (k : Nat) (A' : Option Addr) (d' : Nat), i = .int .i64 (k : Int) ∧ k ≤ m ∧ p = .slice A' (lim (x ^ k)).length d' ∧ (lim (x ^ k)).length ≤ d' ∧ Rd W A' (lim (x ^ k)) ∧ Below W0.heap.size W0 W) (fun _ i _ => m - (intOf i).toNat)
        case atStart =>
          refine ⟨0, some ⟨W0.heap.size, 0, none⟩, 1, rfl, Nat.zero_le _, ?_, ?_, ?_, hW0 _⟩
          · rw [Nat.pow_zero, one_word (by decide) (by decide)]; rfl
          · rw [Nat.pow_zero, one_word (by decide) (by decide)]; simp
          · rw [Nat.pow_zero]; exact rd_word W0 (n := 1) (by decide) (by decide)
        case round =>
          obtain ⟨k, A', d', rfl, hk, rfl, hd', hr', hbl'⟩ := hrel
          by_cases hkm : k < m
          · have hm2' := hmul wr (x ^ k) A' d' hbl' hr' hd' (Hpl.out k (by have := hm'.out; omega))
            rw [← Nat.pow_succ] at hm2'
            obtain ⟨pk, hpk⟩ : ∃ q, x ^ k = q := ⟨_, rfl⟩
            obtain ⟨pk1, hpk1⟩ : ∃ q, x ^ (k + 1) = q := ⟨_, rfl⟩
            rw [hpk] at hm2' ⊢
            rw [hpk1] at hm2'
            have Hpk1 := Lib.hid hpk1
            clear hpk hpk1 hmul
            go_wp2_with (go_at_call 59; refine hm2'.mono ?_; rintro e w5 ⟨B2, d2, rfl, n2, r2, x2⟩)
            refine ⟨⟨k + 1, B2, d2, by simp, by omega, by rw [Hpk1.out], by rw [Hpk1.out]; exact n2, by rw [Hpk1.out]; exact r2, hbl'.trans (x2.mono hbl'.size)⟩, by simp only [intOf]; omega⟩
          · obtain rfl : k = m := by omega
            have hpm : 0 < x ^ k := Nat.pow_pos hx0
            have hP' : ∀ r, r ^ (k + 1) ≤ a → r ≤ x := by have := hP.out; rwa [hm'.out] at this
            have hnext : ∀ r, r ^ (k + 1) ≤ a → r ≤ (k * x + a / x ^ k) / (k + 1) := fun r h => newton_next hx0 h
            have hroot := newton_root (a := a) hx0 hP'
            have hlpm := Hpl.out k (by have := hm'.out; omega)
            have hlq := length_mono (Nat.div_le_self a (x ^ k))
            have hone' := hnext 1 (by rw [Nat.one_pow]; exact hap)
            obtain ⟨pm, hpm'⟩ : ∃ q, x ^ k = q := ⟨_, rfl⟩
            rw [hpm'] at hpm hnext hroot hlpm hlq hone' hd' hr' ⊢
            obtain ⟨q, hq⟩ : ∃ q, a / pm = q := ⟨_, rfl⟩
            obtain ⟨rr, hrr⟩ : ∃ q, a % pm = q := ⟨_, rfl⟩
            rw [hq] at hnext hroot hlq hone'
            obtain ⟨S, hS⟩ : ∃ S, k * x + q = S := ⟨_, rfl⟩
            rw [hS] at hnext hroot hone'
            have hn' := hm'.out
            rw [← hn'] at hnext hroot hone'
            obtain ⟨y, hy⟩ : ∃ y, S / n = y := ⟨_, rfl⟩
            rw [hy] at hnext hroot hone'
            obtain ⟨xk, hxk⟩ : ∃ y, x * k = y := ⟨_, rfl⟩
            have hlk : (lim k).length = 1 := by rw [one_word (n := k) (by omega) (by omega)]; rfl
            have hln : (lim n).length = 1 := by rw [one_word (n := n) (by omega) (by omega)]; rfl
            have hlxk : (lim xk).length ≤ 305 := by
              have := prod_length (x := x) (y := k) hlx1 (Nat.le_of_eq hlk)
              rw [hxk] at this; omega
            have hlS : (lim S).length ≤ 306 := by
              have := sum_length (x := xk) (y := q) (k := 305) hlxk (by omega)
              rw [← hxk, Nat.mul_comm, hS] at this; exact this
            have hly := length_mono (show y ≤ S by rw [← hy]; exact Nat.div_le_self _ _)
            have hwa : ∀ (W : World) o, Below W.heap.size W (W.alloc o) := fun W o => (Below.refl _ _).alloc (Nat.le_refl _) _
            have hdiv1 : ∀ W, Below W0.heap.size W0 W → Calls Tryz.prog 51 #[.slice A (lim a).length c, .slice A' (lim pm).length d'] wr (RetDiv q rr wr) := by
              intro W _
              have := div_calls A A' c d' (lim a) (lim pm) wr (hA.on (hbl.trans (hbl'.mono hbl.size))) hr' hc hd' (canon_lim _) (canon_lim _) (by rw [val_lim]; exact hpm) (by omega)
              rwa [val_lim, val_lim, hq, hrr] at this
            have hmul2 : ∀ W, Below W0.heap.size W0 W → Calls Tryz.prog 59 #[.slice B (lim x).length d, .slice (some ⟨W.heap.size, 0, none⟩) 1 1] (W.alloc (.cells #[.int .u32 (k : Int)] 50)) (RetNat xk (W.alloc (.cells #[.int .u32 (k : Int)] 50))) := by
              intro W hW
              have := mul_calls B (some ⟨W.heap.size, 0, none⟩) d 1 (lim x) (lim k) (W.alloc (.cells #[.int .u32 (k : Int)] 50)) (hr.on (hW.trans ((hwa W _).mono hW.size))) (rd_word W (by omega) (by omega)) hd (by rw [hlk]; exact Nat.le_refl _) (canon_lim _) (canon_lim _) (by rw [hlk]; omega)
              rwa [val_lim, val_lim, hxk, hlk] at this
            have hadd : ∀ W A1 d1 A2 d2, Rd W A1 (lim xk) → (lim xk).length ≤ d1 → Rd W A2 (lim q) → (lim q).length ≤ d2 → Calls Tryz.prog 52 #[.slice A1 (lim xk).length d1, .slice A2 (lim q).length d2] W (RetNat S W) := by
              intro W A1 d1 A2 d2 h1 h2 h3 h4
              have := add_calls A1 A2 d1 d2 (lim xk) (lim q) W h1 h3 h2 h4 (by omega) (by omega)
              rwa [val_lim, val_lim, show xk + q = S by rw [← hxk, Nat.mul_comm, hS]] at this
            have hdiv2 : ∀ W A1 d1, Below W0.heap.size W0 W → Rd W A1 (lim S) → (lim S).length ≤ d1 → Calls Tryz.prog 51 #[.slice A1 (lim S).length d1, .slice (some ⟨W.heap.size, 0, none⟩) 1 1] (W.alloc (.cells #[.int .u32 (n : Int)] 50)) (RetDiv y (S % n) (W.alloc (.cells #[.int .u32 (n : Int)] 50))) := by
              intro W A1 d1 hW h1 h2
              have := div_calls A1 (some ⟨W.heap.size, 0, none⟩) d1 1 (lim S) (lim n) (W.alloc (.cells #[.int .u32 (n : Int)] 50)) (h1.on (hwa W _)) (rd_word W (by omega) (by omega)) h2 (by rw [hln]; exact Nat.le_refl _) (canon_lim _) (canon_lim _) (by rw [val_lim]; omega) (by omega)
              rwa [val_lim, val_lim, hy, hln] at this
            have Hq := Lib.hid hq
            have Hxk := Lib.hid hxk
            obtain ⟨sn, hsn⟩ : ∃ z, S % n = z := ⟨_, rfl⟩
            simp only [hsn] at hdiv2
            clear hq hrr hS hy hxk hlk hln hsn hmul hpm' hn'
            by_cases hyx : x ≤ y
            · obtain ⟨z, hz⟩ : ∃ z : Nat, cmpZ (y : Int) (x : Int) = (z : Int) := by
                unfold cmpZ; rw [if_neg (by omega)]; split
                · exact ⟨1, rfl⟩
                · exact ⟨0, rfl⟩
              have hcm : ∀ W A1 d1, Below W0.heap.size W0 W → Rd W A1 (lim y) → (lim y).length ≤ d1 → Calls Tryz.prog 62 #[.slice A1 (lim y).length d1, .slice B (lim x).length d] W fun e w' => e = .returned (.int .i64 (z : Int)) ∧ ∃ n, w' = W.drewN n := by
                intro W A1 d1 hW h1 h2
                have := compare_calls A1 B d1 d (lim y) (lim x) W h1 (hr.on hW) h2 hd (canon_lim _) (canon_lim _)
                rw [val_lim, val_lim] at this
                rwa [show cmpZ (y : Int) (x : Int) = (z : Int) from hz] at this
              have hroot' := Lib.hid (hroot hyx)
              clear hz hroot hnext hP' hP
              go_wp2_with first
                | (go_at_call 51; refine (hdiv2 w7 A7 c7 x7 r7 n7).mono ?_; rintro e w8 ⟨Ay, cy, Az, cz, rfl, n8, _, r8, _, b8⟩; have x8 := x7.trans ((hwa w7 _).trans (b8.mono (hwa _ _).size) |>.mono x7.size))
                | (go_at_call 51; refine (hdiv1 wr hbl').mono ?_; rintro e w5 ⟨Aq, cq, Ar, cr, rfl, n5, _, r5, _, b5⟩; have x5 := hbl'.trans (b5.mono hbl'.size))
                | (go_at_call 59; refine (hmul2 w5 x5).mono ?_; rintro e w6 ⟨A6, c6, rfl, n6, r6, b6⟩; have x6 := x5.trans ((hwa w5 _).trans (b6.mono (hwa _ _).size) |>.mono x5.size))
                | (go_at_call 52; refine (hadd w6 A6 c6 Aq cq r6 n6 (r5.on ((hwa w5 _).trans (b6.mono (hwa _ _).size))) n5).mono ?_; rintro e w7 ⟨A7, c7, rfl, n7, r7, b7⟩; have x7 := x6.trans (b7.mono x6.size))
                | (go_at_call 62; refine (hcm w8 Ay cy x8 r8 n8).mono ?_; rintro e w9 ⟨rfl, nn, rfl⟩)
              have xx := below_drewN x8 nn
              go_ret
              exact ⟨x, hroot'.out, B, d, rfl, hd, hr.on xx, hbl.trans (xx.mono hbl.size)⟩
            · have hcm : ∀ W A1 d1, Below W0.heap.size W0 W → Rd W A1 (lim y) → (lim y).length ≤ d1 → Calls Tryz.prog 62 #[.slice A1 (lim y).length d1, .slice B (lim x).length d] W fun e w' => e = .returned (.int .i64 (-1)) ∧ ∃ n, w' = W.drewN n := by
                intro W A1 d1 hW h1 h2
                have := compare_calls A1 B d1 d (lim y) (lim x) W h1 (hr.on hW) h2 hd (canon_lim _) (canon_lim _)
                rw [val_lim, val_lim] at this
                rwa [show cmpZ (y : Int) (x : Int) = (-1) from by unfold cmpZ; rw [if_pos (by omega)]] at this
              have hnext' := Lib.hid hnext
              clear hroot hnext hP' hP
              go_wp2_with first
                | (go_at_call 51; refine (hdiv2 w7 A7 c7 x7 r7 n7).mono ?_; rintro e w8 ⟨Ay, cy, Az, cz, rfl, n8, _, r8, _, b8⟩; have x8 := x7.trans ((hwa w7 _).trans (b8.mono (hwa _ _).size) |>.mono x7.size))
                | (go_at_call 51; refine (hdiv1 wr hbl').mono ?_; rintro e w5 ⟨Aq, cq, Ar, cr, rfl, n5, _, r5, _, b5⟩; have x5 := hbl'.trans (b5.mono hbl'.size))
                | (go_at_call 59; refine (hmul2 w5 x5).mono ?_; rintro e w6 ⟨A6, c6, rfl, n6, r6, b6⟩; have x6 := x5.trans ((hwa w5 _).trans (b6.mono (hwa _ _).size) |>.mono x5.size))
                | (go_at_call 52; refine (hadd w6 A6 c6 Aq cq r6 n6 (r5.on ((hwa w5 _).trans (b6.mono (hwa _ _).size))) n5).mono ?_; rintro e w7 ⟨A7, c7, rfl, n7, r7, b7⟩; have x7 := x6.trans (b7.mono x6.size))
                | (go_at_call 62; refine (hcm w8 Ay cy x8 r8 n8).mono ?_; rintro e w9 ⟨rfl, nn, rfl⟩)
              have xx := below_drewN x8 nn
              have r8' := r8.on (below_drewN (Below.refl w8.heap.size w8) nn)
              refine ⟨⟨y, Ay, cy, rfl, n8, hone', Nat.le_trans (Nat.le_of_lt (Nat.lt_of_not_le hyx)) hxs, hnext', r8', hbl.trans (xx.mono hbl.size)⟩, ?_⟩
              rw [slotVal_eq r8', slotVal_eq hr, val_lim, val_lim]
              exact Nat.lt_of_not_le hyx
end Nm
end Go.Proofs.YtlhmbbpkhahbeaaGreatDoor
namespace Go.Proofs.YtlhmbbpkhahbeaaGreatDoor
namespace Nm
open Go.RowKit Go.Shelf Go.BigFrame
attribute [local go_sem] Oper.semAt_some
set_option maxRecDepth 100000 in
theorem assert_wrong (x : Int) (W : World) : (Instr.typeAssert (.iface 104 (.agg #[.int .i64 x])) 20 104 true).run Tryz.prog W = .ok (.tuple #[.agg #[.int .i64 x], .bool true]) W := by
  rfl
theorem catch_idle_int (p q : Addr) (w : World) :
    CallsD Tryz.prog 65 #[.pointer (some p), .pointer (some q)] .returning w fun e u' w' => e = .returned (.tuple #[]) ∧ u' = .returning ∧ w' = w := by
  refine callsD_of_wpS Tryz.func65 rfl fun c₀ cs hu => ?_
  apply wpS_seq
  apply wpS_region
  simp [wpOpsS, go_sem, recoverD, hu, Tryz.ntmps65, Exit.thenS]
  apply wpS_seq
  apply wpS_seq
  apply wpS_region
  simp [wpOpsS, go_sem, Exit.thenS]
  refine wpS_cond (t := true) (by simp [Act.eval, Array.replicate]) ?_
  simp only [if_true]
  refine wpS_of_wp (wp_ret ?_)
  cases c₀
  simp_all [bodyPostS, results, Tryz.results65, Exit.thenS]
set_option maxRecDepth 100000 in
set_option maxHeartbeats 2000000 in
theorem catch_wrong_int (g : Nat) (x : Int) (older : List PanicEntry) (a b : Value) (c : Value) (w : World) (h1 : w.heap[g]? = some (.cells #[a, b] 24 (0, 0))) (h2 : w.heap[g + 1]? = some (.cells #[c] 27 (0, 0))) :
    CallsD Tryz.prog 65 #[.pointer (some ⟨g, 0, none⟩), .pointer (some ⟨g + 1, 0, none⟩)] (.panicking ({ v := .iface 104 (.agg #[.int .i64 x]), recovered := false } :: older)) w fun e u' w' =>
      e = .returned (.tuple #[]) ∧ u' = .panicking ({ v := .iface 104 (.agg #[.int .i64 x]), recovered := true } :: older) ∧
        w'.heap[g]? = some (.cells #[.bool false, .slice none 0 0] 24 (0, 0)) ∧ w'.heap[g + 1]? = some (.cells #[.int .i64 x] 27 (0, 0)) ∧ Below g w w' := by
  refine callsD_of_wpS Tryz.func65 rfl fun c₀ cs hu => ?_
  apply wpS_seq
  apply wpS_region
  simp [wpOpsS, go_sem, recoverD, hu, Tryz.ntmps65, Exit.thenS]
  refine wpS_of_wp ?_
  have hta := assert_wrong x
  have x0 := cell_at h1 0 a rfl
  have x1 := cell_at h1 1 b rfl
  have x2 := cell_at h2 0 c rfl
  have y0 := frozen_at h1 0
  have y1 := frozen_at h1 1
  have y2 := frozen_at h2 0
  simp only [Array.replicate_succ, Array.replicate_zero, List.push_toArray, List.nil_append, List.cons_append]
  go_wp2_with fail
  have hl1 := (Array.getElem?_eq_some_iff.1 h1).1
  have hl2 := (Array.getElem?_eq_some_iff.1 h2).1
  obtain ⟨W4, hW4⟩ : ∃ W4, ((w.alloc (.cells #[.int .i64 x] 104)).alloc (.cells #[.bool false, .slice none 0 0] 24)) = W4 := ⟨_, rfl⟩
  have hz1 : W4.heap[w.heap.size]? = some (.cells #[.int .i64 x] 104 (0, 0)) := by rw [← hW4]; exact (Below.heap_alloc _ _ _ (by simp)).trans (World.alloc_heap_new w _)
  have hz2 : W4.heap[w.heap.size + 1]? = some (.cells #[.bool false, .slice none 0 0] 24 (0, 0)) := by rw [← hW4]; have := World.alloc_heap_new (w.alloc (.cells #[.int .i64 x] 104)) (.cells #[.bool false, .slice none 0 0] 24); rwa [World.size_alloc] at this
  have hz3 : W4.heap[g]? = some (.cells #[a, b] 24 (0, 0)) := by rw [← hW4]; exact (Below.heap_alloc _ _ _ (by simp; omega)).trans ((Below.heap_alloc _ _ _ hl1).trans h1)
  have hz4 : W4.heap[g + 1]? = some (.cells #[c] 27 (0, 0)) := by rw [← hW4]; exact (Below.heap_alloc _ _ _ (by simp; omega)).trans ((Below.heap_alloc _ _ _ hl2).trans h2)
  have hbl : Below g w W4 := by rw [← hW4]; exact ((Below.refl g w).alloc (by omega) _).alloc (by simp; omega) _
  rw [hW4]
  clear hW4 x0 x1 x2 y0 y1 y2 h1 h2
  have z0 := cell_at hz1 0 _ rfl
  have z1 := cell_at hz2 0 _ rfl
  have z2 := cell_at hz2 1 _ rfl
  have x0 := cell_at hz3 0 a rfl
  have x1 := cell_at hz3 1 b rfl
  have x2 := cell_at hz4 0 c rfl
  have y0 := frozen_at hz3 0
  have y1 := frozen_at hz3 1
  have y2 := frozen_at hz4 0
  have n1 : ¬ g = w.heap.size := by omega
  have n2 : ¬ g = w.heap.size + 1 := by omega
  have n3 : ¬ w.heap.size = g := by omega
  have n4 : ¬ w.heap.size + 1 = g := by omega
  have n5 : ¬ g + 1 = w.heap.size := by omega
  have n6 : ¬ g + 1 = w.heap.size + 1 := by omega
  have n7 : ¬ w.heap.size = g + 1 := by omega
  have n8 : ¬ w.heap.size + 1 = g + 1 := by omega
  generalize w.heap.size = bq at *
  go_region_held3 (fun w' => w'.cell? ⟨bq, 0, none⟩ = some (.int .i64 x) ∧ w'.cell? ⟨bq + 1, 0, none⟩ = some (.bool false) ∧ w'.cell? ⟨bq + 1, 1, none⟩ = some (.slice none 0 0)) ((first | assumption | go_keep)) ((first | fail))
  cases c₀
  simp (config := { zetaDelta := true }) only [bodyPostS, results, Tryz.results65]
  refine ⟨trivial, _, rfl, .tuple #[], by simp [go_sem], rfl, rfl, ?_, ?_, ?_⟩
  · exact (Below.heap_setCell _ _ _ g (by simp)).trans (set_blk (set_blk hz3 0 _) 1 _)
  · exact set_blk ((Below.heap_setCell _ _ _ (g + 1) (by simp)).trans ((Below.heap_setCell _ _ _ (g + 1) (by simp)).trans hz4)) 0 _
  · exact below_drew (((hbl.setCell (Nat.le_refl _) _).setCell (Nat.le_refl _) _).setCell (by simp) _)
set_option maxRecDepth 100000 in
set_option maxHeartbeats 2000000 in
/-- 'try' over a closure that hands back an Int -/
theorem try_int_ok (G : Nat) (caps : Array Value) (hG : ∀ (args : Array Value) (w : World), (callFunc G args).run Tryz.prog w = .ok (.enter G args) w) (w : World) (W2 : World)
    (hW2 : (w.alloc (.cells #[.bool false, .slice none 0 0] 24)).alloc (.cells #[.int .i64 0] 27) = W2) (R : Bool → Option Addr → Nat → Nat → World → Prop)
    (h : Calls Tryz.prog G caps W2 fun e w' => ∃ s A n c, e = .returned (.agg #[.bool s, .slice A n c]) ∧ R s A n c w' ∧ Below W2.heap.size W2 w') :
    Calls Tryz.prog 29 #[.func (.func G) #[] caps] w fun e w' =>
      ∃ s A n c w1, R s A n c w1 ∧ Below w.heap.size w w' ∧ (∀ A l, Rd w1 A l → Rd w' A l) ∧ e = .returned (.tuple #[.agg #[.bool s, .slice A n c], .int .i64 0]) := by
  have hmf : ∀ (fn : Fn) (first cap : Array Value) (w : World), (Instr.makeFunc fn first cap).run Tryz.prog w = .ok (.func fn first cap) w := fun _ _ _ _ => rfl
  have hz1 : W2.heap[w.heap.size]? = some (.cells #[.bool false, .slice none 0 0] 24 (0, 0)) := by rw [← hW2]; exact (Below.heap_alloc _ _ _ (by simp)).trans (World.alloc_heap_new w _)
  have hz2 : W2.heap[w.heap.size + 1]? = some (.cells #[.int .i64 0] 27 (0, 0)) := by rw [← hW2]; have := World.alloc_heap_new (w.alloc (.cells #[.bool false, .slice none 0 0] 24)) (.cells #[.int .i64 0] 27); rwa [World.size_alloc] at this
  have hsz : W2.heap.size = w.heap.size + 2 := by rw [← hW2]; simp
  have hb2 : Below w.heap.size w W2 := by rw [← hW2]; exact ((Below.refl _ w).alloc (Nat.le_refl _) _).alloc (by simp) _
  have Hsz := Lib.hid hsz
  clear hsz
  go_enter_defers Tryz.func29, Tryz.ntmps29
  go_wp2_with first
    | (refine h.mono ?_; rintro e w' ⟨s, A, n, c, rfl, hR, hbl⟩; have hy1 := (hbl.block w.heap.size (by have := Hsz.out; omega)).trans hz1; have hy2 := (hbl.block (w.heap.size + 1) (by have := Hsz.out; omega)).trans hz2; have x0 := cell_at hy1 0 _ rfl; have x1 := cell_at hy1 1 _ rfl; have x2 := cell_at hy2 0 _ rfl; have y0 := frozen_at hy1 0; have y1 := frozen_at hy1 1; have y2 := frozen_at hy2 0)
  obtain ⟨X, hX⟩ : ∃ X, (((w'.setCell ⟨w.heap.size, 0, none⟩ (.bool s)).setCell ⟨w.heap.size, 1, none⟩ (.slice A n c)).setCell ⟨w.heap.size + 1, 0, none⟩ (.int .i64 0)) = X := ⟨_, rfl⟩
  have hx1 : X.heap[w.heap.size]? = some (.cells #[.bool s, .slice A n c] 24 (0, 0)) := by rw [← hX]; exact (Below.heap_setCell _ _ _ _ (by simp)).trans (set_blk (set_blk hy1 0 _) 1 _)
  have hx2 : X.heap[w.heap.size + 1]? = some (.cells #[.int .i64 0] 27 (0, 0)) := by rw [← hX]; exact set_blk ((Below.heap_setCell _ _ _ _ (by simp)).trans ((Below.heap_setCell _ _ _ _ (by simp)).trans hy2)) 0 _
  have hbX : Below w.heap.size w X := by rw [← hX]; exact (((hb2.trans (hbl.mono hb2.size)).setCell (Nat.le_refl _) _).setCell (Nat.le_refl _) _).setCell (by simp) _
  have hRd : ∀ A l, Rd w' A l → Rd X A l := by
    intro A l hA
    rw [← hX]
    rcases Nat.eq_zero_or_pos l.length with h0 | h0
    · obtain rfl : l = [] := List.length_eq_zero_iff.1 h0
      exact Rd.nil _ _
    · obtain ⟨b, o, rfl⟩ := hA.head h0
      obtain ⟨b', o', e, hc⟩ := hA.cell 0 h0
      cases e
      have e1 : b ≠ w.heap.size := by
        rintro rfl
        simp only [World.cell?, hy1, Option.isSome_none, Bool.false_eq_true, if_false] at hc
        rcases Nat.lt_or_ge (o + 0) 2 with h | h
        · rcases (show o + 0 = 0 ∨ o + 0 = 1 by omega) with h | h <;> rw [h] at hc <;> simp at hc
        · rw [Array.getElem?_eq_none (by simpa using h)] at hc; cases hc
      have e2 : b ≠ w.heap.size + 1 := by
        rintro rfl
        simp only [World.cell?, hy2, Option.isSome_none, Bool.false_eq_true, if_false] at hc
        rcases Nat.lt_or_ge (o + 0) 1 with h | h
        · rw [show o + 0 = 0 by omega] at hc; simp at hc
        · rw [Array.getElem?_eq_none (by simpa using h)] at hc; cases hc
      exact grw_rd (grownBy_setCell_at _ _ _ _) (grw_rd (grownBy_setCell_at _ _ _ _) (grw_rd (grownBy_setCell_at _ _ _ _) hA (fun b o e => by cases e; exact e1)) (fun b o e => by cases e; exact e1)) (fun b o e => by cases e; exact e2)
  rw [hX]
  refine leaves_cons (f := 65) (args := #[.pointer (some ⟨w.heap.size, 0, none⟩), .pointer (some ⟨w.heap.size + 1, 0, none⟩)]) (by simp) (by simp [go_sem]) ?_
  refine (catch_idle_int ⟨w.heap.size, 0, none⟩ ⟨w.heap.size + 1, 0, none⟩ _).mono ?_
  rintro e u' w'' ⟨rfl, rfl, rfl⟩
  have v0 := cell_at hx1 0 _ rfl
  have v1 := cell_at hx1 1 _ rfl
  have v2 := cell_at hx2 0 _ rfl
  refine ⟨.tuple #[.agg #[.bool s, .slice A n c], .int .i64 0], ?_, s, A, n, c, w', hR, hbX, hRd, rfl⟩
  simp [results, Tryz.results29, go_sem, v0, v1, v2]
set_option maxRecDepth 100000 in
set_option maxHeartbeats 2000000 in
/-- 'try' over a closure that panics with 'wrong' -/
theorem try_int_wrong (G : Nat) (caps : Array Value) (hG : ∀ (args : Array Value) (w : World), (callFunc G args).run Tryz.prog w = .ok (.enter G args) w) (w : World) (W2 : World)
    (hW2 : (w.alloc (.cells #[.bool false, .slice none 0 0] 24)).alloc (.cells #[.int .i64 0] 27) = W2) (c : Int)
    (h : Calls Tryz.prog G caps W2 fun e w' => e = .panicked (wrong c) ∧ Below W2.heap.size W2 w') :
    Calls Tryz.prog 29 #[.func (.func G) #[] caps] w fun e w' =>
      Below w.heap.size w w' ∧ e = .returned (.tuple #[.agg #[.bool false, .slice none 0 0], .int .i64 c]) := by
  have hmf : ∀ (fn : Fn) (first cap : Array Value) (w : World), (Instr.makeFunc fn first cap).run Tryz.prog w = .ok (.func fn first cap) w := fun _ _ _ _ => rfl
  have hz1 : W2.heap[w.heap.size]? = some (.cells #[.bool false, .slice none 0 0] 24 (0, 0)) := by rw [← hW2]; exact (Below.heap_alloc _ _ _ (by simp)).trans (World.alloc_heap_new w _)
  have hz2 : W2.heap[w.heap.size + 1]? = some (.cells #[.int .i64 0] 27 (0, 0)) := by rw [← hW2]; have := World.alloc_heap_new (w.alloc (.cells #[.bool false, .slice none 0 0] 24)) (.cells #[.int .i64 0] 27); rwa [World.size_alloc] at this
  have hsz : W2.heap.size = w.heap.size + 2 := by rw [← hW2]; simp
  have hb2 : Below w.heap.size w W2 := by rw [← hW2]; exact ((Below.refl _ w).alloc (Nat.le_refl _) _).alloc (by simp) _
  have Hsz := Lib.hid hsz
  clear hsz
  go_enter_defers Tryz.func29, Tryz.ntmps29
  go_wp2_with first
    | (refine h.mono ?_; rintro e w' ⟨rfl, hbl⟩)
  have hy1 := (hbl.block w.heap.size (by have := Hsz.out; omega)).trans hz1
  have hy2 := (hbl.block (w.heap.size + 1) (by have := Hsz.out; omega)).trans hz2
  have hbw : Below w.heap.size w w' := hb2.trans (hbl.mono hb2.size)
  refine leaves_cons (f := 65) (args := #[.pointer (some ⟨w.heap.size, 0, none⟩), .pointer (some ⟨w.heap.size + 1, 0, none⟩)]) (by simp) (by simp [go_sem]) ?_
  refine (catch_wrong_int w.heap.size c [] _ _ _ _ hy1 hy2).mono ?_
  rintro e u' w'' ⟨rfl, rfl, hx1, hx2, hbx⟩
  have v0 := cell_at hx1 0 _ rfl
  have v1 := cell_at hx1 1 _ rfl
  have v2 := cell_at hx2 0 _ rfl
  refine ⟨.tuple #[.agg #[.bool false, .slice none 0 0], .int .i64 c], ?_, hbw.trans hbx, rfl⟩
  simp [results, Tryz.results29, go_sem, v0, v1, v2]
end Nm
end Go.Proofs.YtlhmbbpkhahbeaaGreatDoor
namespace Go.Proofs.YtlhmbbpkhahbeaaGreatDoor
namespace Nm
open Go.RowKit Go.Shelf Go.BigFrame
attribute [local go_sem] Oper.semAt_some
/-- a box that holds an Int -/
structure IntBox (w : World) (g : Nat) (neg : Bool) (A : Option Addr) (c : Nat) (l : List Nat) : Prop where
  blk : w.heap[g]? = some (.cells #[.bool neg, .slice A l.length c] 24 (0, 0))
  rd : Rd w A l
  cap : l.length ≤ c
theorem IntBox.on {w W : World} {g : Nat} {neg : Bool} {A : Option Addr} {c : Nat} {l : List Nat} (h : IntBox w g neg A c l) (hb : Below w.heap.size w W) : IntBox W g neg A c l :=
  ⟨(hb.block g (Array.getElem?_eq_some_iff.1 h.blk).1).trans h.blk, h.rd.on hb, h.cap⟩
theorem okI_isInt {neg : Bool} {l : List Nat} (hw : Words l) (h : okI neg l = true) : IsInt neg l := by
  unfold okI at h
  split at h
  · rename_i h0
    obtain rfl : l = [] := List.length_eq_zero_iff.1 h0
    exact ⟨canon_nil, by simp, fun hn => by rw [hn] at h; cases h⟩
  · rename_i h0
    simp only [Bool.and_eq_true, decide_eq_true_eq, bne_iff_ne] at h
    refine ⟨⟨hw, fun hne => ?_⟩, h.1, fun _ e => h0 (by rw [e]; rfl)⟩
    have ht : l.getD (l.length - 1) 0 = l.getLast hne := by rw [List.getLast_eq_getElem, List.getD_eq_getElem?_getD, List.getElem?_eq_getElem (by omega)]; rfl
    rw [← ht]; exact h.2
theorem formed_two (g : Nat) (n1 n2 : Bool) (A1 A2 : Option Addr) (c1 c2 : Nat) (l1 l2 : List Nat) (w : World) (hg : w.heap[g]? = some (.cells #[.bool n1, .slice A1 l1.length c1, .bool n2, .slice A2 l2.length c2] 24 (0, 0)))
    (h1 : Rd w A1 l1) (h2 : Rd w A2 l2) (hc1 : l1.length ≤ c1) (hc2 : l2.length ≤ c2) :
    Calls Tryz.prog 24 #[.slice (some ⟨g, 0, none⟩) 2 2] w fun e w' =>
      ((okI n1 l1 && okI n2 l2) = true → e = .returned (.tuple #[])) ∧ ((okI n1 l1 && okI n2 l2) = false → e = .panicked (wrong 1)) ∧ Below w.heap.size w w' := by
  have := formed_calls g [⟨n1, A1, c1, l1⟩, ⟨n2, A2, c2, l2⟩] w (Array.getElem?_eq_some_iff.1 hg).1 ⟨?_, ?_, ?_⟩ (by simp)
  · simpa [IntArg.ok] using this
  · intro k hk
    match k, hk with
    | 0, _ => exact cell_at hg 0 _ rfl
    | 1, _ => exact cell_at hg 2 _ rfl
  · intro k hk
    match k, hk with
    | 0, _ => exact cell_at hg 1 _ rfl
    | 1, _ => exact cell_at hg 3 _ rfl
  · intro k hk
    match k, hk with
    | 0, _ => exact ⟨h1, hc1⟩
    | 1, _ => exact ⟨h2, hc2⟩
/-- a block that lies as it was laid -/
structure Blk (W : World) (g : Nat) (cur : Array Value) (t : TypeId) : Prop where
  h : W.heap[g]? = some (.cells cur t (0, 0))
theorem Blk.on {w W : World} {g : Nat} {cur : Array Value} {t : TypeId} (h : Blk w g cur t) (hb : Below w.heap.size w W) : Blk W g cur t := ⟨(hb.block g (Array.getElem?_eq_some_iff.1 h.h).1).trans h.h⟩
theorem two_old (w : World) (a b : Obj) : ∀ {cur : Array Value} {t : TypeId}, a = .cells cur t (0, 0) → Blk ((w.alloc a).alloc b) w.heap.size cur t := fun e => ⟨by rw [← e]; exact (Below.heap_alloc _ _ _ (by simp)).trans (World.alloc_heap_new w _)⟩
theorem rd_sets {W : World} {A : Option Addr} {l : List Nat} {g : Nat} {t : TypeId} {s : Bool} {B : Option Addr} {n c : Nat} (h : Rd W A l) (hb : Blk W g #[.bool s, .slice B n c] t) (u v : Value) : Rd ((W.setCell ⟨g, 0, none⟩ u).setCell ⟨g, 1, none⟩ v) A l := by
  rcases Nat.eq_zero_or_pos l.length with h0 | h0
  · obtain rfl : l = [] := List.length_eq_zero_iff.1 h0
    exact Rd.nil _ _
  · obtain ⟨b, o, rfl⟩ := h.head h0
    obtain ⟨b', o', e, hc⟩ := h.cell 0 h0
    cases e
    have e1 : b ≠ g := by
      rintro rfl
      simp only [World.cell?, hb.h, Option.isSome_none, Bool.false_eq_true, if_false] at hc
      rcases Nat.lt_or_ge (o + 0) 2 with h | h
      · rcases (show o + 0 = 0 ∨ o + 0 = 1 by omega) with h | h <;> rw [h] at hc <;> simp at hc
      · rw [Array.getElem?_eq_none (by simpa using h)] at hc; cases hc
    exact grw_rd (grownBy_setCell_at _ _ _ _) (grw_rd (grownBy_setCell_at _ _ _ _) h (fun b o e => by cases e; exact e1)) (fun b o e => by cases e; exact e1)
theorem two_blk (w : World) (a b : Obj) : ((w.alloc a).alloc b).heap[w.heap.size + 1]? = some b := by
  have := World.alloc_heap_new (w.alloc a) b
  rwa [World.size_alloc] at this
end Nm
end Go.Proofs.YtlhmbbpkhahbeaaGreatDoor
namespace Go.Proofs.YtlhmbbpkhahbeaaGreatDoor
namespace Nm
open Go.RowKit Go.Shelf Go.BigFrame
attribute [local go_sem] Oper.semAt_some
/-- the sign and the limbs of a whole number -/
structure IsZ (s : Bool) (l : List Nat) (z : Int) : Prop where
  sgn : s = decide (z < 0)
  abs : l = lim z.natAbs
theorem IsZ.canon {s : Bool} {l : List Nat} {z : Int} (h : IsZ s l z) : Canon l := by rw [h.abs]; exact canon_lim _
theorem IsZ.val {s : Bool} {l : List Nat} {z : Int} (h : IsZ s l z) : val l = z.natAbs := by rw [h.abs, val_lim]
theorem IsZ.toZ {s : Bool} {l : List Nat} {z : Int} (h : IsZ s l z) : toZ s l = z := by
  unfold Nm.toZ
  rw [h.val, h.sgn]
  by_cases hz : z < 0
  · simp [hz]; omega
  · simp [hz]; omega
theorem IsZ.sign {s : Bool} {l : List Nat} {z : Int} (h : IsZ s l z) (hs : s = true) : l ≠ [] := by
  rw [h.sgn, decide_eq_true_eq] at hs
  rw [h.abs]
  intro h0
  rw [lim_nil] at h0
  omega
theorem IsInt.isZ {s : Bool} {l : List Nat} (h : IsInt s l) : IsZ s l (toZ s l) := by
  unfold toZ
  constructor
  · cases s
    · simp <;> omega
    · have := val_pos_of_canon h.canon (h.sign rfl)
      simp <;> omega
  · rw [show (if s = true then -(Nm.val l : Int) else (Nm.val l : Int)).natAbs = Nm.val l from by split <;> omega, lim_val h.canon]
theorem isZ_zero : IsZ false [] 0 := ⟨rfl, by simp [lim_zero]⟩
theorem isZ_nat (n : Nat) : IsZ false (lim n) n := ⟨by simp <;> omega, by simp⟩
theorem isZ_of (s : Bool) (n : Nat) : IsZ (s && n != 0) (lim n) (if s then -(n : Int) else n) := by
  constructor
  · cases s
    · simp <;> omega
    · by_cases h : n = 0
      · subst h; rfl
      · have h1 : (n != 0) = true := by simpa using h
        rw [h1, Bool.true_and, if_pos rfl]
        exact (decide_eq_true (show -(n : Int) < 0 by omega)).symm
  · rw [show (if s = true then -(n : Int) else (n : Int)).natAbs = n from by split <;> omega]
theorem okI_of {s : Bool} {l : List Nat} {z : Int} (h : IsZ s l z) (hl : l.length ≤ 300) : okI s l = true := by
  unfold okI
  by_cases h0 : l.length = 0
  · rw [if_pos h0]
    cases s
    · rfl
    · exact absurd (List.length_eq_zero_iff.1 h0) (h.sign rfl)
  · rw [if_neg h0]
    have hne : l ≠ [] := fun e => h0 (by rw [e]; rfl)
    have ht : l.getD (l.length - 1) 0 = l.getLast hne := by rw [List.getLast_eq_getElem, List.getD_eq_getElem?_getD, List.getElem?_eq_getElem (by omega)]; rfl
    rw [ht]
    simp [hl, h.canon.2 hne]
/-- a result: the number, or the error of one that is too large -/
def fitZ (z : Int) : Int × Int := if (lim z.natAbs).length ≤ 300 then (z, 0) else (0, 3)
/-- an Int that is handed back -/
def RetZ (z : Int) (w : World) (e : Ending) (w' : World) : Prop :=
  ∃ s A c l, e = .returned (iv s A l.length c) ∧ IsZ s l z ∧ l.length ≤ c ∧ Rd w' A l ∧ Below w.heap.size w w'
/-- an Int and an error that are handed back -/
def RetZE (z er : Int) (w : World) (e : Ending) (w' : World) : Prop :=
  ∃ s A c l, e = .returned (.tuple #[iv s A l.length c, .int .i64 er]) ∧ IsZ s l z ∧ l.length ≤ c ∧ Rd w' A l ∧ Below w.heap.size w w'
/-- a closure under 'try' that hands back an Int or panics -/
def PostZE (z er : Int) (w : World) (e : Ending) (w' : World) : Prop :=
  (er = 0 → RetZ z w e w') ∧ (er ≠ 0 → e = .panicked (wrong er) ∧ z = 0 ∧ Below w.heap.size w w')
theorem PostZE.ok {z : Int} {w : World} {e : Ending} {w' : World} (h : RetZ z w e w') : PostZE z 0 w e w' := ⟨fun _ => h, fun h => absurd rfl h⟩
theorem PostZE.no {er : Int} {w : World} {e : Ending} {w' : World} (h : e = .panicked (wrong er) ∧ Below w.heap.size w w') (hn : er ≠ 0) : PostZE 0 er w e w' := ⟨fun h => absurd h hn, fun _ => ⟨h.1, rfl, h.2⟩⟩
theorem RetInt.z {s : Bool} {n : Nat} {z : Int} {w : World} {e : Ending} {w' : World} (h : RetInt s n w e w') (hz : IsZ s (lim n) z) : RetZ z w e w' := by
  obtain ⟨A, c, rfl, h1, h2, h3⟩ := h
  exact ⟨s, A, c, lim n, rfl, hz, h1, h2, h3⟩
theorem try_int (G : Nat) (caps : Array Value) (hG : ∀ (args : Array Value) (w : World), (callFunc G args).run Tryz.prog w = .ok (.enter G args) w) (w : World) (z er : Int)
    (h : Calls Tryz.prog G caps ((w.alloc (.cells #[.bool false, .slice none 0 0] 24)).alloc (.cells #[.int .i64 0] 27)) (PostZE z er ((w.alloc (.cells #[.bool false, .slice none 0 0] 24)).alloc (.cells #[.int .i64 0] 27)))) (hz : er ≠ 0 → z = 0) :
    Calls Tryz.prog 29 #[.func (.func G) #[] caps] w (RetZE z er w) := by
  by_cases h0 : er = 0
  · subst h0
    refine (try_int_ok G caps hG w _ rfl (fun s A n c w1 => ∃ l, n = l.length ∧ IsZ s l z ∧ l.length ≤ c ∧ Rd w1 A l) (h.mono ?_)).mono ?_
    · rintro e w' ⟨h1, -⟩
      obtain ⟨s, A, c, l, rfl, h2, h3, h4, h5⟩ := h1 rfl
      exact ⟨s, A, l.length, c, rfl, ⟨l, rfl, h2, h3, h4⟩, h5⟩
    · rintro e w' ⟨s, A, n, c, w1, ⟨l, rfl, h2, h3, h4⟩, h5, h6, rfl⟩
      exact ⟨s, A, c, l, rfl, h2, h3, h6 _ _ h4, h5⟩
  · obtain rfl := hz h0
    refine (try_int_wrong G caps hG w _ rfl er (h.mono ?_)).mono ?_
    · rintro e w' ⟨-, h1⟩
      obtain ⟨h2, -, h3⟩ := h1 h0
      exact ⟨h2, h3⟩
    · rintro e w' ⟨h1, rfl⟩
      exact ⟨false, none, 0, [], rfl, isZ_zero, Nat.le_refl _, Rd.nil _ _, h1⟩
theorem fit_zero (z : Int) : (fitZ z).2 ≠ 0 → (fitZ z).1 = 0 := by
  unfold fitZ
  split <;> simp
/-- a result in a cell of type Int, and one in a slot -/
theorem ret_cell_tmp {fn : Func} {p u : Tmp} (h : fn.results = #[.cell p 24, .tmp u]) {a : Act} {w : World} {g : Nat} {x y : Value} {R : Ending → World → Prop} (hd0 : a.defers = []) (hp : a.tmps.getD p undef = .pointer (some ⟨g, 0, none⟩))
    (hg : w.heap[g]? = some (.cells #[x, y] 24 (0, 0))) (hR : R (.returned (.tuple #[.agg #[x, y], a.tmps.getD u undef])) w) : bodyPost Tryz.prog fn R .ret a w := by
  refine bodyPost_ret (v := .tuple #[.agg #[x, y], a.tmps.getD u undef]) ?_ hd0 hR
  rw [results_cell_tmp h, hp]
  simp [asAddr, Result.andThen, run_loadVar_row w g 24 24 #[x, y] (0, 0) _ hg Tryz.underlying24 rfl int_size]
end Nm
end Go.Proofs.YtlhmbbpkhahbeaaGreatDoor
namespace Go.Proofs.YtlhmbbpkhahbeaaGreatDoor
namespace Nm
open Go.RowKit Go.Shelf Go.BigFrame
attribute [local go_sem] Oper.semAt_some
set_option maxRecDepth 100000 in
set_option maxHeartbeats 1000000 in
theorem Formed_calls (neg : Bool) (A : Option Addr) (c : Nat) (l : List Nat) (w : World) (hA : Rd w A l) (hc : l.length ≤ c) :
    Calls Tryz.prog 15 #[iv neg A l.length c] w fun e w' => e = .returned (.bool (okI neg l)) ∧ Below w.heap.size w w' := by
  have hs := hA.small
  by_cases h300 : 300 < l.length
  · have hk : okI neg l = false := by unfold okI; rw [if_neg (by omega), show decide (l.length ≤ 300) = false from decide_eq_false (by omega)]; rfl
    rw [hk]
    clear hk
    have h0' : ((l.length : Int) == 0) = false := by rw [beq_eq_false_iff_ne]; omega
    have h3' : decide ((l.length : Int) ≤ 300) = false := decide_eq_false (by omega)
    go_enter Tryz.func15, Tryz.ntmps15
    go_wp2
    go_ret
    exact ⟨rfl, (Below.refl _ _).alloc (Nat.le_refl _) _⟩
  · by_cases h0 : l.length = 0
    · obtain rfl : l = [] := List.length_eq_zero_iff.1 h0
      have hk : okI neg [] = !neg := rfl
      rw [hk]
      clear hk
      cases neg
      all_goals
        go_enter Tryz.func15, Tryz.ntmps15
        go_wp2
        go_ret
        exact ⟨rfl, (Below.refl _ _).alloc (Nat.le_refl _) _⟩
    · obtain ⟨b, o, x, rfl, hcx, hx, hxb⟩ := hA.get (l.length - 1) (by omega)
      have hbl : b < w.heap.size := World.block_lt_of_cell? w _ hcx
      have h0' : ((l.length : Int) == 0) = false := by rw [beq_eq_false_iff_ne]; omega
      have hp : 0 < l.length := by omega
      have hk : okI neg l = (x != 0) := by unfold okI; rw [if_neg h0, hx.out, show decide (l.length ≤ 300) = true from decide_eq_true (by omega)]; rfl
      have h300' : decide ((l.length : Int) ≤ 300) = true := decide_eq_true (by omega)
      rw [hk]
      clear hk h0
      have hx0 : ((x : Int) != 0) = (x != 0) := by rw [Bool.eq_iff_iff]; simp
      go_enter Tryz.func15, Tryz.ntmps15
      go_wp2
      go_ret
      exact ⟨rfl, (Below.refl _ _).alloc (Nat.le_refl _) _⟩
def sameI (n1 : Bool) (l1 : List Nat) (n2 : Bool) (l2 : List Nat) : Bool := n1 == n2 && l1 == l2
theorem two_on {w : World} {A : Option Addr} {l : List Nat} (h : Rd w A l) (a b : Obj) : Rd ((w.alloc a).alloc b) A l := h.on (((Below.refl _ w).alloc (Nat.le_refl _) _).alloc (by simp) _)
set_option maxRecDepth 100000 in
set_option maxHeartbeats 2000000 in
theorem Same_calls (n1 n2 : Bool) (A1 A2 : Option Addr) (c1 c2 : Nat) (l1 l2 : List Nat) (w : World) (h1 : Rd w A1 l1) (h2 : Rd w A2 l2) (_hc1 : l1.length ≤ c1) (hc2 : l2.length ≤ c2) :
    Calls Tryz.prog 8 #[iv n1 A1 l1.length c1, iv n2 A2 l2.length c2] w fun e w' => e = .returned (.bool (sameI n1 l1 n2 l2)) ∧ Below w.heap.size w w' := by
  have hs1 := h1.small
  have hs2 := h2.small
  by_cases hn : n1 = n2
  · by_cases hl : l1.length = l2.length
    · subst hn
      have hne : (n1 != n1) = false := by simp
      rw [← hl]
      have hc2' : l1.length ≤ c2 := by omega
      have H := Lib.hid hl
      have hne0 : ((l1.length : Int) != (l1.length : Int)) = false := by simp
      clear hl hc2 hs2
      have g1 : Rd ((w.alloc (.cells #[.bool n1, .slice A1 l1.length c1] 24)).alloc (.cells #[.bool n1, .slice A2 l1.length c2] 24)) A1 l1 := two_on h1 _ _
      have g2 : Rd ((w.alloc (.cells #[.bool n1, .slice A1 l1.length c1] 24)).alloc (.cells #[.bool n1, .slice A2 l1.length c2] 24)) A2 l2 := two_on h2 _ _
      have b1 : Blk ((w.alloc (.cells #[.bool n1, .slice A1 l1.length c1] 24)).alloc (.cells #[.bool n1, .slice A2 l1.length c2] 24)) w.heap.size #[.bool n1, .slice A1 l1.length c1] 24 := two_old w _ _ rfl
      have b2 : Blk ((w.alloc (.cells #[.bool n1, .slice A1 l1.length c1] 24)).alloc (.cells #[.bool n1, .slice A2 l1.length c2] 24)) (w.heap.size + 1) #[.bool n1, .slice A2 l1.length c2] 24 := ⟨two_blk w _ _⟩
      have hB : ∀ a b, Below w.heap.size w ((w.alloc a).alloc b) := fun a b => ((Below.refl _ w).alloc (Nat.le_refl _) _).alloc (by simp) _
      have hBB := hB (.cells #[.bool n1, .slice A1 l1.length c1] 24) (.cells #[.bool n1, .slice A2 l1.length c2] 24)
      go_enter Tryz.func8, Tryz.ntmps8
      go_wp2
      generalize ((w.alloc (.cells #[.bool n1, .slice A1 l1.length c1] 24)).alloc (.cells #[.bool n1, .slice A2 l1.length c2] 24)) = V at *
      have x0 := cell_at b1.h 1 _ rfl
      have y0 := cell_at b2.h 1 _ rfl
      go_loopw [5] (fun i w' => ∃ k : Nat, k ≤ l1.length ∧ i = .int .i64 (k : Int) ∧ (∃ n, w' = V.drewN n) ∧ Hid (l1.take k = l2.take k)) (fun i _ => l1.length - (intOf i).toNat)
      case atStart => exact ⟨0, Nat.zero_le _, rfl, ⟨0, rfl⟩, rfl⟩
      case round =>
        obtain ⟨k, hk, rfl, ⟨n0, rfl⟩, hd⟩ := hrel
        by_cases h0 : k < l1.length
        · obtain ⟨b1', o1, x, rfl, hcx, hx, hxb⟩ := g1.get k h0
          obtain ⟨b2', o2, y, rfl, hcy, hy, hyb⟩ := g2.get k (by have := H.out; omega)
          have hlt : ((k : Int) < (l1.length : Int)) ↔ True := by rw [iff_true]; omega
          by_cases hxy : x = y
          · subst hxy
            have hne : ((x : Int) != (x : Int)) = false := by simp
            go_wp2
            go_quiet (fail)
            go_wp2
            go_roundw
            case rel =>
              refine ⟨k + 1, by omega, rfl, ⟨_, rfl⟩, ?_⟩
              show _ = _
              have hx' := hx.out
              have hy' := hy.out
              rw [List.getD_eq_getElem?_getD, List.getElem?_eq_getElem (by omega)] at hx'
              rw [List.getD_eq_getElem?_getD, List.getElem?_eq_getElem (by have := H.out; omega)] at hy'
              rw [List.take_succ_eq_append_getElem (by omega), List.take_succ_eq_append_getElem (by have := H.out; omega), hd.out]
              rw [show l1[k] = x by simpa using hx', show l2[k] = x by simpa using hy']
            case measure => simp [intOf]; omega
          · have hne : ((x : Int) != (y : Int)) = true := by rw [bne_iff_ne]; omega
            go_wp2
            go_quiet (fail)
            go_wp2
            go_ret
            have hf : sameI n1 l1 n1 l2 = false := by
              unfold sameI
              rw [Bool.and_eq_false_iff]
              right
              rw [beq_eq_false_iff_ne]
              rintro rfl
              exact hxy (hx.out.symm.trans hy.out)
            rw [hf]
            exact ⟨rfl, below_drewN (below_drewN hBB _) _⟩
        · have hlt : ((k : Int) < (l1.length : Int)) ↔ False := by rw [iff_false]; omega
          go_wp2
          go_ret
          have e : l1 = l2 := by
            have := hd.out
            rwa [List.take_of_length_le (by omega), List.take_of_length_le (by have := H.out; omega)] at this
          have hf : sameI n1 l1 n1 l2 = true := by
            unfold sameI
            rw [e]
            simp
          rw [hf]
          exact ⟨rfl, below_drewN hBB _⟩
    · have hf : sameI n1 l1 n2 l2 = false := by
        unfold sameI
        rw [Bool.and_eq_false_iff]
        right
        rw [beq_eq_false_iff_ne]
        rintro rfl
        exact hl rfl
      rw [hf]
      have hne : ((l1.length : Int) != (l2.length : Int)) = true := by rw [bne_iff_ne]; omega
      subst hn
      have hne' : (n1 != n1) = false := by simp
      clear hl hf
      go_enter Tryz.func8, Tryz.ntmps8
      go_wp2
      go_ret
      exact ⟨rfl, ((Below.refl _ w).alloc (Nat.le_refl _) _).alloc (by simp) _⟩
  · have hf : sameI n1 l1 n2 l2 = false := by
      unfold sameI
      rw [Bool.and_eq_false_iff]
      left
      rw [beq_eq_false_iff_ne]
      exact hn
    rw [hf]
    have hne : (n1 == n2) = false := by rw [beq_eq_false_iff_ne]; exact hn
    clear hn hf
    go_enter Tryz.func8, Tryz.ntmps8
    go_wp2
    go_ret
    exact ⟨rfl, ((Below.refl _ w).alloc (Nat.le_refl _) _).alloc (by simp) _⟩
end Nm
end Go.Proofs.YtlhmbbpkhahbeaaGreatDoor
namespace Go
variable {P : Program}
end Go
namespace Go.Proofs.YtlhmbbpkhahbeaaGreatDoor
namespace Nm
open Go.RowKit Go.Shelf Go.BigFrame
attribute [local go_sem] Oper.semAt_some
theorem rd_news' {w : World} {ad : Addr} {l : List Nat} (h : Rd w (some ad) l) : ∀ j u, (wvals l)[j]? = some u → w.cell? (ad.add j) = some u := by
  rcases Nat.eq_zero_or_pos l.length with h0 | h0
  · obtain rfl : l = [] := List.length_eq_zero_iff.1 h0
    intro j u hu
    simp [wvals] at hu
  · obtain ⟨b, o, e⟩ := h.head h0
    cases e
    exact rd_news h
theorem made_fin {neg : Bool} {k : Nat} {l : List Nat} (hk : k ≤ l.length) (ht : trim l = l.take k) : IsZ (neg && decide ((0 : Int) < (k : Int))) (l.take k) (if neg then -(val l : Int) else val l) := by
  have h := isZ_of neg (val l)
  have hl : (lim (val l)).length = k := by
    have : (trim l).length = k := by rw [ht, List.length_take]; omega
    exact this
  have e : (val l != 0) = decide ((0 : Int) < (k : Int)) := by
    rcases Nat.eq_zero_or_pos (val l) with h0 | h0
    · rw [h0, lim_zero] at hl
      rw [h0, ← hl]
      rfl
    · have := lim_length_pos h0
      rw [show (val l != 0) = true by simp; omega]
      exact (decide_eq_true (by omega)).symm
  rw [← e, ← ht]
  exact h
set_option maxRecDepth 100000 in
set_option maxHeartbeats 2000000 in
theorem made_calls (neg : Bool) (A : Option Addr) (c : Nat) (l : List Nat) (w : World) (hA : Rd w A l) (hl : l.length ≤ c) :
    Calls Tryz.prog 54 #[.bool neg, .slice A l.length c] w (RetZ (if neg then -(val l : Int) else val l) w) := by
  have hfin := fun k hk ht => made_fin (neg := neg) (k := k) (l := l) hk ht
  generalize (if neg = true then -(val l : Int) else (val l : Int)) = z at *
  have hs := hA.small
  have hb : ∀ o, Below w.heap.size w (w.alloc o) := fun o => (Below.refl _ _).alloc (Nat.le_refl _) _
  obtain ⟨i0, hi, hz0, hz1, hz2⟩ := info_parts info_u32
  have hbt : Tryz.prog.underlying 22 = some (.slice 50) := by kernel_rfl
  obtain ⟨W, hW⟩ : ∃ W, w.alloc (.cells #[.bool false, .slice none 0 0] 24) = W := ⟨_, rfl⟩
  have hrw : Rd W A l := by rw [← hW]; exact hA.on (hb _)
  have hbk : Blk W w.heap.size #[.bool false, .slice none 0 0] 24 := ⟨by rw [← hW]; exact World.alloc_heap_new w _⟩
  have hbw : Below w.heap.size w W := by rw [← hW]; exact hb _
  have hsz : W.heap.size = w.heap.size + 1 := by rw [← hW]; simp
  have hbW : ∀ o, Below W.heap.size W (W.alloc o) := fun o => (Below.refl _ _).alloc (Nat.le_refl _) _
  go_enter Tryz.func54, Tryz.ntmps54
  have Hsz := Lib.hid hsz
  clear hsz
  go_wp2
  clear hW
  go_loop [5] (fun n => ∃ k : Nat, k ≤ l.length ∧ n = .int .i64 k ∧ Hid (∀ i, k ≤ i → l.getD i 0 = 0)) (fun n => (intOf n).toNat)
  case atStart => exact ⟨l.length, Nat.le_refl _, rfl, fun i hi => by rw [List.getD_eq_getElem?_getD, List.getElem?_eq_none (by omega)]; rfl⟩
  case round =>
    obtain ⟨k, hk, rfl, hz⟩ := hrel
    by_cases h0 : 0 < k
    · obtain ⟨b, o, x, rfl, hc, hx, hxb⟩ := hrw.get (k - 1) (by omega)
      by_cases hx0 : x = 0
      · subst hx0
        go_wp2
        go_round
        case rel => 
          refine ⟨k - 1, by omega, by go_num, fun i hi => ?_⟩
          by_cases e : i = k - 1
          · rw [e]; exact hx.out
          · exact hz.out i (by omega)
        case measure => simp [intOf]; omega
      · have hx1 : ((x : Int) == 0) = false := by simp; omega
        have htr := trim_eq_take hrw.words hk hz.out (.inr (by rw [hx.out]; exact hx0))
        have hf := hfin k hk htr
        have hlk : (l.take k).length = k := by rw [List.length_take]; omega
        have hown0 := own_empty (W.alloc (.cells #[] 50)) W.heap.size W.heap.size (World.alloc_heap_new W _) (Nat.le_refl _)
        have hlk0 : ((0 : Int) < (k : Int)) ↔ True := by rw [iff_true]; omega
        have hnw : ∀ j u, (wvals (l.take k))[j]? = some u → (W.alloc (.cells #[] 50)).cell? ((⟨b, o, none⟩ : Addr).add j) = some u := rd_news' ((hrw.take k).on (hbW _))
        have hwt := words_take hrw.words k
        have hwl : (wvals (l.take k)).length = k * 1 := by simp [wvals]; omega
        have Hwl := Lib.hid hwl
        have Hlk := Lib.hid hlk
        have Hf := Lib.hid hf
        rw [decide_eq_true (show (0 : Int) < (k : Int) by omega)] at hf
        clear hwl hlk hx0
        cases neg
        all_goals
          go_wp2_with first
            | (at_builtin; (refine wpList_append_own2 _ rfl _ _ 22 22 rfl W.heap.size 50 50 i0 (.int .u32 0) 1 4 hbt hbt hi hz0 hz1 hz2 rfl (by decide) _ _ _ rfl hown0 ⟨b, o, none⟩ k c (wvals (l.take k)) rfl Hwl.out hnw (wvals_one _) (by unfold maxLen; omega) (by omega) (by simp) ?_); intro v' w4 hown' hg4 _; obtain ⟨A', c', hv', hn', hc', hrd', hab⟩ := own_rd (l := l.take k) hown' hwt (by omega); subst hv'; have hb4 : Below W.heap.size W w4 := (hbW _).grown hg4 (by simp) (fun j e => by cases e; exact Nat.le_refl _); have hq := hbk.on hb4; have x0 := cell_at hq.h 0 _ rfl; have x1 := cell_at hq.h 1 _ rfl; have y0 := frozen_at hq.h 0; have y1 := frozen_at hq.h 1)
          refine ret_cell rfl rfl rfl (set_blk (set_blk hq.h 0 _) 1 _) ⟨_, A', c', l.take k, ?_, hf, ?_, rd_sets hrd' hq _ _, ((hbw.trans (hb4.mono hbw.size)).setCell (Nat.le_refl _) _).setCell (Nat.le_refl _) _⟩
          · rw [Hlk.out]; simp
          · rw [Hlk.out]; omega
    · obtain rfl : k = 0 := by omega
      have hf := hfin 0 hk (trim_eq_take hrw.words hk hz.out (.inl rfl))
      rw [List.take_zero] at hf
      have hx0 : ∀ o, (W.alloc o).cell? ⟨w.heap.size, 0, none⟩ = some (.bool false) := fun o => cell_at (hbk.on (hbW o)).h 0 _ rfl
      have hx1 : ∀ o, (W.alloc o).cell? ⟨w.heap.size, 1, none⟩ = some (.slice none 0 0) := fun o => cell_at (hbk.on (hbW o)).h 1 _ rfl
      have hy0 : ∀ o, (W.alloc o).frozen? ⟨w.heap.size, 0, none⟩ = false := fun o => frozen_at (hbk.on (hbW o)).h 0
      have hy1 : ∀ o, (W.alloc o).frozen? ⟨w.heap.size, 1, none⟩ = false := fun o => frozen_at (hbk.on (hbW o)).h 1
      cases A <;> cases neg
      all_goals
        go_wp2
        refine ret_cell rfl rfl rfl (set_blk (set_blk (hbk.on (hbW _)).h 0 _) 1 _) ⟨_, _, _, [], rfl, hf, Nat.zero_le _, Rd.nil _ _, ((hbw.trans ((hbW _).mono hbw.size)).setCell (Nat.le_refl _) _).setCell (Nat.le_refl _) _⟩
end Nm
end Go.Proofs.YtlhmbbpkhahbeaaGreatDoor
namespace Go.Proofs.YtlhmbbpkhahbeaaGreatDoor
namespace Nm
open Go.RowKit Go.Shelf Go.BigFrame
attribute [local go_sem] Oper.semAt_some
theorem IsZ.of {s : Bool} {l : List Nat} {z z' : Int} (h : IsZ s l z) (e : z = z') : IsZ s l z' := e ▸ h
end Nm
end Go.Proofs.YtlhmbbpkhahbeaaGreatDoor
namespace Go.Proofs.YtlhmbbpkhahbeaaGreatDoor
namespace Nm
open Go.RowKit Go.Shelf Go.BigFrame
attribute [local go_sem] Oper.semAt_some
theorem IsZ.neg {s : Bool} {l : List Nat} {z : Int} (h : IsZ s l z) : IsZ (!s && decide ((0 : Int) < (l.length : Int))) l (-z) := by
  constructor
  · rw [h.sgn]
    by_cases hz : z = 0
    · have : l = [] := by rw [h.abs, hz]; exact lim_zero
      subst this; subst hz; rfl
    · have h1 : 0 < l.length := by rw [h.abs]; exact lim_length_pos (by omega)
      rw [decide_eq_true (show (0 : Int) < (l.length : Int) by omega), Bool.and_true]
      by_cases h2 : z < 0
      · rw [decide_eq_true h2, decide_eq_false (by omega)]; rfl
      · rw [decide_eq_false h2, decide_eq_true (by omega)]; rfl
  · rw [h.abs]; congr 1; omega
set_option maxRecDepth 100000 in
set_option maxHeartbeats 2000000 in
theorem ROf_calls (n : Int) (w : World) (h1 : -9223372036854775808 ≤ n) (h2 : n < 9223372036854775808) :
    Calls Tryz.prog 17 #[.int .i64 n] w (RetZ n w) := by
  obtain ⟨m, hm⟩ : ∃ m : Nat, n.natAbs = m := ⟨_, rfl⟩
  have hm1 : m ≤ 9223372036854775808 := by omega
  have hb2 : ∀ a b, Below w.heap.size w ((w.alloc a).alloc b) := fun a b => ((Below.refl _ w).alloc (Nat.le_refl _) _).alloc (by simp) _
  obtain ⟨z, z1, z2, z3⟩ : ∃ z : Nat, (m : Int) % 4294967296 = (z : Int) ∧ Hid (z = m % 4294967296) ∧ z < 4294967296 := ⟨m % 4294967296, by omega, rfl, by omega⟩
  obtain ⟨q, e1, e2, e3⟩ : ∃ q : Nat, (m : Int) / 4294967296 = (q : Int) ∧ Hid (q = m / 4294967296) ∧ q < 4294967296 := ⟨m / 4294967296, by omega, rfl, by omega⟩
  have hv : val [z, q] = m := by
    have := z2.out; have := e2.out
    show z + 4294967296 * (q + 4294967296 * 0) = m
    omega
  have hwd : Words [z, q] := words_cons.2 ⟨z3, words_cons.2 ⟨e3, words_nil⟩⟩
  have hrd : ∀ o, Rd ((w.alloc o).alloc (.cells #[.int .u32 (z : Int), .int .u32 (q : Int)] 50)) (some ⟨w.heap.size + 1, 0, none⟩) [z, q] := fun o => arr_rd (arr_of (two_blk w o _)) hwd (by simp)
  have hq0 : ∀ o, Blk ((w.alloc (.cells #[.bool false, .slice none 0 0] 24)).alloc o) w.heap.size #[.bool false, .slice none 0 0] 24 := fun o => two_old w _ o rfl
  have hmade : ∀ (s : Bool) W A c, Rd W A [z, q] → 2 ≤ c → Calls Tryz.prog 54 #[.bool s, .slice A 2 c] W (RetZ (if s = true then -(m : Int) else m) W) := fun s W A c h hc => by
    have := made_calls s A c [z, q] W h hc
    rwa [hv] at this
  by_cases hn : n < 0
  · obtain rfl : n = -(m : Int) := by omega
    obtain ⟨u, u1, u2, u3⟩ : ∃ u : Nat, (-(m : Int)) % 18446744073709551616 = (u : Int) ∧ Hid (u + m = 18446744073709551616) ∧ u < 18446744073709551616 := ⟨18446744073709551616 - m, by omega, by show _ = _; omega, by omega⟩
    have u4 : IntKind.u64.wrap (-(m : Int)) = (u : Int) := by rw [IntKind.wrap_u64]; have := u2.out; omega
    have u5 : IntKind.u64.wrap (-(u : Int)) = (m : Int) := by rw [IntKind.wrap_u64]; have := u2.out; omega
    have hdl : decide (-(m : Int) < 0) = true := decide_eq_true hn
    have hdl' : decide ((0 : Int) < (m : Int)) = true := decide_eq_true (by omega)
    have hm0 : 0 < m := by omega
    have hm2 : m < 18446744073709551616 := by omega
    have hmade := hmade true
    simp only [if_true] at hmade
    have Hv := Lib.hid hv
    clear hm hn h1 h2 hv hm1
    go_enter Tryz.func17, Tryz.ntmps17
    go_wp2_with first
      | (go_at_call 54; (refine (hmade _ _ _ (hrd _) (Nat.le_refl _)).mono ?_); rintro e w5 ⟨s5, A5, c5, l5, rfl, k5, n5, r5, b5⟩; have hq5 := (hq0 _).on b5; have x0 := cell_at hq5.h 0 _ rfl; have x1 := cell_at hq5.h 1 _ rfl; have y0 := frozen_at hq5.h 0; have y1 := frozen_at hq5.h 1)
    exact ret_cell rfl rfl rfl (set_blk (set_blk hq5.h 0 _) 1 _) ⟨s5, A5, c5, l5, rfl, k5, n5, rd_sets r5 hq5 _ _, (((hb2 _ _).trans (b5.mono (hb2 _ _).size)).setCell (Nat.le_refl _) _).setCell (Nat.le_refl _) _⟩
  · obtain rfl : n = (m : Int) := by omega
    have hm2 : m < 9223372036854775808 := by omega
    have hdl : decide ((m : Int) < 0) = false := decide_eq_false hn
    have hmade := hmade false
    simp only [Bool.false_eq_true, if_false] at hmade
    have Hv := Lib.hid hv
    clear hm hn h1 h2 hm1 hv
    go_enter Tryz.func17, Tryz.ntmps17
    go_wp2_with first
      | (go_at_call 54; (refine (hmade _ _ _ (hrd _) (Nat.le_refl _)).mono ?_); rintro e w5 ⟨s5, A5, c5, l5, rfl, k5, n5, r5, b5⟩; have hq5 := (hq0 _).on b5; have x0 := cell_at hq5.h 0 _ rfl; have x1 := cell_at hq5.h 1 _ rfl; have y0 := frozen_at hq5.h 0; have y1 := frozen_at hq5.h 1)
    exact ret_cell rfl rfl rfl (set_blk (set_blk hq5.h 0 _) 1 _) ⟨s5, A5, c5, l5, rfl, k5, n5, rd_sets r5 hq5 _ _, (((hb2 _ _).trans (b5.mono (hb2 _ _).size)).setCell (Nat.le_refl _) _).setCell (Nat.le_refl _) _⟩
set_option maxRecDepth 100000 in
set_option maxHeartbeats 2000000 in
theorem Of_calls (n : Int) (w : World) (h1 : -9223372036854775808 ≤ n) (h2 : n < 9223372036854775808) :
    Calls Tryz.prog 21 #[.int .i64 n] w (RetZ n w) := by
  obtain ⟨m, hm⟩ : ∃ m : Nat, n.natAbs = m := ⟨_, rfl⟩
  have hm1 : m ≤ 9223372036854775808 := by omega
  have hb2 : ∀ a b, Below w.heap.size w ((w.alloc a).alloc b) := fun a b => ((Below.refl _ w).alloc (Nat.le_refl _) _).alloc (by simp) _
  obtain ⟨z, z1, z2, z3⟩ : ∃ z : Nat, (m : Int) % 4294967296 = (z : Int) ∧ Hid (z = m % 4294967296) ∧ z < 4294967296 := ⟨m % 4294967296, by omega, rfl, by omega⟩
  obtain ⟨q, e1, e2, e3⟩ : ∃ q : Nat, (m : Int) / 4294967296 = (q : Int) ∧ Hid (q = m / 4294967296) ∧ q < 4294967296 := ⟨m / 4294967296, by omega, rfl, by omega⟩
  have hv : val [z, q] = m := by
    have := z2.out; have := e2.out
    show z + 4294967296 * (q + 4294967296 * 0) = m
    omega
  have hwd : Words [z, q] := words_cons.2 ⟨z3, words_cons.2 ⟨e3, words_nil⟩⟩
  have hrd : ∀ o, Rd ((w.alloc o).alloc (.cells #[.int .u32 (z : Int), .int .u32 (q : Int)] 50)) (some ⟨w.heap.size + 1, 0, none⟩) [z, q] := fun o => arr_rd (arr_of (two_blk w o _)) hwd (by simp)
  have hq0 : ∀ o, Blk ((w.alloc (.cells #[.bool false, .slice none 0 0] 24)).alloc o) w.heap.size #[.bool false, .slice none 0 0] 24 := fun o => two_old w _ o rfl
  have hq1 : ∀ o i, (((w.alloc (.cells #[.bool false, .slice none 0 0] 24)).alloc o)).frozen? ⟨w.heap.size, i, none⟩ = false := fun o i => frozen_at (hq0 o).h i
  have hq2 : ∀ o, (((w.alloc (.cells #[.bool false, .slice none 0 0] 24)).alloc o)).cell? ⟨w.heap.size, 0, none⟩ = some (.bool false) := fun o => cell_at (hq0 o).h 0 _ rfl
  have hq3 : ∀ o, (((w.alloc (.cells #[.bool false, .slice none 0 0] 24)).alloc o)).cell? ⟨w.heap.size, 1, none⟩ = some (.slice none 0 0) := fun o => cell_at (hq0 o).h 1 _ rfl
  have htr : ∀ W A c, Rd W A [z, q] → 2 ≤ c → Calls Tryz.prog 63 #[.slice A 2 c] W fun e w' => e = .returned (.slice A (lim m).length c) ∧ W = w' := fun W A c h hc => by
    have := trim_calls A c [z, q] W h hc
    unfold trim at this
    rwa [hv] at this
  have hlen : (lim m).length ≤ 2 := by have := trim_length_le hwd; unfold trim at this; rwa [hv] at this
  have hrt : ∀ o, Rd ((w.alloc o).alloc (.cells #[.int .u32 (z : Int), .int .u32 (q : Int)] 50)) (some ⟨w.heap.size + 1, 0, none⟩) (lim m) := fun o => by
    have := (hrd o).trim
    unfold trim at this
    rwa [hv] at this
  by_cases hn : n < 0
  · obtain rfl : n = -(m : Int) := by omega
    obtain ⟨u, u1, u2, u3⟩ : ∃ u : Nat, (-(m : Int)) % 18446744073709551616 = (u : Int) ∧ Hid (u + m = 18446744073709551616) ∧ u < 18446744073709551616 := ⟨18446744073709551616 - m, by omega, by show _ = _; omega, by omega⟩
    have u4 : IntKind.u64.wrap (-(m : Int)) = (u : Int) := by rw [IntKind.wrap_u64]; have := u2.out; omega
    have u5 : IntKind.u64.wrap (-(u : Int)) = (m : Int) := by rw [IntKind.wrap_u64]; have := u2.out; omega
    have hdl : decide (-(m : Int) < 0) = true := decide_eq_true hn
    have hdl' : decide ((0 : Int) < (m : Int)) = true := decide_eq_true (by omega)
    have hm0 : 0 < m := by omega
    have hm2 : m < 18446744073709551616 := by omega
    have hz : IsZ true (lim m) (-(m : Int)) := by have := isZ_of true m; rwa [show (true && m != 0) = true by simp; omega, if_pos rfl] at this
    have Hv := Lib.hid hv
    clear hm hn h1 h2 hv hm1
    go_enter Tryz.func21, Tryz.ntmps21
    go_wp2_with first
      | (go_at_call 63; (refine (htr _ _ _ (hrd _) (Nat.le_refl _)).mono ?_); rintro e w5 ⟨rfl, rfl⟩)
    exact ret_cell rfl rfl rfl (two_old w _ _ rfl).h ⟨_, _, _, lim m, rfl, hz, hlen, hrt _, hb2 _ _⟩
  · obtain rfl : n = (m : Int) := by omega
    have hm2 : m < 9223372036854775808 := by omega
    have hdl : decide ((m : Int) < 0) = false := decide_eq_false hn
    have hz : IsZ false (lim m) (m : Int) := isZ_nat m
    have Hv := Lib.hid hv
    clear hm hn h1 h2 hm1 hv
    go_enter Tryz.func21, Tryz.ntmps21
    go_wp2_with first
      | (go_at_call 63; (refine (htr _ _ _ (hrd _) (Nat.le_refl _)).mono ?_); rintro e w5 ⟨rfl, rfl⟩)
    exact ret_cell rfl rfl rfl (two_old w _ _ rfl).h ⟨_, _, _, lim m, rfl, hz, hlen, hrt _, hb2 _ _⟩
/-- what Compare returns -/
def cmpR (n1 : Bool) (l1 : List Nat) (n2 : Bool) (l2 : List Nat) : Int := if (okI n1 l1 && okI n2 l2) = true then cmpZ (toZ n1 l1) (toZ n2 l2) else 0
set_option maxRecDepth 100000 in
set_option maxHeartbeats 2000000 in
theorem Compare_calls (n1 n2 : Bool) (A1 A2 : Option Addr) (c1 c2 : Nat) (l1 l2 : List Nat) (w : World) (h1 : Rd w A1 l1) (h2 : Rd w A2 l2) (hc1 : l1.length ≤ c1) (hc2 : l2.length ≤ c2) :
    Calls Tryz.prog 10 #[iv n1 A1 l1.length c1, iv n2 A2 l2.length c2] w fun e w' => e = .returned (.int .i64 (cmpR n1 l1 n2 l2)) ∧ Below w.heap.size w w' := by
  have f1 := fun W (hW : Below w.heap.size w W) => Check_calls n1 A1 c1 l1 W (h1.on hW) hc1
  have f2 := fun W (hW : Below w.heap.size w W) => Check_calls n2 A2 c2 l2 W (h2.on hW) hc2
  have hb2 : ∀ a b, Below w.heap.size w ((w.alloc a).alloc b) := fun a b => ((Below.refl _ w).alloc (Nat.le_refl _) _).alloc (by simp) _
  have k1 := Blk.mk (two_blk w (.cells #[.bool n1, .slice A1 l1.length c1] 24) (.cells #[.bool n2, .slice A2 l2.length c2] 24))
  have k0 : Blk ((w.alloc (.cells #[.bool n1, .slice A1 l1.length c1] 24)).alloc (.cells #[.bool n2, .slice A2 l2.length c2] 24)) w.heap.size #[.bool n1, .slice A1 l1.length c1] 24 := two_old w _ _ rfl
  have hor : (okI n1 l1 && okI n2 l2) = true → ∀ W, Below w.heap.size w W → Calls Tryz.prog 36 #[iv n1 A1 l1.length c1, iv n2 A2 l2.length c2] W fun e w' => e = .returned (.int .i64 (cmpZ (toZ n1 l1) (toZ n2 l2))) ∧ Below W.heap.size W w' := fun hk W hW => by
    rw [Bool.and_eq_true] at hk
    exact order_calls n1 n2 A1 A2 c1 c2 l1 l2 W (h1.on hW) (h2.on hW) hc1 hc2 (okI_isInt h1.words hk.1) (okI_isInt h2.words hk.2)
  unfold cmpR
  generalize cmpZ (toZ n1 l1) (toZ n2 l2) = cz at *
  generalize okI n1 l1 = b1 at *
  generalize okI n2 l2 = b2 at *
  cases b1 <;> cases b2
  all_goals
    simp only [Bool.false_eq_true, if_false, if_true, Bool.and_true, Bool.and_false] at *
    go_enter Tryz.func10, Tryz.ntmps10
    go_wp2_with first
      | (go_at_call 36; refine (hor trivial _ hbb2).mono ?_; rintro e w5 ⟨rfl, hb''⟩; have hbb3 := hbb2.trans (hb''.mono hbb2.size))
      | (go_at_call 35; have hmark := m1; refine (f2 _ hbb).mono ?_; rintro e w4 ⟨rfl, hb'⟩; have hbb2 := hbb.trans (hb'.mono hbb.size); have x2 := cell_at ((k0.on hb).on hb').h 0 _ rfl; have x3 := cell_at ((k0.on hb).on hb').h 1 _ rfl; have x4 := cell_at ((k1.on hb).on hb').h 0 _ rfl; have x5 := cell_at ((k1.on hb).on hb').h 1 _ rfl)
      | (go_at_call 35; refine (f1 _ (hb2 _ _)).mono ?_; rintro e w3 ⟨rfl, hb⟩; have m1 : True := trivial; have hbb := (hb2 _ _).trans (hb.mono (hb2 _ _).size); have x0 := cell_at (k1.on hb).h 0 _ rfl; have x1 := cell_at (k1.on hb).h 1 _ rfl)
    go_ret
    first | exact ⟨rfl, hbb3⟩ | exact ⟨rfl, hbb2⟩ | exact ⟨rfl, hbb⟩
end Nm
end Go.Proofs.YtlhmbbpkhahbeaaGreatDoor
namespace Go.Proofs.YtlhmbbpkhahbeaaGreatDoor
namespace Nm
open Go.RowKit Go.Shelf Go.BigFrame
attribute [local go_sem] Oper.semAt_some
/-- a contract that says that the call panics: the way back is left open under False -/
theorem calls_panic {P : Program} {f : FuncId} {args : Array Value} {w : World} {c : List PanicEntry} {B : World → Prop} {R : Ending → World → Prop} (h : Calls P f args w fun e w' => e = .panicked c ∧ B w')
    (hp : ∀ w', B w' → R (.panicked c) w') (_ : ∀ v w', False → R (.returned v) w') : Calls P f args w R := h.mono (by rintro e w' ⟨rfl, hb⟩; exact hp _ hb)
end Nm
end Go.Proofs.YtlhmbbpkhahbeaaGreatDoor
namespace Go.Proofs.YtlhmbbpkhahbeaaGreatDoor
namespace Nm
open Go.RowKit Go.Shelf Go.BigFrame
attribute [local go_sem] Oper.semAt_some
theorem Rd.ne {W : World} {A : Option Addr} {l : List Nat} (h : Rd W A l) {g : Nat} {cur : Array Value} {t : TypeId} (hb : W.heap[g]? = some (.cells cur t (0, 0))) (hn : ∀ (i : Nat) (x : Int), cur[i]? = some (.int .u32 x) → False) :
    ∀ b o, A = some ⟨b, o, none⟩ → 0 < l.length → b ≠ g := by
  rintro b o rfl h0 rfl
  obtain ⟨b', o', e, hc⟩ := h.cell 0 h0
  cases e
  simp only [World.cell?, hb, Option.isSome_none, Bool.false_eq_true, if_false] at hc
  exact hn _ _ hc
theorem Rd.setNe {W : World} {A : Option Addr} {l : List Nat} (h : Rd W A l) {g i : Nat} {v : Value} (hne : ∀ b o, A = some ⟨b, o, none⟩ → 0 < l.length → b ≠ g) : Rd (W.setCell ⟨g, i, none⟩ v) A l := by
  rcases Nat.eq_zero_or_pos l.length with h0 | h0
  · obtain rfl : l = [] := List.length_eq_zero_iff.1 h0
    exact Rd.nil _ _
  · obtain ⟨b, o, rfl⟩ := h.head h0
    exact grw_rd (grownBy_setCell_at _ _ _ _) h (fun b o e => hne b o e h0)
theorem catch_idle_div (p q : Addr) (w : World) :
    CallsD Tryz.prog 79 #[.pointer (some p), .pointer (some q)] .returning w fun e u' w' => e = .returned (.tuple #[]) ∧ u' = .returning ∧ w' = w := by
  refine callsD_of_wpS Tryz.func79 rfl fun c₀ cs hu => ?_
  apply wpS_seq
  apply wpS_region
  simp [wpOpsS, go_sem, recoverD, hu, Tryz.ntmps79, Exit.thenS]
  apply wpS_seq
  apply wpS_seq
  apply wpS_region
  simp [wpOpsS, go_sem, Exit.thenS]
  refine wpS_cond (t := true) (by simp [Act.eval, Array.replicate]) ?_
  simp only [if_true]
  refine wpS_of_wp (wp_ret ?_)
  cases c₀
  simp_all [bodyPostS, results, Tryz.results79, Exit.thenS]
set_option maxRecDepth 100000 in
set_option maxHeartbeats 2000000 in
theorem catch_wrong_div (g : Nat) (x : Int) (older : List PanicEntry) (a0 a1 a2 a3 : Value) (c : Value) (w : World) (h1 : w.heap[g]? = some (.cells #[a0, a1, a2, a3] 85 (0, 0))) (h2 : w.heap[g + 1]? = some (.cells #[c] 27 (0, 0))) :
    CallsD Tryz.prog 79 #[.pointer (some ⟨g, 0, none⟩), .pointer (some ⟨g + 1, 0, none⟩)] (.panicking ({ v := .iface 104 (.agg #[.int .i64 x]), recovered := false } :: older)) w fun e u' w' =>
      e = .returned (.tuple #[]) ∧ u' = .panicking ({ v := .iface 104 (.agg #[.int .i64 x]), recovered := true } :: older) ∧
        w'.heap[g]? = some (.cells #[.bool false, .slice none 0 0, .bool false, .slice none 0 0] 85 (0, 0)) ∧ w'.heap[g + 1]? = some (.cells #[.int .i64 x] 27 (0, 0)) ∧ Below g w w' := by
  refine callsD_of_wpS Tryz.func79 rfl fun c₀ cs hu => ?_
  apply wpS_seq
  apply wpS_region
  simp [wpOpsS, go_sem, recoverD, hu, Tryz.ntmps79, Exit.thenS]
  refine wpS_of_wp ?_
  have hta := assert_wrong x
  have x0 := cell_at h1 0 a0 rfl
  have y0 := frozen_at h1 0
  have x1 := cell_at h1 1 a1 rfl
  have y1 := frozen_at h1 1
  have x2 := cell_at h1 2 a2 rfl
  have y2 := frozen_at h1 2
  have x3 := cell_at h1 3 a3 rfl
  have y3 := frozen_at h1 3
  have xe := cell_at h2 0 c rfl
  have ye := frozen_at h2 0
  simp only [Array.replicate_succ, Array.replicate_zero, List.push_toArray, List.nil_append, List.cons_append]
  go_wp2_with fail
  have hl1 := (Array.getElem?_eq_some_iff.1 h1).1
  have hl2 := (Array.getElem?_eq_some_iff.1 h2).1
  obtain ⟨W4, hW4⟩ : ∃ W4, ((w.alloc (.cells #[.int .i64 x] 104)).alloc (.cells #[.bool false, .slice none 0 0, .bool false, .slice none 0 0] 85)) = W4 := ⟨_, rfl⟩
  have hz1 : W4.heap[w.heap.size]? = some (.cells #[.int .i64 x] 104 (0, 0)) := by rw [← hW4]; exact (Below.heap_alloc _ _ _ (by simp)).trans (World.alloc_heap_new w _)
  have hz2 : W4.heap[w.heap.size + 1]? = some (.cells #[.bool false, .slice none 0 0, .bool false, .slice none 0 0] 85 (0, 0)) := by rw [← hW4]; have := World.alloc_heap_new (w.alloc (.cells #[.int .i64 x] 104)) (.cells #[.bool false, .slice none 0 0, .bool false, .slice none 0 0] 85); rwa [World.size_alloc] at this
  have hz3 : W4.heap[g]? = some (.cells #[a0, a1, a2, a3] 85 (0, 0)) := by rw [← hW4]; exact (Below.heap_alloc _ _ _ (by simp; omega)).trans ((Below.heap_alloc _ _ _ hl1).trans h1)
  have hz4 : W4.heap[g + 1]? = some (.cells #[c] 27 (0, 0)) := by rw [← hW4]; exact (Below.heap_alloc _ _ _ (by simp; omega)).trans ((Below.heap_alloc _ _ _ hl2).trans h2)
  have hbl : Below g w W4 := by rw [← hW4]; exact ((Below.refl g w).alloc (by omega) _).alloc (by simp; omega) _
  rw [hW4]
  clear hW4 x0 y0 x1 y1 x2 y2 x3 y3 xe ye h1 h2
  have z0 := cell_at hz1 0 _ rfl
  have zz0 := cell_at hz2 0 _ rfl
  have x0 := cell_at hz3 0 a0 rfl
  have y0 := frozen_at hz3 0
  have zz1 := cell_at hz2 1 _ rfl
  have x1 := cell_at hz3 1 a1 rfl
  have y1 := frozen_at hz3 1
  have zz2 := cell_at hz2 2 _ rfl
  have x2 := cell_at hz3 2 a2 rfl
  have y2 := frozen_at hz3 2
  have zz3 := cell_at hz2 3 _ rfl
  have x3 := cell_at hz3 3 a3 rfl
  have y3 := frozen_at hz3 3
  have xe := cell_at hz4 0 c rfl
  have ye := frozen_at hz4 0
  have n1 : ¬ g = w.heap.size := by omega
  have n2 : ¬ g = w.heap.size + 1 := by omega
  have n3 : ¬ w.heap.size = g := by omega
  have n4 : ¬ w.heap.size + 1 = g := by omega
  have n5 : ¬ g + 1 = w.heap.size := by omega
  have n6 : ¬ g + 1 = w.heap.size + 1 := by omega
  have n7 : ¬ w.heap.size = g + 1 := by omega
  have n8 : ¬ w.heap.size + 1 = g + 1 := by omega
  generalize w.heap.size = bq at *
  go_region
  cases c₀
  simp (config := { zetaDelta := true }) only [bodyPostS, results, Tryz.results79]
  refine ⟨trivial, _, rfl, .tuple #[], by simp [go_sem], rfl, rfl, ?_, ?_, ?_⟩
  · exact (Below.heap_setCell _ _ _ g (by simp)).trans (set_blk (set_blk (set_blk (set_blk (hz3) 0 _) 1 _) 2 _) 3 _)
  · exact set_blk ((Below.heap_setCell _ _ _ (g + 1) (by simp)).trans ((Below.heap_setCell _ _ _ (g + 1) (by simp)).trans ((Below.heap_setCell _ _ _ (g + 1) (by simp)).trans ((Below.heap_setCell _ _ _ (g + 1) (by simp)).trans (hz4))))) 0 _
  · exact below_drew ((((((hbl).setCell (Nat.le_refl _) _).setCell (Nat.le_refl _) _).setCell (Nat.le_refl _) _).setCell (Nat.le_refl _) _).setCell (by simp) _)
set_option maxRecDepth 100000 in
set_option maxHeartbeats 2000000 in
theorem try_div_ok (G : Nat) (caps : Array Value) (hG : ∀ (args : Array Value) (w : World), (callFunc G args).run Tryz.prog w = .ok (.enter G args) w) (w : World) (W2 : World)
    (hW2 : (w.alloc (.cells #[.bool false, .slice none 0 0, .bool false, .slice none 0 0] 85)).alloc (.cells #[.int .i64 0] 27) = W2) (R : Bool → Option Addr → Nat → Nat → Bool → Option Addr → Nat → Nat → World → Prop)
    (h : Calls Tryz.prog G caps W2 fun e w' => ∃ (s1 : Bool) (A1 : Option Addr) (m1 : Nat) (c1 : Nat) (s2 : Bool) (A2 : Option Addr) (m2 : Nat) (c2 : Nat), e = .returned (.agg #[.bool s1, .slice A1 m1 c1, .bool s2, .slice A2 m2 c2]) ∧ R s1 A1 m1 c1 s2 A2 m2 c2 w' ∧ Below W2.heap.size W2 w') :
    Calls Tryz.prog 49 #[.func (.func G) #[] caps] w fun e w' =>
      ∃ (s1 : Bool) (A1 : Option Addr) (m1 : Nat) (c1 : Nat) (s2 : Bool) (A2 : Option Addr) (m2 : Nat) (c2 : Nat) (w1 : World), R s1 A1 m1 c1 s2 A2 m2 c2 w1 ∧ Below w.heap.size w w' ∧ (∀ A l, Rd w1 A l → Rd w' A l) ∧ e = .returned (.tuple #[.agg #[.bool s1, .slice A1 m1 c1, .bool s2, .slice A2 m2 c2], .int .i64 0]) := by
  have hmf : ∀ (fn : Fn) (first cap : Array Value) (w : World), (Instr.makeFunc fn first cap).run Tryz.prog w = .ok (.func fn first cap) w := fun _ _ _ _ => rfl
  have hz1 : W2.heap[w.heap.size]? = some (.cells #[.bool false, .slice none 0 0, .bool false, .slice none 0 0] 85 (0, 0)) := by rw [← hW2]; exact (Below.heap_alloc _ _ _ (by simp)).trans (World.alloc_heap_new w _)
  have hz2 : W2.heap[w.heap.size + 1]? = some (.cells #[.int .i64 0] 27 (0, 0)) := by rw [← hW2]; have := World.alloc_heap_new (w.alloc (.cells #[.bool false, .slice none 0 0, .bool false, .slice none 0 0] 85)) (.cells #[.int .i64 0] 27); rwa [World.size_alloc] at this
  have hsz : W2.heap.size = w.heap.size + 2 := by rw [← hW2]; simp
  have hb2 : Below w.heap.size w W2 := by rw [← hW2]; exact ((Below.refl _ w).alloc (Nat.le_refl _) _).alloc (by simp) _
  have Hsz := Lib.hid hsz
  clear hsz
  go_enter_defers Tryz.func49, Tryz.ntmps49
  go_wp2_with first
    | (refine h.mono ?_; rintro e w' ⟨s1, A1, m1, c1, s2, A2, m2, c2, rfl, hR, hbl⟩; have hy1 := (hbl.block w.heap.size (by have := Hsz.out; omega)).trans hz1; have hy2 := (hbl.block (w.heap.size + 1) (by have := Hsz.out; omega)).trans hz2; have x0 := cell_at hy1 0 _ rfl; have y0 := frozen_at hy1 0; have x1 := cell_at hy1 1 _ rfl; have y1 := frozen_at hy1 1; have x2 := cell_at hy1 2 _ rfl; have y2 := frozen_at hy1 2; have x3 := cell_at hy1 3 _ rfl; have y3 := frozen_at hy1 3; have xe := cell_at hy2 0 _ rfl; have ye := frozen_at hy2 0)
  obtain ⟨X, hX⟩ : ∃ X, (((((w'.setCell ⟨w.heap.size, 0, none⟩ (.bool s1)).setCell ⟨w.heap.size, 1, none⟩ (.slice A1 m1 c1)).setCell ⟨w.heap.size, 2, none⟩ (.bool s2)).setCell ⟨w.heap.size, 3, none⟩ (.slice A2 m2 c2)).setCell ⟨w.heap.size + 1, 0, none⟩ (.int .i64 0)) = X := ⟨_, rfl⟩
  have hx1 : X.heap[w.heap.size]? = some (.cells #[.bool s1, .slice A1 m1 c1, .bool s2, .slice A2 m2 c2] 85 (0, 0)) := by rw [← hX]; exact (Below.heap_setCell _ _ _ _ (by simp)).trans (set_blk (set_blk (set_blk (set_blk (hy1) 0 _) 1 _) 2 _) 3 _)
  have hx2 : X.heap[w.heap.size + 1]? = some (.cells #[.int .i64 0] 27 (0, 0)) := by rw [← hX]; exact set_blk ((Below.heap_setCell _ _ _ _ (by simp)).trans ((Below.heap_setCell _ _ _ _ (by simp)).trans ((Below.heap_setCell _ _ _ _ (by simp)).trans ((Below.heap_setCell _ _ _ _ (by simp)).trans (hy2))))) 0 _
  have hbX : Below w.heap.size w X := by rw [← hX]; exact (((((hb2.trans (hbl.mono hb2.size)).setCell (Nat.le_refl _) _).setCell (Nat.le_refl _) _).setCell (Nat.le_refl _) _).setCell (Nat.le_refl _) _).setCell (by simp) _
  have hRd : ∀ A l, Rd w' A l → Rd X A l := by
    intro A l hA
    rw [← hX]
    have e1 := hA.ne hy1 (by intro i x h; rcases i with _ | _ | _ | _ | i <;> simp at h)
    have e2 := hA.ne hy2 (by intro i x h; rcases i with _ | i <;> simp at h)
    exact (((((hA).setNe e1).setNe e1).setNe e1).setNe e1).setNe e2
  rw [hX]
  refine leaves_cons (f := 79) (args := #[.pointer (some ⟨w.heap.size, 0, none⟩), .pointer (some ⟨w.heap.size + 1, 0, none⟩)]) (by simp) (by simp [go_sem]) ?_
  refine (catch_idle_div ⟨w.heap.size, 0, none⟩ ⟨w.heap.size + 1, 0, none⟩ _).mono ?_
  rintro e u' w'' ⟨rfl, rfl, rfl⟩
  have v0 := cell_at hx1 0 _ rfl
  have v1 := cell_at hx1 1 _ rfl
  have v2 := cell_at hx1 2 _ rfl
  have v3 := cell_at hx1 3 _ rfl
  have ve := cell_at hx2 0 _ rfl
  refine ⟨.tuple #[.agg #[.bool s1, .slice A1 m1 c1, .bool s2, .slice A2 m2 c2], .int .i64 0], ?_, s1, A1, m1, c1, s2, A2, m2, c2, w', hR, hbX, hRd, rfl⟩
  simp [results, Tryz.results49, go_sem, v0, v1, v2, v3, ve]
set_option maxRecDepth 100000 in
set_option maxHeartbeats 2000000 in
theorem try_div_wrong (G : Nat) (caps : Array Value) (hG : ∀ (args : Array Value) (w : World), (callFunc G args).run Tryz.prog w = .ok (.enter G args) w) (w : World) (W2 : World)
    (hW2 : (w.alloc (.cells #[.bool false, .slice none 0 0, .bool false, .slice none 0 0] 85)).alloc (.cells #[.int .i64 0] 27) = W2) (c : Int)
    (h : Calls Tryz.prog G caps W2 fun e w' => e = .panicked (wrong c) ∧ Below W2.heap.size W2 w') :
    Calls Tryz.prog 49 #[.func (.func G) #[] caps] w fun e w' =>
      Below w.heap.size w w' ∧ e = .returned (.tuple #[.agg #[.bool false, .slice none 0 0, .bool false, .slice none 0 0], .int .i64 c]) := by
  have hmf : ∀ (fn : Fn) (first cap : Array Value) (w : World), (Instr.makeFunc fn first cap).run Tryz.prog w = .ok (.func fn first cap) w := fun _ _ _ _ => rfl
  have hz1 : W2.heap[w.heap.size]? = some (.cells #[.bool false, .slice none 0 0, .bool false, .slice none 0 0] 85 (0, 0)) := by rw [← hW2]; exact (Below.heap_alloc _ _ _ (by simp)).trans (World.alloc_heap_new w _)
  have hz2 : W2.heap[w.heap.size + 1]? = some (.cells #[.int .i64 0] 27 (0, 0)) := by rw [← hW2]; have := World.alloc_heap_new (w.alloc (.cells #[.bool false, .slice none 0 0, .bool false, .slice none 0 0] 85)) (.cells #[.int .i64 0] 27); rwa [World.size_alloc] at this
  have hsz : W2.heap.size = w.heap.size + 2 := by rw [← hW2]; simp
  have hb2 : Below w.heap.size w W2 := by rw [← hW2]; exact ((Below.refl _ w).alloc (Nat.le_refl _) _).alloc (by simp) _
  have Hsz := Lib.hid hsz
  clear hsz
  go_enter_defers Tryz.func49, Tryz.ntmps49
  go_wp2_with first
    | (refine h.mono ?_; rintro e w' ⟨rfl, hbl⟩)
  have hy1 := (hbl.block w.heap.size (by have := Hsz.out; omega)).trans hz1
  have hy2 := (hbl.block (w.heap.size + 1) (by have := Hsz.out; omega)).trans hz2
  have hbw : Below w.heap.size w w' := hb2.trans (hbl.mono hb2.size)
  refine leaves_cons (f := 79) (args := #[.pointer (some ⟨w.heap.size, 0, none⟩), .pointer (some ⟨w.heap.size + 1, 0, none⟩)]) (by simp) (by simp [go_sem]) ?_
  refine (catch_wrong_div w.heap.size c [] _ _ _ _ _ _ hy1 hy2).mono ?_
  rintro e u' w'' ⟨rfl, rfl, hx1, hx2, hbx⟩
  have v0 := cell_at hx1 0 _ rfl
  have v1 := cell_at hx1 1 _ rfl
  have v2 := cell_at hx1 2 _ rfl
  have v3 := cell_at hx1 3 _ rfl
  have ve := cell_at hx2 0 _ rfl
  refine ⟨.tuple #[.agg #[.bool false, .slice none 0 0, .bool false, .slice none 0 0], .int .i64 c], ?_, hbw.trans hbx, rfl⟩
  simp [results, Tryz.results49, go_sem, v0, v1, v2, v3, ve]
theorem catch_idle_str (p q : Addr) (w : World) :
    CallsD Tryz.prog 64 #[.pointer (some p), .pointer (some q)] .returning w fun e u' w' => e = .returned (.tuple #[]) ∧ u' = .returning ∧ w' = w := by
  refine callsD_of_wpS Tryz.func64 rfl fun c₀ cs hu => ?_
  apply wpS_seq
  apply wpS_region
  simp [wpOpsS, go_sem, recoverD, hu, Tryz.ntmps64, Exit.thenS]
  apply wpS_seq
  apply wpS_seq
  apply wpS_region
  simp [wpOpsS, go_sem, Exit.thenS]
  refine wpS_cond (t := true) (by simp [Act.eval, Array.replicate]) ?_
  simp only [if_true]
  refine wpS_of_wp (wp_ret ?_)
  cases c₀
  simp_all [bodyPostS, results, Tryz.results64, Exit.thenS]
set_option maxRecDepth 100000 in
set_option maxHeartbeats 2000000 in
theorem catch_wrong_str (g : Nat) (x : Int) (older : List PanicEntry) (a0 : Value) (c : Value) (w : World) (h1 : w.heap[g]? = some (.cells #[a0] 9 (0, 0))) (h2 : w.heap[g + 1]? = some (.cells #[c] 27 (0, 0))) :
    CallsD Tryz.prog 64 #[.pointer (some ⟨g, 0, none⟩), .pointer (some ⟨g + 1, 0, none⟩)] (.panicking ({ v := .iface 104 (.agg #[.int .i64 x]), recovered := false } :: older)) w fun e u' w' =>
      e = .returned (.tuple #[]) ∧ u' = .panicking ({ v := .iface 104 (.agg #[.int .i64 x]), recovered := true } :: older) ∧
        w'.heap[g]? = some (.cells #[.string ⟨#[]⟩] 9 (0, 0)) ∧ w'.heap[g + 1]? = some (.cells #[.int .i64 x] 27 (0, 0)) ∧ Below g w w' := by
  refine callsD_of_wpS Tryz.func64 rfl fun c₀ cs hu => ?_
  apply wpS_seq
  apply wpS_region
  simp [wpOpsS, go_sem, recoverD, hu, Tryz.ntmps64, Exit.thenS]
  refine wpS_of_wp ?_
  have hta := assert_wrong x
  have x0 := cell_at h1 0 a0 rfl
  have y0 := frozen_at h1 0
  have xe := cell_at h2 0 c rfl
  have ye := frozen_at h2 0
  simp only [Array.replicate_succ, Array.replicate_zero, List.push_toArray, List.nil_append, List.cons_append]
  go_wp2_with fail
  have hl1 := (Array.getElem?_eq_some_iff.1 h1).1
  have hl2 := (Array.getElem?_eq_some_iff.1 h2).1
  obtain ⟨W4, hW4⟩ : ∃ W4, (w.alloc (.cells #[.int .i64 x] 104)) = W4 := ⟨_, rfl⟩
  have hz1 : W4.heap[w.heap.size]? = some (.cells #[.int .i64 x] 104 (0, 0)) := by rw [← hW4]; exact World.alloc_heap_new w _
  have hz3 : W4.heap[g]? = some (.cells #[a0] 9 (0, 0)) := by rw [← hW4]; exact (Below.heap_alloc _ _ _ hl1).trans h1
  have hz4 : W4.heap[g + 1]? = some (.cells #[c] 27 (0, 0)) := by rw [← hW4]; exact (Below.heap_alloc _ _ _ hl2).trans h2
  have hbl : Below g w W4 := by rw [← hW4]; exact (Below.refl g w).alloc (by omega) _
  try rw [hW4]
  clear hW4 x0 y0 xe ye h1 h2
  have z0 := cell_at hz1 0 _ rfl
  have x0 := cell_at hz3 0 a0 rfl
  have y0 := frozen_at hz3 0
  have xe := cell_at hz4 0 c rfl
  have ye := frozen_at hz4 0
  have n1 : ¬ g = w.heap.size := by omega
  have n2 : ¬ g = w.heap.size + 1 := by omega
  have n3 : ¬ w.heap.size = g := by omega
  have n4 : ¬ w.heap.size + 1 = g := by omega
  have n5 : ¬ g + 1 = w.heap.size := by omega
  have n6 : ¬ g + 1 = w.heap.size + 1 := by omega
  have n7 : ¬ w.heap.size = g + 1 := by omega
  have n8 : ¬ w.heap.size + 1 = g + 1 := by omega
  generalize w.heap.size = bq at *
  go_region
  cases c₀
  simp (config := { zetaDelta := true }) only [bodyPostS, results, Tryz.results64]
  refine ⟨trivial, _, rfl, .tuple #[], by simp [go_sem], rfl, rfl, ?_, ?_, ?_⟩
  · exact (Below.heap_setCell _ _ _ g (by simp)).trans (set_blk (hz3) 0 _)
  · exact set_blk ((Below.heap_setCell _ _ _ (g + 1) (by simp)).trans (hz4)) 0 _
  · exact below_drew (((hbl).setCell (Nat.le_refl _) _).setCell (by simp) _)
set_option maxRecDepth 100000 in
set_option maxHeartbeats 2000000 in
theorem try_str_ok (G : Nat) (caps : Array Value) (hG : ∀ (args : Array Value) (w : World), (callFunc G args).run Tryz.prog w = .ok (.enter G args) w) (w : World) (W2 : World)
    (hW2 : (w.alloc (.cells #[.string ⟨#[]⟩] 9)).alloc (.cells #[.int .i64 0] 27) = W2) (R : ByteArray → World → Prop)
    (h : Calls Tryz.prog G caps W2 fun e w' => ∃ (s : ByteArray), e = .returned (.string s) ∧ R s w' ∧ Below W2.heap.size W2 w') :
    Calls Tryz.prog 22 #[.func (.func G) #[] caps] w fun e w' =>
      ∃ (s : ByteArray) (w1 : World), R s w1 ∧ Below w.heap.size w w' ∧ (∀ A l, Rd w1 A l → Rd w' A l) ∧ e = .returned (.tuple #[.string s, .int .i64 0]) := by
  have hmf : ∀ (fn : Fn) (first cap : Array Value) (w : World), (Instr.makeFunc fn first cap).run Tryz.prog w = .ok (.func fn first cap) w := fun _ _ _ _ => rfl
  have hz1 : W2.heap[w.heap.size]? = some (.cells #[.string ⟨#[]⟩] 9 (0, 0)) := by rw [← hW2]; exact (Below.heap_alloc _ _ _ (by simp)).trans (World.alloc_heap_new w _)
  have hz2 : W2.heap[w.heap.size + 1]? = some (.cells #[.int .i64 0] 27 (0, 0)) := by rw [← hW2]; have := World.alloc_heap_new (w.alloc (.cells #[.string ⟨#[]⟩] 9)) (.cells #[.int .i64 0] 27); rwa [World.size_alloc] at this
  have hsz : W2.heap.size = w.heap.size + 2 := by rw [← hW2]; simp
  have hb2 : Below w.heap.size w W2 := by rw [← hW2]; exact ((Below.refl _ w).alloc (Nat.le_refl _) _).alloc (by simp) _
  have Hsz := Lib.hid hsz
  clear hsz
  go_enter_defers Tryz.func22, Tryz.ntmps22
  go_wp2_with first
    | (refine h.mono ?_; rintro e w' ⟨s, rfl, hR, hbl⟩; have hy1 := (hbl.block w.heap.size (by have := Hsz.out; omega)).trans hz1; have hy2 := (hbl.block (w.heap.size + 1) (by have := Hsz.out; omega)).trans hz2; have x0 := cell_at hy1 0 _ rfl; have y0 := frozen_at hy1 0; have xe := cell_at hy2 0 _ rfl; have ye := frozen_at hy2 0)
  obtain ⟨X, hX⟩ : ∃ X, ((w'.setCell ⟨w.heap.size, 0, none⟩ (.string s)).setCell ⟨w.heap.size + 1, 0, none⟩ (.int .i64 0)) = X := ⟨_, rfl⟩
  have hx1 : X.heap[w.heap.size]? = some (.cells #[.string s] 9 (0, 0)) := by rw [← hX]; exact (Below.heap_setCell _ _ _ _ (by simp)).trans (set_blk (hy1) 0 _)
  have hx2 : X.heap[w.heap.size + 1]? = some (.cells #[.int .i64 0] 27 (0, 0)) := by rw [← hX]; exact set_blk ((Below.heap_setCell _ _ _ _ (by simp)).trans (hy2)) 0 _
  have hbX : Below w.heap.size w X := by rw [← hX]; exact ((hb2.trans (hbl.mono hb2.size)).setCell (Nat.le_refl _) _).setCell (by simp) _
  have hRd : ∀ A l, Rd w' A l → Rd X A l := by
    intro A l hA
    rw [← hX]
    have e1 := hA.ne hy1 (by intro i x h; rcases i with _ | i <;> simp at h)
    have e2 := hA.ne hy2 (by intro i x h; rcases i with _ | i <;> simp at h)
    exact ((hA).setNe e1).setNe e2
  rw [hX]
  refine leaves_cons (f := 64) (args := #[.pointer (some ⟨w.heap.size, 0, none⟩), .pointer (some ⟨w.heap.size + 1, 0, none⟩)]) (by simp) (by simp [go_sem]) ?_
  refine (catch_idle_str ⟨w.heap.size, 0, none⟩ ⟨w.heap.size + 1, 0, none⟩ _).mono ?_
  rintro e u' w'' ⟨rfl, rfl, rfl⟩
  have v0 := cell_at hx1 0 _ rfl
  have ve := cell_at hx2 0 _ rfl
  refine ⟨.tuple #[.string s, .int .i64 0], ?_, s, w', hR, hbX, hRd, rfl⟩
  simp [results, Tryz.results22, go_sem, v0, ve]
set_option maxRecDepth 100000 in
set_option maxHeartbeats 2000000 in
theorem try_str_wrong (G : Nat) (caps : Array Value) (hG : ∀ (args : Array Value) (w : World), (callFunc G args).run Tryz.prog w = .ok (.enter G args) w) (w : World) (W2 : World)
    (hW2 : (w.alloc (.cells #[.string ⟨#[]⟩] 9)).alloc (.cells #[.int .i64 0] 27) = W2) (c : Int)
    (h : Calls Tryz.prog G caps W2 fun e w' => e = .panicked (wrong c) ∧ Below W2.heap.size W2 w') :
    Calls Tryz.prog 22 #[.func (.func G) #[] caps] w fun e w' =>
      Below w.heap.size w w' ∧ e = .returned (.tuple #[.string ⟨#[]⟩, .int .i64 c]) := by
  have hmf : ∀ (fn : Fn) (first cap : Array Value) (w : World), (Instr.makeFunc fn first cap).run Tryz.prog w = .ok (.func fn first cap) w := fun _ _ _ _ => rfl
  have hz1 : W2.heap[w.heap.size]? = some (.cells #[.string ⟨#[]⟩] 9 (0, 0)) := by rw [← hW2]; exact (Below.heap_alloc _ _ _ (by simp)).trans (World.alloc_heap_new w _)
  have hz2 : W2.heap[w.heap.size + 1]? = some (.cells #[.int .i64 0] 27 (0, 0)) := by rw [← hW2]; have := World.alloc_heap_new (w.alloc (.cells #[.string ⟨#[]⟩] 9)) (.cells #[.int .i64 0] 27); rwa [World.size_alloc] at this
  have hsz : W2.heap.size = w.heap.size + 2 := by rw [← hW2]; simp
  have hb2 : Below w.heap.size w W2 := by rw [← hW2]; exact ((Below.refl _ w).alloc (Nat.le_refl _) _).alloc (by simp) _
  have Hsz := Lib.hid hsz
  clear hsz
  go_enter_defers Tryz.func22, Tryz.ntmps22
  go_wp2_with first
    | (refine h.mono ?_; rintro e w' ⟨rfl, hbl⟩)
  have hy1 := (hbl.block w.heap.size (by have := Hsz.out; omega)).trans hz1
  have hy2 := (hbl.block (w.heap.size + 1) (by have := Hsz.out; omega)).trans hz2
  have hbw : Below w.heap.size w w' := hb2.trans (hbl.mono hb2.size)
  refine leaves_cons (f := 64) (args := #[.pointer (some ⟨w.heap.size, 0, none⟩), .pointer (some ⟨w.heap.size + 1, 0, none⟩)]) (by simp) (by simp [go_sem]) ?_
  refine (catch_wrong_str w.heap.size c [] _ _ _ hy1 hy2).mono ?_
  rintro e u' w'' ⟨rfl, rfl, hx1, hx2, hbx⟩
  have v0 := cell_at hx1 0 _ rfl
  have ve := cell_at hx2 0 _ rfl
  refine ⟨.tuple #[.string ⟨#[]⟩, .int .i64 c], ?_, hbw.trans hbx, rfl⟩
  simp [results, Tryz.results22, go_sem, v0, ve]
end Nm
end Go.Proofs.YtlhmbbpkhahbeaaGreatDoor
namespace Go.Proofs.YtlhmbbpkhahbeaaGreatDoor
namespace Nm
open Go.RowKit Go.Shelf Go.BigFrame
attribute [local go_sem] Oper.semAt_some
theorem heap_drew (W : World) (g : Nat) {o : Option Obj} (h : W.heap[g]? = o) : W.drew.heap[g]? = o := h
theorem set6 {W : World} {B : Nat} {a0 a1 a2 a3 a4 a5 : Value} {t : TypeId} (h : W.heap[B]? = some (.cells #[a0, a1, a2, a3, a4, a5] t (0, 0))) (v0 v1 v2 v3 v4 v5 : Value) :
    ((((((W.setCell ⟨B, 0, none⟩ v0).setCell ⟨B, 1, none⟩ v1).setCell ⟨B, 2, none⟩ v2).setCell ⟨B, 3, none⟩ v3).setCell ⟨B, 4, none⟩ v4).setCell ⟨B, 5, none⟩ v5).heap[B]? = some (.cells #[v0, v1, v2, v3, v4, v5] t (0, 0)) := by
  have h0 : (W.setCell ⟨B, 0, none⟩ v0).heap[B]? = some (.cells #[v0, a1, a2, a3, a4, a5] t (0, 0)) := set_blk h 0 v0
  generalize W.setCell ⟨B, 0, none⟩ v0 = W at *
  have h1 : (W.setCell ⟨B, 1, none⟩ v1).heap[B]? = some (.cells #[v0, v1, a2, a3, a4, a5] t (0, 0)) := set_blk h0 1 v1
  generalize W.setCell ⟨B, 1, none⟩ v1 = W at *
  have h2 : (W.setCell ⟨B, 2, none⟩ v2).heap[B]? = some (.cells #[v0, v1, v2, a3, a4, a5] t (0, 0)) := set_blk h1 2 v2
  generalize W.setCell ⟨B, 2, none⟩ v2 = W at *
  have h3 : (W.setCell ⟨B, 3, none⟩ v3).heap[B]? = some (.cells #[v0, v1, v2, v3, a4, a5] t (0, 0)) := set_blk h2 3 v3
  generalize W.setCell ⟨B, 3, none⟩ v3 = W at *
  have h4 : (W.setCell ⟨B, 4, none⟩ v4).heap[B]? = some (.cells #[v0, v1, v2, v3, v4, a5] t (0, 0)) := set_blk h3 4 v4
  generalize W.setCell ⟨B, 4, none⟩ v4 = W at *
  exact set_blk h4 5 v5
theorem catch_idle_shr (p q : Addr) (w : World) :
    CallsD Tryz.prog 86 #[.pointer (some p), .pointer (some q)] .returning w fun e u' w' => e = .returned (.tuple #[]) ∧ u' = .returning ∧ w' = w := by
  refine callsD_of_wpS Tryz.func86 rfl fun c₀ cs hu => ?_
  apply wpS_seq
  apply wpS_region
  simp [wpOpsS, go_sem, recoverD, hu, Tryz.ntmps86, Exit.thenS]
  apply wpS_seq
  apply wpS_seq
  apply wpS_region
  simp [wpOpsS, go_sem, Exit.thenS]
  refine wpS_cond (t := true) (by simp [Act.eval, Array.replicate]) ?_
  simp only [if_true]
  refine wpS_of_wp (wp_ret ?_)
  cases c₀
  simp_all [bodyPostS, results, Tryz.results86, Exit.thenS]
set_option maxRecDepth 100000 in
set_option maxHeartbeats 2000000 in
theorem catch_wrong_shr (g : Nat) (x : Int) (older : List PanicEntry) (a0 a1 a2 a3 a4 a5 : Value) (c : Value) (w : World) (h1 : w.heap[g]? = some (.cells #[a0, a1, a2, a3, a4, a5] 96 (0, 0))) (h2 : w.heap[g + 1]? = some (.cells #[c] 27 (0, 0))) :
    CallsD Tryz.prog 86 #[.pointer (some ⟨g, 0, none⟩), .pointer (some ⟨g + 1, 0, none⟩)] (.panicking ({ v := .iface 104 (.agg #[.int .i64 x]), recovered := false } :: older)) w fun e u' w' =>
      e = .returned (.tuple #[]) ∧ u' = .panicking ({ v := .iface 104 (.agg #[.int .i64 x]), recovered := true } :: older) ∧
        w'.heap[g]? = some (.cells #[.bool false, .slice none 0 0, .bool false, .slice none 0 0, .bool false, .slice none 0 0] 96 (0, 0)) ∧ w'.heap[g + 1]? = some (.cells #[.int .i64 x] 27 (0, 0)) ∧ Below g w w' := by
  refine callsD_of_wpS Tryz.func86 rfl fun c₀ cs hu => ?_
  apply wpS_seq
  apply wpS_region
  simp [wpOpsS, go_sem, recoverD, hu, Tryz.ntmps86, Exit.thenS]
  refine wpS_of_wp ?_
  have hta := assert_wrong x
  have x0 := cell_at h1 0 a0 rfl
  have y0 := frozen_at h1 0
  have x1 := cell_at h1 1 a1 rfl
  have y1 := frozen_at h1 1
  have x2 := cell_at h1 2 a2 rfl
  have y2 := frozen_at h1 2
  have x3 := cell_at h1 3 a3 rfl
  have y3 := frozen_at h1 3
  have x4 := cell_at h1 4 a4 rfl
  have y4 := frozen_at h1 4
  have x5 := cell_at h1 5 a5 rfl
  have y5 := frozen_at h1 5
  have xe := cell_at h2 0 c rfl
  have ye := frozen_at h2 0
  simp only [Array.replicate_succ, Array.replicate_zero, List.push_toArray, List.nil_append, List.cons_append]
  go_wp2_with fail
  have hl1 := (Array.getElem?_eq_some_iff.1 h1).1
  have hl2 := (Array.getElem?_eq_some_iff.1 h2).1
  obtain ⟨W4, hW4⟩ : ∃ W4, ((w.alloc (.cells #[.int .i64 x] 104)).alloc (.cells #[.bool false, .slice none 0 0, .bool false, .slice none 0 0, .bool false, .slice none 0 0] 96)) = W4 := ⟨_, rfl⟩
  have hz1 : W4.heap[w.heap.size]? = some (.cells #[.int .i64 x] 104 (0, 0)) := by rw [← hW4]; exact (Below.heap_alloc _ _ _ (by simp)).trans (World.alloc_heap_new w _)
  have hz2 : W4.heap[w.heap.size + 1]? = some (.cells #[.bool false, .slice none 0 0, .bool false, .slice none 0 0, .bool false, .slice none 0 0] 96 (0, 0)) := by rw [← hW4]; have := World.alloc_heap_new (w.alloc (.cells #[.int .i64 x] 104)) (.cells #[.bool false, .slice none 0 0, .bool false, .slice none 0 0, .bool false, .slice none 0 0] 96); rwa [World.size_alloc] at this
  have hz3 : W4.heap[g]? = some (.cells #[a0, a1, a2, a3, a4, a5] 96 (0, 0)) := by rw [← hW4]; exact (Below.heap_alloc _ _ _ (by simp; omega)).trans ((Below.heap_alloc _ _ _ hl1).trans h1)
  have hz4 : W4.heap[g + 1]? = some (.cells #[c] 27 (0, 0)) := by rw [← hW4]; exact (Below.heap_alloc _ _ _ (by simp; omega)).trans ((Below.heap_alloc _ _ _ hl2).trans h2)
  have hbl : Below g w W4 := by rw [← hW4]; exact ((Below.refl g w).alloc (by omega) _).alloc (by simp; omega) _
  rw [hW4]
  clear hW4 x0 y0 x1 y1 x2 y2 x3 y3 x4 y4 x5 y5 xe ye h1 h2
  have z0 := cell_at hz1 0 _ rfl
  have zz0 := cell_at hz2 0 _ rfl
  have x0 := cell_at hz3 0 a0 rfl
  have y0 := frozen_at hz3 0
  have zz1 := cell_at hz2 1 _ rfl
  have x1 := cell_at hz3 1 a1 rfl
  have y1 := frozen_at hz3 1
  have zz2 := cell_at hz2 2 _ rfl
  have x2 := cell_at hz3 2 a2 rfl
  have y2 := frozen_at hz3 2
  have zz3 := cell_at hz2 3 _ rfl
  have x3 := cell_at hz3 3 a3 rfl
  have y3 := frozen_at hz3 3
  have zz4 := cell_at hz2 4 _ rfl
  have x4 := cell_at hz3 4 a4 rfl
  have y4 := frozen_at hz3 4
  have zz5 := cell_at hz2 5 _ rfl
  have x5 := cell_at hz3 5 a5 rfl
  have y5 := frozen_at hz3 5
  have xe := cell_at hz4 0 c rfl
  have ye := frozen_at hz4 0
  have n1 : ¬ g = w.heap.size := by omega
  have n2 : ¬ g = w.heap.size + 1 := by omega
  have n3 : ¬ w.heap.size = g := by omega
  have n4 : ¬ w.heap.size + 1 = g := by omega
  have n5 : ¬ g + 1 = w.heap.size := by omega
  have n6 : ¬ g + 1 = w.heap.size + 1 := by omega
  have n7 : ¬ w.heap.size = g + 1 := by omega
  have n8 : ¬ w.heap.size + 1 = g + 1 := by omega
  generalize w.heap.size = bq at *
  go_region
  cases c₀
  simp (config := { zetaDelta := true }) only [bodyPostS, results, Tryz.results86]
  refine ⟨trivial, _, rfl, .tuple #[], by simp [go_sem], rfl, rfl, ?_, ?_, ?_⟩
  · exact heap_drew _ _ ((Below.heap_setCell _ _ _ g (by simp)).trans (set6 hz3 _ _ _ _ _ _))
  · exact heap_drew _ _ (set_blk ((Below.heap_setCell _ _ _ (g + 1) (by simp)).trans ((Below.heap_setCell _ _ _ (g + 1) (by simp)).trans ((Below.heap_setCell _ _ _ (g + 1) (by simp)).trans ((Below.heap_setCell _ _ _ (g + 1) (by simp)).trans ((Below.heap_setCell _ _ _ (g + 1) (by simp)).trans ((Below.heap_setCell _ _ _ (g + 1) (by simp)).trans (hz4))))))) 0 _)
  · exact below_drew ((((((((hbl).setCell (Nat.le_refl _) _).setCell (Nat.le_refl _) _).setCell (Nat.le_refl _) _).setCell (Nat.le_refl _) _).setCell (Nat.le_refl _) _).setCell (Nat.le_refl _) _).setCell (by simp) _)
set_option maxRecDepth 100000 in
set_option maxHeartbeats 2000000 in
theorem try_shr_ok (G : Nat) (caps : Array Value) (hG : ∀ (args : Array Value) (w : World), (callFunc G args).run Tryz.prog w = .ok (.enter G args) w) (w : World) (W2 : World)
    (hW2 : (w.alloc (.cells #[.bool false, .slice none 0 0, .bool false, .slice none 0 0, .bool false, .slice none 0 0] 96)).alloc (.cells #[.int .i64 0] 27) = W2) (R : Bool → Option Addr → Nat → Nat → Bool → Option Addr → Nat → Nat → Bool → Option Addr → Nat → Nat → World → Prop)
    (h : Calls Tryz.prog G caps W2 fun e w' => ∃ (s1 : Bool) (A1 : Option Addr) (m1 : Nat) (c1 : Nat) (s2 : Bool) (A2 : Option Addr) (m2 : Nat) (c2 : Nat) (s3 : Bool) (A3 : Option Addr) (m3 : Nat) (c3 : Nat), e = .returned (.agg #[.bool s1, .slice A1 m1 c1, .bool s2, .slice A2 m2 c2, .bool s3, .slice A3 m3 c3]) ∧ R s1 A1 m1 c1 s2 A2 m2 c2 s3 A3 m3 c3 w' ∧ Below W2.heap.size W2 w') :
    Calls Tryz.prog 57 #[.func (.func G) #[] caps] w fun e w' =>
      ∃ (s1 : Bool) (A1 : Option Addr) (m1 : Nat) (c1 : Nat) (s2 : Bool) (A2 : Option Addr) (m2 : Nat) (c2 : Nat) (s3 : Bool) (A3 : Option Addr) (m3 : Nat) (c3 : Nat) (w1 : World), R s1 A1 m1 c1 s2 A2 m2 c2 s3 A3 m3 c3 w1 ∧ Below w.heap.size w w' ∧ (∀ A l, Rd w1 A l → Rd w' A l) ∧ e = .returned (.tuple #[.agg #[.bool s1, .slice A1 m1 c1, .bool s2, .slice A2 m2 c2, .bool s3, .slice A3 m3 c3], .int .i64 0]) := by
  have hmf : ∀ (fn : Fn) (first cap : Array Value) (w : World), (Instr.makeFunc fn first cap).run Tryz.prog w = .ok (.func fn first cap) w := fun _ _ _ _ => rfl
  have hz1 : W2.heap[w.heap.size]? = some (.cells #[.bool false, .slice none 0 0, .bool false, .slice none 0 0, .bool false, .slice none 0 0] 96 (0, 0)) := by rw [← hW2]; exact (Below.heap_alloc _ _ _ (by simp)).trans (World.alloc_heap_new w _)
  have hz2 : W2.heap[w.heap.size + 1]? = some (.cells #[.int .i64 0] 27 (0, 0)) := by rw [← hW2]; have := World.alloc_heap_new (w.alloc (.cells #[.bool false, .slice none 0 0, .bool false, .slice none 0 0, .bool false, .slice none 0 0] 96)) (.cells #[.int .i64 0] 27); rwa [World.size_alloc] at this
  have hsz : W2.heap.size = w.heap.size + 2 := by rw [← hW2]; simp
  have hb2 : Below w.heap.size w W2 := by rw [← hW2]; exact ((Below.refl _ w).alloc (Nat.le_refl _) _).alloc (by simp) _
  have Hsz := Lib.hid hsz
  clear hsz
  go_enter_defers Tryz.func57, Tryz.ntmps57
  go_wp2_with first
    | (refine h.mono ?_; rintro e w' ⟨s1, A1, m1, c1, s2, A2, m2, c2, s3, A3, m3, c3, rfl, hR, hbl⟩; have hy1 := (hbl.block w.heap.size (by have := Hsz.out; omega)).trans hz1; have hy2 := (hbl.block (w.heap.size + 1) (by have := Hsz.out; omega)).trans hz2; have x0 := cell_at hy1 0 _ rfl; have y0 := frozen_at hy1 0; have x1 := cell_at hy1 1 _ rfl; have y1 := frozen_at hy1 1; have x2 := cell_at hy1 2 _ rfl; have y2 := frozen_at hy1 2; have x3 := cell_at hy1 3 _ rfl; have y3 := frozen_at hy1 3; have x4 := cell_at hy1 4 _ rfl; have y4 := frozen_at hy1 4; have x5 := cell_at hy1 5 _ rfl; have y5 := frozen_at hy1 5; have xe := cell_at hy2 0 _ rfl; have ye := frozen_at hy2 0)
  obtain ⟨X, hX⟩ : ∃ X, (((((((w'.setCell ⟨w.heap.size, 0, none⟩ (.bool s1)).setCell ⟨w.heap.size, 1, none⟩ (.slice A1 m1 c1)).setCell ⟨w.heap.size, 2, none⟩ (.bool s2)).setCell ⟨w.heap.size, 3, none⟩ (.slice A2 m2 c2)).setCell ⟨w.heap.size, 4, none⟩ (.bool s3)).setCell ⟨w.heap.size, 5, none⟩ (.slice A3 m3 c3)).setCell ⟨w.heap.size + 1, 0, none⟩ (.int .i64 0)) = X := ⟨_, rfl⟩
  have hx1 : X.heap[w.heap.size]? = some (.cells #[.bool s1, .slice A1 m1 c1, .bool s2, .slice A2 m2 c2, .bool s3, .slice A3 m3 c3] 96 (0, 0)) := by rw [← hX]; exact (Below.heap_setCell _ _ _ _ (by simp)).trans (set6 hy1 _ _ _ _ _ _)
  have hx2 : X.heap[w.heap.size + 1]? = some (.cells #[.int .i64 0] 27 (0, 0)) := by rw [← hX]; exact set_blk ((Below.heap_setCell _ _ _ _ (by simp)).trans ((Below.heap_setCell _ _ _ _ (by simp)).trans ((Below.heap_setCell _ _ _ _ (by simp)).trans ((Below.heap_setCell _ _ _ _ (by simp)).trans ((Below.heap_setCell _ _ _ _ (by simp)).trans ((Below.heap_setCell _ _ _ _ (by simp)).trans (hy2))))))) 0 _
  have hbX : Below w.heap.size w X := by rw [← hX]; exact (((((((hb2.trans (hbl.mono hb2.size)).setCell (Nat.le_refl _) _).setCell (Nat.le_refl _) _).setCell (Nat.le_refl _) _).setCell (Nat.le_refl _) _).setCell (Nat.le_refl _) _).setCell (Nat.le_refl _) _).setCell (by simp) _
  have hRd : ∀ A l, Rd w' A l → Rd X A l := by
    intro A l hA
    rw [← hX]
    have e1 := hA.ne hy1 (by intro i x h; rcases i with _ | _ | _ | _ | _ | _ | i <;> simp at h)
    have e2 := hA.ne hy2 (by intro i x h; rcases i with _ | i <;> simp at h)
    exact (((((((hA).setNe e1).setNe e1).setNe e1).setNe e1).setNe e1).setNe e1).setNe e2
  rw [hX]
  refine leaves_cons (f := 86) (args := #[.pointer (some ⟨w.heap.size, 0, none⟩), .pointer (some ⟨w.heap.size + 1, 0, none⟩)]) (by simp) (by simp [go_sem]) ?_
  refine (catch_idle_shr ⟨w.heap.size, 0, none⟩ ⟨w.heap.size + 1, 0, none⟩ _).mono ?_
  rintro e u' w'' ⟨rfl, rfl, rfl⟩
  have v0 := cell_at hx1 0 _ rfl
  have v1 := cell_at hx1 1 _ rfl
  have v2 := cell_at hx1 2 _ rfl
  have v3 := cell_at hx1 3 _ rfl
  have v4 := cell_at hx1 4 _ rfl
  have v5 := cell_at hx1 5 _ rfl
  have ve := cell_at hx2 0 _ rfl
  refine ⟨.tuple #[.agg #[.bool s1, .slice A1 m1 c1, .bool s2, .slice A2 m2 c2, .bool s3, .slice A3 m3 c3], .int .i64 0], ?_, s1, A1, m1, c1, s2, A2, m2, c2, s3, A3, m3, c3, w', hR, hbX, hRd, rfl⟩
  simp [results, Tryz.results57, go_sem, v0, v1, v2, v3, v4, v5, ve]
set_option maxRecDepth 100000 in
set_option maxHeartbeats 2000000 in
theorem try_shr_wrong (G : Nat) (caps : Array Value) (hG : ∀ (args : Array Value) (w : World), (callFunc G args).run Tryz.prog w = .ok (.enter G args) w) (w : World) (W2 : World)
    (hW2 : (w.alloc (.cells #[.bool false, .slice none 0 0, .bool false, .slice none 0 0, .bool false, .slice none 0 0] 96)).alloc (.cells #[.int .i64 0] 27) = W2) (c : Int)
    (h : Calls Tryz.prog G caps W2 fun e w' => e = .panicked (wrong c) ∧ Below W2.heap.size W2 w') :
    Calls Tryz.prog 57 #[.func (.func G) #[] caps] w fun e w' =>
      Below w.heap.size w w' ∧ e = .returned (.tuple #[.agg #[.bool false, .slice none 0 0, .bool false, .slice none 0 0, .bool false, .slice none 0 0], .int .i64 c]) := by
  have hmf : ∀ (fn : Fn) (first cap : Array Value) (w : World), (Instr.makeFunc fn first cap).run Tryz.prog w = .ok (.func fn first cap) w := fun _ _ _ _ => rfl
  have hz1 : W2.heap[w.heap.size]? = some (.cells #[.bool false, .slice none 0 0, .bool false, .slice none 0 0, .bool false, .slice none 0 0] 96 (0, 0)) := by rw [← hW2]; exact (Below.heap_alloc _ _ _ (by simp)).trans (World.alloc_heap_new w _)
  have hz2 : W2.heap[w.heap.size + 1]? = some (.cells #[.int .i64 0] 27 (0, 0)) := by rw [← hW2]; have := World.alloc_heap_new (w.alloc (.cells #[.bool false, .slice none 0 0, .bool false, .slice none 0 0, .bool false, .slice none 0 0] 96)) (.cells #[.int .i64 0] 27); rwa [World.size_alloc] at this
  have hsz : W2.heap.size = w.heap.size + 2 := by rw [← hW2]; simp
  have hb2 : Below w.heap.size w W2 := by rw [← hW2]; exact ((Below.refl _ w).alloc (Nat.le_refl _) _).alloc (by simp) _
  have Hsz := Lib.hid hsz
  clear hsz
  go_enter_defers Tryz.func57, Tryz.ntmps57
  go_wp2_with first
    | (refine h.mono ?_; rintro e w' ⟨rfl, hbl⟩)
  have hy1 := (hbl.block w.heap.size (by have := Hsz.out; omega)).trans hz1
  have hy2 := (hbl.block (w.heap.size + 1) (by have := Hsz.out; omega)).trans hz2
  have hbw : Below w.heap.size w w' := hb2.trans (hbl.mono hb2.size)
  refine leaves_cons (f := 86) (args := #[.pointer (some ⟨w.heap.size, 0, none⟩), .pointer (some ⟨w.heap.size + 1, 0, none⟩)]) (by simp) (by simp [go_sem]) ?_
  refine (catch_wrong_shr w.heap.size c [] _ _ _ _ _ _ _ _ hy1 hy2).mono ?_
  rintro e u' w'' ⟨rfl, rfl, hx1, hx2, hbx⟩
  have v0 := cell_at hx1 0 _ rfl
  have v1 := cell_at hx1 1 _ rfl
  have v2 := cell_at hx1 2 _ rfl
  have v3 := cell_at hx1 3 _ rfl
  have v4 := cell_at hx1 4 _ rfl
  have v5 := cell_at hx1 5 _ rfl
  have ve := cell_at hx2 0 _ rfl
  refine ⟨.tuple #[.agg #[.bool false, .slice none 0 0, .bool false, .slice none 0 0, .bool false, .slice none 0 0], .int .i64 c], ?_, hbw.trans hbx, rfl⟩
  simp [results, Tryz.results57, go_sem, v0, v1, v2, v3, v4, v5, ve]
end Nm
end Go.Proofs.YtlhmbbpkhahbeaaGreatDoor
namespace Go.Proofs.YtlhmbbpkhahbeaaGreatDoor
namespace Nm
open Go.RowKit Go.Shelf Go.BigFrame
attribute [local go_sem] Oper.semAt_some
theorem underl_u32 : Tryz.prog.underlying 22 = some (.slice 50) := by kernel_rfl
end Nm
end Go.Proofs.YtlhmbbpkhahbeaaGreatDoor
namespace Go.Proofs.YtlhmbbpkhahbeaaGreatDoor
namespace Nm
open Go.RowKit Go.Shelf Go.BigFrame
attribute [local go_sem] Oper.semAt_some
/-- the quotient, rounded down, and the rest -/
def divZ (a b : Int) : Int := if 0 < b then a / b else (-a) / (-b)
def modZ (a b : Int) : Int := a - b * divZ a b
theorem neg_ediv_nat (m n : Nat) (hn : 0 < n) : (-(m : Int)) / (n : Int) = if m % n = 0 then -((m / n : Nat) : Int) else -((m / n + 1 : Nat) : Int) := by
  have h := Nat.div_add_mod m n
  have hlt := Nat.mod_lt m hn
  split
  · rename_i h0
    rw [h0, Nat.add_zero] at h
    refine ((Int.ediv_emod_unique (r := 0) (show (0 : Int) < (n : Int) by omega)).2 ⟨?_, Int.le_refl _, by omega⟩).1
    rw [Int.zero_add, Int.mul_neg, ← Int.natCast_mul, h]
  · rename_i h0
    refine ((Int.ediv_emod_unique (r := (n : Int) - ((m % n : Nat) : Int)) (show (0 : Int) < (n : Int) by omega)).2 ⟨?_, by omega, by omega⟩).1
    have h' : (n : Int) * ((m / n : Nat) : Int) + ((m % n : Nat) : Int) = (m : Int) := by rw [← Int.natCast_mul]; exact_mod_cast h
    rw [Int.natCast_add, Int.neg_add, Int.mul_add, Int.mul_neg]
    have e : (n : Int) * -((1 : Nat) : Int) = -(n : Int) := by simp
    rw [e]
    omega
/-- what the program makes of the magnitudes -/
theorem div_same (s : Bool) (m n : Nat) (hn : 0 < n) : divZ (if s then -(m : Int) else m) (if s then -(n : Int) else n) = ((m / n : Nat) : Int) ∧ modZ (if s then -(m : Int) else m) (if s then -(n : Int) else n) = if s then -((m % n : Nat) : Int) else ((m % n : Nat) : Int) := by
  have h := Nat.div_add_mod m n
  have h' : (n : Int) * ((m / n : Nat) : Int) + ((m % n : Nat) : Int) = (m : Int) := by rw [← Int.natCast_mul]; exact_mod_cast h
  have hd : divZ (if s then -(m : Int) else m) (if s then -(n : Int) else n) = ((m / n : Nat) : Int) := by
    unfold divZ
    cases s
    · simp [hn]
    · simp only [if_true]; rw [if_neg (by omega)]; simp
  refine ⟨hd, ?_⟩
  unfold modZ
  rw [hd]
  cases s
  · simp only [Bool.false_eq_true, if_false]; omega
  · simp only [if_true, Int.neg_mul]; omega
theorem div_other (s : Bool) (m n : Nat) (hn : 0 < n) : divZ (if s then -(m : Int) else m) (if !s then -(n : Int) else n) = (if m % n = 0 then -((m / n : Nat) : Int) else -((m / n + 1 : Nat) : Int)) ∧
    modZ (if s then -(m : Int) else m) (if !s then -(n : Int) else n) = if m % n = 0 then 0 else (if !s then -((n - m % n : Nat) : Int) else ((n - m % n : Nat) : Int)) := by
  have h := Nat.div_add_mod m n
  have hlt := Nat.mod_lt m hn
  have h' : (n : Int) * ((m / n : Nat) : Int) + ((m % n : Nat) : Int) = (m : Int) := by rw [← Int.natCast_mul]; exact_mod_cast h
  have hd : divZ (if s then -(m : Int) else m) (if !s then -(n : Int) else n) = (if m % n = 0 then -((m / n : Nat) : Int) else -((m / n + 1 : Nat) : Int)) := by
    rw [← neg_ediv_nat m n hn]
    unfold divZ
    cases s
    · simp only [Bool.false_eq_true, Bool.not_false, if_false, if_true]; rw [if_neg (by omega)]; simp
    · simp [hn]
  refine ⟨hd, ?_⟩
  unfold modZ
  rw [hd]
  have e1 : ∀ x : Int, (n : Int) * -((m / n + 1 : Nat) : Int) = -((n : Int) * ((m / n : Nat) : Int)) - n := fun _ => by
    rw [Int.natCast_add, Int.mul_neg, Int.mul_add]; simp; omega
  by_cases h0 : m % n = 0
  · rw [if_pos h0, if_pos h0]
    cases s
    · simp only [Bool.false_eq_true, if_false, Bool.not_false, if_true, Int.neg_mul_neg]; omega
    · simp only [Bool.false_eq_true, if_false, Bool.not_true, if_true, Int.mul_neg]; omega
  · rw [if_neg h0, if_neg h0]
    cases s
    · simp only [Bool.false_eq_true, if_false, Bool.not_false, if_true, Int.neg_mul, e1 0]; omega
    · simp only [Bool.false_eq_true, if_false, Bool.not_true, if_true, e1 0]; omega
/-- what Div returns -/
def divR (n1 : Bool) (l1 : List Nat) (n2 : Bool) (l2 : List Nat) : Int × Int × Int :=
  if (okI n1 l1 && okI n2 l2) = true then (if l2.length = 0 then (0, 0, 20) else (divZ (toZ n1 l1) (toZ n2 l2), modZ (toZ n1 l1) (toZ n2 l2), 0)) else (0, 0, 1)
/-- two integers that are handed back -/
def RetQR (q r : Int) (w : World) (e : Ending) (w' : World) : Prop :=
  ∃ s1 A1 c1 l1 s2 A2 c2 l2, e = .returned (.agg #[.bool s1, .slice A1 l1.length c1, .bool s2, .slice A2 l2.length c2]) ∧ IsZ s1 l1 q ∧ IsZ s2 l2 r ∧ l1.length ≤ c1 ∧ l2.length ≤ c2 ∧ Rd w' A1 l1 ∧ Rd w' A2 l2 ∧ Below w.heap.size w w'
def PostQR (q r er : Int) (w : World) (e : Ending) (w' : World) : Prop :=
  (er = 0 → RetQR q r w e w') ∧ (er ≠ 0 → e = .panicked (wrong er) ∧ q = 0 ∧ r = 0 ∧ Below w.heap.size w w')
/-- 'whole' of a magnitude with limbs that are few -/
theorem whole_z (s : Bool) (n : Nat) (hn : (lim n).length ≤ 300) (A : Option Addr) (c : Nat) (w : World) (h : Rd w A (lim n)) (hc : (lim n).length ≤ c) :
    Calls Tryz.prog 33 #[.bool s, .slice A (lim n).length c] w (RetZ (if s then -(n : Int) else n) w) :=
  (whole_ok s A c (lim n) w h hc (by rw [val_lim]; exact hn)).mono fun e w' h => by
    rw [val_lim] at h
    exact h.z (isZ_of s n)
theorem add_one (A : Option Addr) (c q q1 g : Nat) (w : World) (e1 : q + 1 = q1) (h : Rd w A (lim q)) (hc : (lim q).length ≤ c) (hq : (lim q).length ≤ 1048576) (hg : Rd w (some ⟨g, 0, none⟩) [1]) :
    Calls Tryz.prog 52 #[.slice A (lim q).length c, .slice (some ⟨g, 0, none⟩) 1 1] w (RetNat q1 w) := by
  subst e1
  have := add_calls A (some ⟨g, 0, none⟩) c 1 (lim q) [1] w h hg hc (Nat.le_refl _) hq (by simp)
  rw [val_lim, show val [1] = 1 from rfl] at this
  exact this
theorem rd_one (w : World) : Rd (w.alloc (.cells #[.int .u32 1] 50)) (some ⟨w.heap.size, 0, none⟩) [1] := arr_rd (arr_new w [1]) (by intro u hu; simp at hu; rw [hu]; decide) (by simp)
theorem divided_size : (Tryz.prog.info? 85).map (·.size) = some 4 := by kernel_rfl
theorem set4 {W : World} {B : Nat} {a0 a1 a2 a3 : Value} {t : TypeId} (h : W.heap[B]? = some (.cells #[a0, a1, a2, a3] t (0, 0))) (v0 v1 v2 v3 : Value) :
    ((((W.setCell ⟨B, 0, none⟩ v0).setCell ⟨B, 1, none⟩ v1).setCell ⟨B, 2, none⟩ v2).setCell ⟨B, 3, none⟩ v3).heap[B]? = some (.cells #[v0, v1, v2, v3] t (0, 0)) := by
  have h0 : (W.setCell ⟨B, 0, none⟩ v0).heap[B]? = some (.cells #[v0, a1, a2, a3] t (0, 0)) := set_blk h 0 v0
  generalize W.setCell ⟨B, 0, none⟩ v0 = W at *
  have h1 : (W.setCell ⟨B, 1, none⟩ v1).heap[B]? = some (.cells #[v0, v1, a2, a3] t (0, 0)) := set_blk h0 1 v1
  generalize W.setCell ⟨B, 1, none⟩ v1 = W at *
  have h2 : (W.setCell ⟨B, 2, none⟩ v2).heap[B]? = some (.cells #[v0, v1, v2, a3] t (0, 0)) := set_blk h1 2 v2
  generalize W.setCell ⟨B, 2, none⟩ v2 = W at *
  exact set_blk h2 3 v3
theorem IsZ.cast {s : Bool} {l : List Nat} {z z' : Int} (h : IsZ s l z) (e : z = z') : IsZ s l z' := e ▸ h
theorem ret_cellS {fn : Func} {p : Tmp} {T : TypeId} {cur : Array Value} {n : Nat} {fs : Array Field} (h : fn.results = #[.cell p T]) (hu : Tryz.prog.underlying T = some (.struct fs)) (hi : (Tryz.prog.info? T).map (·.size) = some n)
    {a : Act} {w : World} {g : Nat} {R : Ending → World → Prop} (hd0 : a.defers = []) (hp : a.tmps.getD p undef = .pointer (some ⟨g, 0, none⟩))
    (hg : w.heap[g]? = some (.cells cur T (0, 0))) (hn : n = cur.size) (hR : R (.returned (.agg cur)) w) : bodyPost Tryz.prog fn R .ret a w :=
  bodyPost_ret (results_cell_row h _ _ g T cur (0, 0) _ hp hg hu rfl (hn ▸ hi)) hd0 hR
set_option maxRecDepth 100000 in
set_option maxHeartbeats 4000000 in
theorem div1_bad (g1 g2 : Nat) (n1 n2 : Bool) (A1 A2 : Option Addr) (c1 c2 : Nat) (l1 l2 : List Nat) (w : World) (h1 : IntBox w g1 n1 A1 c1 l1) (h2 : IntBox w g2 n2 A2 c2 l2) (hbad : (okI n1 l1 && okI n2 l2) = false) :
    Calls Tryz.prog 50 #[.pointer (some ⟨g1, 0, none⟩), .pointer (some ⟨g2, 0, none⟩)] w fun e w' => e = .panicked (wrong 1) ∧ Below w.heap.size w w' := by
  have x0 := cell_at h1.blk 0 _ rfl
  have x1 := cell_at h1.blk 1 _ rfl
  have y0 := cell_at h2.blk 0 _ rfl
  have y1 := cell_at h2.blk 1 _ rfl
  have t1 := (Array.getElem?_eq_some_iff.1 h1.blk).1
  have t2 := (Array.getElem?_eq_some_iff.1 h2.blk).1
  have hsm := h2.rd.small
  have hb2 : ∀ a b, Below w.heap.size w ((w.alloc a).alloc b) := fun a b => ((Below.refl _ w).alloc (Nat.le_refl _) _).alloc (by simp) _
  have hf := fun a => formed_two (w.heap.size + 1) n1 n2 A1 A2 c1 c2 l1 l2 _ (two_blk w a (.cells #[.bool n1, .slice A1 l1.length c1, .bool n2, .slice A2 l2.length c2] 24)) (h1.rd.on (hb2 _ _)) (h2.rd.on (hb2 _ _)) h1.cap h2.cap
  go_enter Tryz.func50, Tryz.ntmps50
  go_wp2_with (go_at_call 24; refine (hf _).mono ?_; rintro e w' ⟨-, hp, hbl⟩; cases hp hbad)
  exact ⟨rfl, rfl, (hb2 _ _).trans (hbl.mono (hb2 _ _).size)⟩
set_option maxRecDepth 100000 in
set_option maxHeartbeats 4000000 in
theorem div1_zero (g1 g2 : Nat) (n1 n2 : Bool) (A1 A2 : Option Addr) (c1 c2 : Nat) (l1 l2 : List Nat) (w : World) (h1 : IntBox w g1 n1 A1 c1 l1) (h2 : IntBox w g2 n2 A2 c2 l2) (hok : (okI n1 l1 && okI n2 l2) = true) (h0 : ¬ 0 < l2.length) :
    Calls Tryz.prog 50 #[.pointer (some ⟨g1, 0, none⟩), .pointer (some ⟨g2, 0, none⟩)] w fun e w' => e = .panicked (wrong 20) ∧ Below w.heap.size w w' := by
  have x0 := cell_at h1.blk 0 _ rfl
  have x1 := cell_at h1.blk 1 _ rfl
  have y0 := cell_at h2.blk 0 _ rfl
  have y1 := cell_at h2.blk 1 _ rfl
  have t1 := (Array.getElem?_eq_some_iff.1 h1.blk).1
  have t2 := (Array.getElem?_eq_some_iff.1 h2.blk).1
  have hsm := h2.rd.small
  have hb2 : ∀ a b, Below w.heap.size w ((w.alloc a).alloc b) := fun a b => ((Below.refl _ w).alloc (Nat.le_refl _) _).alloc (by simp) _
  have hf := fun a => formed_two (w.heap.size + 1) n1 n2 A1 A2 c1 c2 l1 l2 _ (two_blk w a (.cells #[.bool n1, .slice A1 l1.length c1, .bool n2, .slice A2 l2.length c2] 24)) (h1.rd.on (hb2 _ _)) (h2.rd.on (hb2 _ _)) h1.cap h2.cap
  go_enter Tryz.func50, Tryz.ntmps50
  go_wp2_with first
    | (go_at_call 24; refine (hf _).mono ?_; rintro e w' ⟨hp, -, hbl⟩; cases hp hok; have hb3 := (hb2 _ _).trans (hbl.mono (hb2 _ _).size); have p0 := cell_at (h1.on hb3).blk 0 _ rfl; have p1 := cell_at (h1.on hb3).blk 1 _ rfl; have p2 := cell_at (h2.on hb3).blk 0 _ rfl; have p3 := cell_at (h2.on hb3).blk 1 _ rfl)
    | (go_at_call 25; refine (must_no 20 _).mono ?_; rintro e w5 ⟨rfl, rfl⟩)
  exact ⟨rfl, rfl, hb3⟩
set_option maxRecDepth 100000 in
set_option maxHeartbeats 4000000 in
theorem div1_A (g1 g2 : Nat) (n1 n2 : Bool) (A1 A2 : Option Addr) (c1 c2 : Nat) (l1 l2 : List Nat) (w : World) (h1 : IntBox w g1 n1 A1 c1 l1) (h2 : IntBox w g2 n2 A2 c2 l2) (k1 : IsInt n1 l1) (k2 : IsInt n2 l2) (hok : (okI n1 l1 && okI n2 l2) = true) (hp0 : 0 < val l2) (Q R : Nat) (eQ : val l1 / val l2 = Q) (eR : val l1 % val l2 = R) (he : (n1 == n2) = true) (qz rz : Int) (eqz : Hid ((if false = true then -(Q : Int) else (Q : Int)) = qz)) (erz : Hid ((if n2 = true then -(R : Int) else (R : Int)) = rz)) :
    Calls Tryz.prog 50 #[.pointer (some ⟨g1, 0, none⟩), .pointer (some ⟨g2, 0, none⟩)] w (RetQR qz rz w) := by
  have x0 := cell_at h1.blk 0 _ rfl
  have x1 := cell_at h1.blk 1 _ rfl
  have y0 := cell_at h2.blk 0 _ rfl
  have y1 := cell_at h2.blk 1 _ rfl
  have t1 := (Array.getElem?_eq_some_iff.1 h1.blk).1
  have t2 := (Array.getElem?_eq_some_iff.1 h2.blk).1
  have hsm := h2.rd.small
  have hb2 : ∀ a b, Below w.heap.size w ((w.alloc a).alloc b) := fun a b => ((Below.refl _ w).alloc (Nat.le_refl _) _).alloc (by simp) _
  have hf := fun a => formed_two (w.heap.size + 1) n1 n2 A1 A2 c1 c2 l1 l2 _ (two_blk w a (.cells #[.bool n1, .slice A1 l1.length c1, .bool n2, .slice A2 l2.length c2] 24)) (h1.rd.on (hb2 _ _)) (h2.rd.on (hb2 _ _)) h1.cap h2.cap
  have hl2 := val_pos_length hp0
  have hdv := fun W (hW : Below w.heap.size w W) => div_calls A1 A2 c1 c2 l1 l2 W (h1.rd.on hW) (h2.rd.on hW) h1.cap h2.cap k1.canon k2.canon hp0 (by have := k1.small; omega)
  rw [eQ, eR] at hdv
  have hQl : (lim Q).length ≤ 300 := Nat.le_trans (length_mono (by rw [← eQ]; exact Nat.div_le_self _ _)) (by rw [lim_val k1.canon]; exact k1.small)
  have hRl : (lim R).length ≤ 300 := Nat.le_trans (length_mono (show R ≤ val l2 by rw [← eR]; exact Nat.le_of_lt (Nat.mod_lt _ hp0))) (by rw [lim_val k2.canon]; exact k2.small)
  have d1 : ¬ g1 = w.heap.size := by omega
  have d2 : ¬ g2 = w.heap.size := by omega
  have d3 : ¬ w.heap.size = g1 := by omega
  have d4 : ¬ w.heap.size = g2 := by omega
  have hQ2 := hQl
  have hR2 := hRl
  have hqx := two_old w (.cells #[.bool false, .slice none 0 0, .bool false, .slice none 0 0] 85) (.cells #[.bool n1, .slice A1 l1.length c1, .bool n2, .slice A2 l2.length c2] 24) rfl
  clear hp0 eQ eR
  go_enter Tryz.func50, Tryz.ntmps50
  go_wp2_with first
    | (go_at_call 24; refine (hf _).mono ?_; rintro e w' ⟨hp, -, hbl⟩; cases hp hok; have hb3 := (hb2 _ _).trans (hbl.mono (hb2 _ _).size); have p0 := cell_at (h1.on hb3).blk 0 _ rfl; have p1 := cell_at (h1.on hb3).blk 1 _ rfl; have p2 := cell_at (h2.on hb3).blk 0 _ rfl; have p3 := cell_at (h2.on hb3).blk 1 _ rfl)
    | (go_at_call 25; refine (must_ok 20 _).mono ?_; rintro e w4 ⟨rfl, rfl⟩; have hq1 := hqx.on hbl)
    | (go_at_call 51; refine (hdv _ hb3).mono ?_; rintro e w5 ⟨Aq, cq, Ar, cr, rfl, nq, nr, rq, rr, b5⟩; have hb5 := hb3.trans (b5.mono hb3.size); have hq5 := hq1.on b5; have u0 := cell_at (h1.on hb5).blk 0 _ rfl; have u1 := cell_at (h1.on hb5).blk 1 _ rfl; have u2 := cell_at (h2.on hb5).blk 0 _ rfl; have u3 := cell_at (h2.on hb5).blk 1 _ rfl)
  have ncq := nq
  have ncr := nr
  have hwq := fun W (hW : Below w5.heap.size w5 W) => whole_z false Q hQ2 Aq cq W (rq.on hW) ncq
  have hwr := fun W (hW : Below w5.heap.size w5 W) => whole_z n2 R hR2 Ar cr W (rr.on hW) ncr
  have hbb := hb5
  have hqb := hq5
  clear x0 x1 y0 y1
  go_region_held3 (fun w'' => w''.cell? ⟨g1, 0, none⟩ = some (.bool n1) ∧ w''.cell? ⟨g1, 1, none⟩ = some (.slice A1 l1.length c1) ∧ w''.cell? ⟨g2, 0, none⟩ = some (.bool n2) ∧ w''.cell? ⟨g2, 1, none⟩ = some (.slice A2 l2.length c2)) ((first | assumption | go_keep))
    ((first
      | (go_at_call_of 33 (Value.slice Ar (lim R).length cr); have hmark := mq; refine (hwr _ bbq).mono ?_; rintro e wy ⟨sy, Ay, cy, ly, rfl, zy, ny, ry, bY⟩; have bbr := bbq.trans (bY.mono bbq.size); have rx' := rx.on bY; have j0 := cell_at (h1.on (hbb.trans (bbr.mono hbb.size))).blk 0 _ rfl; have j1 := cell_at (h1.on (hbb.trans (bbr.mono hbb.size))).blk 1 _ rfl; have j2 := cell_at (h2.on (hbb.trans (bbr.mono hbb.size))).blk 0 _ rfl; have j3 := cell_at (h2.on (hbb.trans (bbr.mono hbb.size))).blk 1 _ rfl; have hqz := hqb.on bbr; have e0 := cell_at hqz.h 0 _ rfl; have ef0 := frozen_at hqz.h 0; have e1 := cell_at hqz.h 1 _ rfl; have ef1 := frozen_at hqz.h 1; have e2 := cell_at hqz.h 2 _ rfl; have ef2 := frozen_at hqz.h 2; have e3 := cell_at hqz.h 3 _ rfl; have ef3 := frozen_at hqz.h 3)
      | (go_at_call_of 33 (Value.slice Aq (lim Q).length cq); refine (hwq _ (below_drew (Below.refl _ _))).mono ?_; rintro e wx ⟨sx, Ax, cx, lx, rfl, zx, nx, rx, bx⟩; have mq : True := trivial; have bbq := (below_drew (Below.refl _ w5)).trans bx; have i0 := cell_at (h1.on (hbb.trans (bbq.mono hbb.size))).blk 0 _ rfl; have i1 := cell_at (h1.on (hbb.trans (bbq.mono hbb.size))).blk 1 _ rfl; have i2 := cell_at (h2.on (hbb.trans (bbq.mono hbb.size))).blk 0 _ rfl; have i3 := cell_at (h2.on (hbb.trans (bbq.mono hbb.size))).blk 1 _ rfl)))
  all_goals go_wp2_with fail
  · have n1 := rx'.ne hqz.h (by intro i x h; rcases i with _ | _ | _ | _ | i <;> simp at h)
    have n2 := ry.ne hqz.h (by intro i x h; rcases i with _ | _ | _ | _ | i <;> simp at h)
    exact ret_cellS rfl Tryz.underlying85 divided_size rfl rfl (set4 hqz.h _ _ _ _) rfl ⟨sx, Ax, cx, lx, sy, Ay, cy, ly, rfl, zx.cast eqz.out, zy.cast erz.out, nx, ny, (((rx'.setNe n1).setNe n1).setNe n1).setNe n1, (((ry.setNe n2).setNe n2).setNe n2).setNe n2, ((((hbb.trans (bbr.mono hbb.size)).setCell (Nat.le_refl _) _).setCell (Nat.le_refl _) _).setCell (Nat.le_refl _) _).setCell (Nat.le_refl _) _⟩
set_option maxRecDepth 100000 in
set_option maxHeartbeats 4000000 in
theorem div1_B (g1 g2 : Nat) (n1 n2 : Bool) (A1 A2 : Option Addr) (c1 c2 : Nat) (l1 l2 : List Nat) (w : World) (h1 : IntBox w g1 n1 A1 c1 l1) (h2 : IntBox w g2 n2 A2 c2 l2) (k1 : IsInt n1 l1) (k2 : IsInt n2 l2) (hok : (okI n1 l1 && okI n2 l2) = true) (hp0 : 0 < val l2) (Q R : Nat) (eQ : val l1 / val l2 = Q) (eR : val l1 % val l2 = R) (he : (n1 == n2) = false) (h0 : ¬ 0 < (lim R).length) (qz rz : Int) (eqz : Hid ((if true = true then -(Q : Int) else (Q : Int)) = qz)) (erz : Hid ((if n2 = true then -(R : Int) else (R : Int)) = rz)) :
    Calls Tryz.prog 50 #[.pointer (some ⟨g1, 0, none⟩), .pointer (some ⟨g2, 0, none⟩)] w (RetQR qz rz w) := by
  have x0 := cell_at h1.blk 0 _ rfl
  have x1 := cell_at h1.blk 1 _ rfl
  have y0 := cell_at h2.blk 0 _ rfl
  have y1 := cell_at h2.blk 1 _ rfl
  have t1 := (Array.getElem?_eq_some_iff.1 h1.blk).1
  have t2 := (Array.getElem?_eq_some_iff.1 h2.blk).1
  have hsm := h2.rd.small
  have hb2 : ∀ a b, Below w.heap.size w ((w.alloc a).alloc b) := fun a b => ((Below.refl _ w).alloc (Nat.le_refl _) _).alloc (by simp) _
  have hf := fun a => formed_two (w.heap.size + 1) n1 n2 A1 A2 c1 c2 l1 l2 _ (two_blk w a (.cells #[.bool n1, .slice A1 l1.length c1, .bool n2, .slice A2 l2.length c2] 24)) (h1.rd.on (hb2 _ _)) (h2.rd.on (hb2 _ _)) h1.cap h2.cap
  have hl2 := val_pos_length hp0
  have hdv := fun W (hW : Below w.heap.size w W) => div_calls A1 A2 c1 c2 l1 l2 W (h1.rd.on hW) (h2.rd.on hW) h1.cap h2.cap k1.canon k2.canon hp0 (by have := k1.small; omega)
  rw [eQ, eR] at hdv
  have hQl : (lim Q).length ≤ 300 := Nat.le_trans (length_mono (by rw [← eQ]; exact Nat.div_le_self _ _)) (by rw [lim_val k1.canon]; exact k1.small)
  have hRl : (lim R).length ≤ 300 := Nat.le_trans (length_mono (show R ≤ val l2 by rw [← eR]; exact Nat.le_of_lt (Nat.mod_lt _ hp0))) (by rw [lim_val k2.canon]; exact k2.small)
  have d1 : ¬ g1 = w.heap.size := by omega
  have d2 : ¬ g2 = w.heap.size := by omega
  have d3 : ¬ w.heap.size = g1 := by omega
  have d4 : ¬ w.heap.size = g2 := by omega
  have hQ2 := hQl
  have hR2 := hRl
  have hqx := two_old w (.cells #[.bool false, .slice none 0 0, .bool false, .slice none 0 0] 85) (.cells #[.bool n1, .slice A1 l1.length c1, .bool n2, .slice A2 l2.length c2] 24) rfl
  clear hp0 eQ eR
  go_enter Tryz.func50, Tryz.ntmps50
  go_wp2_with first
    | (go_at_call 24; refine (hf _).mono ?_; rintro e w' ⟨hp, -, hbl⟩; cases hp hok; have hb3 := (hb2 _ _).trans (hbl.mono (hb2 _ _).size); have p0 := cell_at (h1.on hb3).blk 0 _ rfl; have p1 := cell_at (h1.on hb3).blk 1 _ rfl; have p2 := cell_at (h2.on hb3).blk 0 _ rfl; have p3 := cell_at (h2.on hb3).blk 1 _ rfl)
    | (go_at_call 25; refine (must_ok 20 _).mono ?_; rintro e w4 ⟨rfl, rfl⟩; have hq1 := hqx.on hbl)
    | (go_at_call 51; refine (hdv _ hb3).mono ?_; rintro e w5 ⟨Aq, cq, Ar, cr, rfl, nq, nr, rq, rr, b5⟩; have hb5 := hb3.trans (b5.mono hb3.size); have hq5 := hq1.on b5; have u0 := cell_at (h1.on hb5).blk 0 _ rfl; have u1 := cell_at (h1.on hb5).blk 1 _ rfl; have u2 := cell_at (h2.on hb5).blk 0 _ rfl; have u3 := cell_at (h2.on hb5).blk 1 _ rfl)
  have ncq := nq
  have ncr := nr
  have hwq := fun W (hW : Below w5.heap.size w5 W) => whole_z true Q hQ2 Aq cq W (rq.on hW) ncq
  have hwr := fun W (hW : Below w5.heap.size w5 W) => whole_z n2 R hR2 Ar cr W (rr.on hW) ncr
  have hbb := hb5
  have hqb := hq5
  clear x0 x1 y0 y1
  go_region_held3 (fun w'' => w''.cell? ⟨g1, 0, none⟩ = some (.bool n1) ∧ w''.cell? ⟨g1, 1, none⟩ = some (.slice A1 l1.length c1) ∧ w''.cell? ⟨g2, 0, none⟩ = some (.bool n2) ∧ w''.cell? ⟨g2, 1, none⟩ = some (.slice A2 l2.length c2)) ((first | assumption | go_keep))
    ((first
      | (go_at_call_of 33 (Value.slice Ar (lim R).length cr); have hmark := mq; refine (hwr _ bbq).mono ?_; rintro e wy ⟨sy, Ay, cy, ly, rfl, zy, ny, ry, bY⟩; have bbr := bbq.trans (bY.mono bbq.size); have rx' := rx.on bY; have j0 := cell_at (h1.on (hbb.trans (bbr.mono hbb.size))).blk 0 _ rfl; have j1 := cell_at (h1.on (hbb.trans (bbr.mono hbb.size))).blk 1 _ rfl; have j2 := cell_at (h2.on (hbb.trans (bbr.mono hbb.size))).blk 0 _ rfl; have j3 := cell_at (h2.on (hbb.trans (bbr.mono hbb.size))).blk 1 _ rfl; have hqz := hqb.on bbr; have e0 := cell_at hqz.h 0 _ rfl; have ef0 := frozen_at hqz.h 0; have e1 := cell_at hqz.h 1 _ rfl; have ef1 := frozen_at hqz.h 1; have e2 := cell_at hqz.h 2 _ rfl; have ef2 := frozen_at hqz.h 2; have e3 := cell_at hqz.h 3 _ rfl; have ef3 := frozen_at hqz.h 3)
      | (go_at_call_of 33 (Value.slice Aq (lim Q).length cq); refine (hwq _ (below_drew (Below.refl _ _))).mono ?_; rintro e wx ⟨sx, Ax, cx, lx, rfl, zx, nx, rx, bx⟩; have mq : True := trivial; have bbq := (below_drew (Below.refl _ w5)).trans bx; have i0 := cell_at (h1.on (hbb.trans (bbq.mono hbb.size))).blk 0 _ rfl; have i1 := cell_at (h1.on (hbb.trans (bbq.mono hbb.size))).blk 1 _ rfl; have i2 := cell_at (h2.on (hbb.trans (bbq.mono hbb.size))).blk 0 _ rfl; have i3 := cell_at (h2.on (hbb.trans (bbq.mono hbb.size))).blk 1 _ rfl)))
  all_goals go_wp2_with fail
  · have n1 := rx'.ne hqz.h (by intro i x h; rcases i with _ | _ | _ | _ | i <;> simp at h)
    have n2 := ry.ne hqz.h (by intro i x h; rcases i with _ | _ | _ | _ | i <;> simp at h)
    exact ret_cellS rfl Tryz.underlying85 divided_size rfl rfl (set4 hqz.h _ _ _ _) rfl ⟨sx, Ax, cx, lx, sy, Ay, cy, ly, rfl, zx.cast eqz.out, zy.cast erz.out, nx, ny, (((rx'.setNe n1).setNe n1).setNe n1).setNe n1, (((ry.setNe n2).setNe n2).setNe n2).setNe n2, ((((hbb.trans (bbr.mono hbb.size)).setCell (Nat.le_refl _) _).setCell (Nat.le_refl _) _).setCell (Nat.le_refl _) _).setCell (Nat.le_refl _) _⟩
set_option maxRecDepth 100000 in
set_option maxHeartbeats 4000000 in
theorem div1_C (g1 g2 : Nat) (n1 n2 : Bool) (A1 A2 : Option Addr) (c1 c2 : Nat) (l1 l2 : List Nat) (w : World) (h1 : IntBox w g1 n1 A1 c1 l1) (h2 : IntBox w g2 n2 A2 c2 l2) (k1 : IsInt n1 l1) (k2 : IsInt n2 l2) (hok : (okI n1 l1 && okI n2 l2) = true) (hp0 : 0 < val l2) (Q R : Nat) (eQ : val l1 / val l2 = Q) (eR : val l1 % val l2 = R) (he : (n1 == n2) = false) (h0 : 0 < (lim R).length) (qz rz : Int) (eqz : Hid ((if true = true then -((Q + 1 : Nat) : Int) else ((Q + 1 : Nat) : Int)) = qz)) (erz : Hid ((if n2 = true then -((val l2 - R : Nat) : Int) else ((val l2 - R : Nat) : Int)) = rz)) :
    Calls Tryz.prog 50 #[.pointer (some ⟨g1, 0, none⟩), .pointer (some ⟨g2, 0, none⟩)] w (RetQR qz rz w) := by
  have x0 := cell_at h1.blk 0 _ rfl
  have x1 := cell_at h1.blk 1 _ rfl
  have y0 := cell_at h2.blk 0 _ rfl
  have y1 := cell_at h2.blk 1 _ rfl
  have t1 := (Array.getElem?_eq_some_iff.1 h1.blk).1
  have t2 := (Array.getElem?_eq_some_iff.1 h2.blk).1
  have hsm := h2.rd.small
  have hb2 : ∀ a b, Below w.heap.size w ((w.alloc a).alloc b) := fun a b => ((Below.refl _ w).alloc (Nat.le_refl _) _).alloc (by simp) _
  have hf := fun a => formed_two (w.heap.size + 1) n1 n2 A1 A2 c1 c2 l1 l2 _ (two_blk w a (.cells #[.bool n1, .slice A1 l1.length c1, .bool n2, .slice A2 l2.length c2] 24)) (h1.rd.on (hb2 _ _)) (h2.rd.on (hb2 _ _)) h1.cap h2.cap
  have hl2 := val_pos_length hp0
  have hdv := fun W (hW : Below w.heap.size w W) => div_calls A1 A2 c1 c2 l1 l2 W (h1.rd.on hW) (h2.rd.on hW) h1.cap h2.cap k1.canon k2.canon hp0 (by have := k1.small; omega)
  rw [eQ, eR] at hdv
  have hQl : (lim Q).length ≤ 300 := Nat.le_trans (length_mono (by rw [← eQ]; exact Nat.div_le_self _ _)) (by rw [lim_val k1.canon]; exact k1.small)
  have hRl : (lim R).length ≤ 300 := Nat.le_trans (length_mono (show R ≤ val l2 by rw [← eR]; exact Nat.le_of_lt (Nat.mod_lt _ hp0))) (by rw [lim_val k2.canon]; exact k2.small)
  have d1 : ¬ g1 = w.heap.size := by omega
  have d2 : ¬ g2 = w.heap.size := by omega
  have d3 : ¬ w.heap.size = g1 := by omega
  have d4 : ¬ w.heap.size = g2 := by omega
  have hR0 : 0 < R := by
    rcases Nat.eq_zero_or_pos R with h | h
    · rw [h, lim_zero] at h0; exact absurd h0 (by simp)
    · exact h
  have hQ2 : (lim (Q + 1)).length ≤ 300 := by
    refine Nat.le_trans (length_mono (show Q + 1 ≤ val l1 from ?_)) (by rw [lim_val k1.canon]; exact k1.small)
    have h1 := Nat.div_add_mod (val l1) (val l2)
    rw [eQ, eR] at h1
    have h2 : R < val l2 := by rw [← eR]; exact Nat.mod_lt _ hp0
    have h3 : Q * 2 ≤ val l2 * Q := by rw [Nat.mul_comm]; exact Nat.mul_le_mul_right _ (by omega)
    omega
  have hRle : R ≤ val l2 := by rw [← eR]; exact Nat.le_of_lt (Nat.mod_lt _ hp0)
  have hR2 : (lim (val l2 - R)).length ≤ 300 := Nat.le_trans (length_mono (show val l2 - R ≤ val l2 by omega)) (by rw [lim_val k2.canon]; exact k2.small)
  have hsub := fun W (hW : Below w.heap.size w W) A c (h : Rd W A (lim R)) (hc : (lim R).length ≤ c) => sub_calls A2 A c2 c l2 (lim R) W (h2.rd.on hW) h h2.cap hc (by rw [val_lim]; exact hRle) (by have := length_mono hRle; rwa [lim_val k2.canon] at this) (by have := k2.small; omega)
  simp only [val_lim] at hsub
  generalize val l2 - R = R2 at *
  obtain ⟨Q1, hQ1⟩ : ∃ Q1, Q + 1 = Q1 := ⟨_, rfl⟩
  rw [hQ1] at hQ2 eqz
  have HQ1 := Lib.hid hQ1
  clear hQ1
  have hqx := two_old w (.cells #[.bool false, .slice none 0 0, .bool false, .slice none 0 0] 85) (.cells #[.bool n1, .slice A1 l1.length c1, .bool n2, .slice A2 l2.length c2] 24) rfl
  clear hp0 eQ eR
  go_enter Tryz.func50, Tryz.ntmps50
  go_wp2_with first
    | (go_at_call 24; refine (hf _).mono ?_; rintro e w' ⟨hp, -, hbl⟩; cases hp hok; have hb3 := (hb2 _ _).trans (hbl.mono (hb2 _ _).size); have p0 := cell_at (h1.on hb3).blk 0 _ rfl; have p1 := cell_at (h1.on hb3).blk 1 _ rfl; have p2 := cell_at (h2.on hb3).blk 0 _ rfl; have p3 := cell_at (h2.on hb3).blk 1 _ rfl)
    | (go_at_call 25; refine (must_ok 20 _).mono ?_; rintro e w4 ⟨rfl, rfl⟩; have hq1 := hqx.on hbl)
    | (go_at_call 51; refine (hdv _ hb3).mono ?_; rintro e w5 ⟨Aq, cq, Ar, cr, rfl, nq, nr, rq, rr, b5⟩; have hb5 := hb3.trans (b5.mono hb3.size); have hq5 := hq1.on b5; have u0 := cell_at (h1.on hb5).blk 0 _ rfl; have u1 := cell_at (h1.on hb5).blk 1 _ rfl; have u2 := cell_at (h2.on hb5).blk 0 _ rfl; have u3 := cell_at (h2.on hb5).blk 1 _ rfl)
    | (go_at_call 52; refine (add_one Aq cq Q Q1 _ _ HQ1.out (rq.on ((Below.refl _ w5).alloc (Nat.le_refl _) _)) nq (by omega) (rd_one w5)).mono ?_; rintro e w6 ⟨Aq6, cq6, rfl, nq6, rq6, b6⟩; have b56 := ((Below.refl _ w5).alloc (Nat.le_refl _) (.cells #[.int .u32 1] 50)).trans (b6.mono (by simp)); have hb6 := hb5.trans (b56.mono hb5.size); have hq6 := hq5.on b56; have v0 := cell_at (h1.on hb6).blk 0 _ rfl; have v1 := cell_at (h1.on hb6).blk 1 _ rfl; have v2 := cell_at (h2.on hb6).blk 0 _ rfl; have v3 := cell_at (h2.on hb6).blk 1 _ rfl)
    | (go_at_call 53; refine (hsub _ hb6 Ar cr (rr.on b56) nr).mono ?_; rintro e w7 ⟨Ar7, cr7, rfl, nr7, rr7, b7⟩; have hb7 := hb6.trans (b7.mono hb6.size); have rq7 := rq6.on b7; have hq7 := hq6.on b7; have m0 := cell_at (h1.on hb7).blk 0 _ rfl; have m1 := cell_at (h1.on hb7).blk 1 _ rfl; have m2 := cell_at (h2.on hb7).blk 0 _ rfl; have m3 := cell_at (h2.on hb7).blk 1 _ rfl)
  have ncq := nq6
  have ncr := nr7
  have hwq := fun W (hW : Below w7.heap.size w7 W) => whole_z true Q1 hQ2 Aq6 cq6 W (rq7.on hW) ncq
  have hwr := fun W (hW : Below w7.heap.size w7 W) => whole_z n2 R2 hR2 Ar7 cr7 W (rr7.on hW) ncr
  have hbb := hb7
  have hqb := hq7
  clear x0 x1 y0 y1
  go_region_held3 (fun w'' => w''.cell? ⟨g1, 0, none⟩ = some (.bool n1) ∧ w''.cell? ⟨g1, 1, none⟩ = some (.slice A1 l1.length c1) ∧ w''.cell? ⟨g2, 0, none⟩ = some (.bool n2) ∧ w''.cell? ⟨g2, 1, none⟩ = some (.slice A2 l2.length c2)) ((first | assumption | go_keep))
    ((first
      | (go_at_call_of 33 (Value.slice Ar7 (lim R2).length cr7); have hmark := mq; refine (hwr _ bbq).mono ?_; rintro e wy ⟨sy, Ay, cy, ly, rfl, zy, ny, ry, bY⟩; have bbr := bbq.trans (bY.mono bbq.size); have rx' := rx.on bY; have j0 := cell_at (h1.on (hbb.trans (bbr.mono hbb.size))).blk 0 _ rfl; have j1 := cell_at (h1.on (hbb.trans (bbr.mono hbb.size))).blk 1 _ rfl; have j2 := cell_at (h2.on (hbb.trans (bbr.mono hbb.size))).blk 0 _ rfl; have j3 := cell_at (h2.on (hbb.trans (bbr.mono hbb.size))).blk 1 _ rfl; have hqz := hqb.on bbr; have e0 := cell_at hqz.h 0 _ rfl; have ef0 := frozen_at hqz.h 0; have e1 := cell_at hqz.h 1 _ rfl; have ef1 := frozen_at hqz.h 1; have e2 := cell_at hqz.h 2 _ rfl; have ef2 := frozen_at hqz.h 2; have e3 := cell_at hqz.h 3 _ rfl; have ef3 := frozen_at hqz.h 3)
      | (go_at_call_of 33 (Value.slice Aq6 (lim Q1).length cq6); refine (hwq _ (below_drew (Below.refl _ _))).mono ?_; rintro e wx ⟨sx, Ax, cx, lx, rfl, zx, nx, rx, bx⟩; have mq : True := trivial; have bbq := (below_drew (Below.refl _ w7)).trans bx; have i0 := cell_at (h1.on (hbb.trans (bbq.mono hbb.size))).blk 0 _ rfl; have i1 := cell_at (h1.on (hbb.trans (bbq.mono hbb.size))).blk 1 _ rfl; have i2 := cell_at (h2.on (hbb.trans (bbq.mono hbb.size))).blk 0 _ rfl; have i3 := cell_at (h2.on (hbb.trans (bbq.mono hbb.size))).blk 1 _ rfl)))
  all_goals go_wp2_with fail
  · have n1 := rx'.ne hqz.h (by intro i x h; rcases i with _ | _ | _ | _ | i <;> simp at h)
    have n2 := ry.ne hqz.h (by intro i x h; rcases i with _ | _ | _ | _ | i <;> simp at h)
    exact ret_cellS rfl Tryz.underlying85 divided_size rfl rfl (set4 hqz.h _ _ _ _) rfl ⟨sx, Ax, cx, lx, sy, Ay, cy, ly, rfl, zx.cast eqz.out, zy.cast erz.out, nx, ny, (((rx'.setNe n1).setNe n1).setNe n1).setNe n1, (((ry.setNe n2).setNe n2).setNe n2).setNe n2, ((((hbb.trans (bbr.mono hbb.size)).setCell (Nat.le_refl _) _).setCell (Nat.le_refl _) _).setCell (Nat.le_refl _) _).setCell (Nat.le_refl _) _⟩
theorem div1_calls (g1 g2 : Nat) (n1 n2 : Bool) (A1 A2 : Option Addr) (c1 c2 : Nat) (l1 l2 : List Nat) (w : World) (h1 : IntBox w g1 n1 A1 c1 l1) (h2 : IntBox w g2 n2 A2 c2 l2) :
    Calls Tryz.prog 50 #[.pointer (some ⟨g1, 0, none⟩), .pointer (some ⟨g2, 0, none⟩)] w (PostQR (divR n1 l1 n2 l2).1 (divR n1 l1 n2 l2).2.1 (divR n1 l1 n2 l2).2.2 w) := by
  unfold divR
  by_cases hok : (okI n1 l1 && okI n2 l2) = true
  · rw [if_pos hok]
    have hok' := hok
    rw [Bool.and_eq_true] at hok'
    have k1 := okI_isInt h1.rd.words hok'.1
    have k2 := okI_isInt h2.rd.words hok'.2
    by_cases h0 : l2.length = 0
    · rw [if_pos h0]
      exact (div1_zero g1 g2 n1 n2 A1 A2 c1 c2 l1 l2 w h1 h2 hok (by omega)).mono fun e w' h => ⟨fun h => absurd h (by decide), fun _ => ⟨h.1, rfl, rfl, h.2⟩⟩
    · rw [if_neg h0]
      have hp : 0 < val l2 := val_pos_of_canon k2.canon (fun e => h0 (by rw [e]; rfl))
      by_cases hn : n1 = n2
      · have hd := div_same n2 (val l1) (val l2) hp
        have e1 : toZ n1 l1 = if n2 then -(val l1 : Int) else val l1 := by rw [hn]; rfl
        have e2 : toZ n2 l2 = if n2 then -(val l2 : Int) else val l2 := rfl
        rw [← e1, ← e2] at hd
        exact (div1_A g1 g2 n1 n2 A1 A2 c1 c2 l1 l2 w h1 h2 k1 k2 hok hp _ _ rfl rfl (by rw [hn]; simp) _ _ hd.1.symm hd.2.symm).mono fun e w' h => ⟨fun _ => h, fun h => absurd rfl h⟩
      · have hn2 : n2 = !n1 := by cases n1 <;> cases n2 <;> simp_all
        have hd := div_other n1 (val l1) (val l2) hp
        have e1 : toZ n1 l1 = if n1 then -(val l1 : Int) else val l1 := rfl
        have e2 : toZ n2 l2 = if !n1 then -(val l2 : Int) else val l2 := by rw [hn2]; rfl
        rw [← e1, ← e2] at hd
        have hbe : (n1 == n2) = false := by rw [beq_eq_false_iff_ne]; exact hn
        by_cases hr : val l1 % val l2 = 0
        · rw [if_pos hr, if_pos hr] at hd
          refine (div1_B g1 g2 n1 n2 A1 A2 c1 c2 l1 l2 w h1 h2 k1 k2 hok hp _ _ rfl rfl hbe (by rw [hr, lim_zero]; simp) _ _ hd.1.symm (?_ : _ = _)).mono fun e w' h => ⟨fun _ => h, fun h => absurd rfl h⟩
          rw [hd.2, hr]; split <;> rfl
        · rw [if_neg hr, if_neg hr] at hd
          refine (div1_C g1 g2 n1 n2 A1 A2 c1 c2 l1 l2 w h1 h2 k1 k2 hok hp _ _ rfl rfl hbe (lim_length_pos (Nat.pos_of_ne_zero hr)) _ _ hd.1.symm (?_ : _ = _)).mono fun e w' h => ⟨fun _ => h, fun h => absurd rfl h⟩
          rw [hd.2, hn2]
  · rw [if_neg hok]
    exact (div1_bad g1 g2 n1 n2 A1 A2 c1 c2 l1 l2 w h1 h2 (by simpa using hok)).mono fun e w' h => ⟨fun h => absurd h (by decide), fun _ => ⟨h.1, rfl, rfl, h.2⟩⟩
theorem divR_zero (n1 : Bool) (l1 : List Nat) (n2 : Bool) (l2 : List Nat) : (divR n1 l1 n2 l2).2.2 ≠ 0 → (divR n1 l1 n2 l2).1 = 0 ∧ (divR n1 l1 n2 l2).2.1 = 0 := by
  unfold divR
  split
  · split <;> simp
  · simp
/-- two integers and an error -/
def RetQRE (q r er : Int) (w : World) (e : Ending) (w' : World) : Prop :=
  ∃ s1 A1 c1 l1 s2 A2 c2 l2, e = .returned (.tuple #[iv s1 A1 l1.length c1, iv s2 A2 l2.length c2, .int .i64 er]) ∧ IsZ s1 l1 q ∧ IsZ s2 l2 r ∧ l1.length ≤ c1 ∧ l2.length ≤ c2 ∧ Rd w' A1 l1 ∧ Rd w' A2 l2 ∧ Below w.heap.size w w'
end Nm
end Go.Proofs.YtlhmbbpkhahbeaaGreatDoor
namespace Go.Proofs.YtlhmbbpkhahbeaaGreatDoor
namespace Nm
open Go.RowKit Go.Shelf Go.BigFrame
attribute [local go_sem] Oper.semAt_some
def RetTQ (q r er : Int) (w : World) (e : Ending) (w' : World) : Prop :=
  ∃ s1 A1 c1 l1 s2 A2 c2 l2, e = .returned (.tuple #[.agg #[.bool s1, .slice A1 l1.length c1, .bool s2, .slice A2 l2.length c2], .int .i64 er]) ∧ IsZ s1 l1 q ∧ IsZ s2 l2 r ∧ l1.length ≤ c1 ∧ l2.length ≤ c2 ∧ Rd w' A1 l1 ∧ Rd w' A2 l2 ∧ Below w.heap.size w w'
theorem try_div (G : Nat) (caps : Array Value) (hG : ∀ (args : Array Value) (w : World), (callFunc G args).run Tryz.prog w = .ok (.enter G args) w) (w : World) (q r er : Int)
    (h : Calls Tryz.prog G caps ((w.alloc (.cells #[.bool false, .slice none 0 0, .bool false, .slice none 0 0] 85)).alloc (.cells #[.int .i64 0] 27)) (PostQR q r er ((w.alloc (.cells #[.bool false, .slice none 0 0, .bool false, .slice none 0 0] 85)).alloc (.cells #[.int .i64 0] 27)))) (hz : er ≠ 0 → q = 0 ∧ r = 0) :
    Calls Tryz.prog 49 #[.func (.func G) #[] caps] w (RetTQ q r er w) := by
  by_cases h0 : er = 0
  · subst h0
    refine (try_div_ok G caps hG w _ rfl (fun s1 A1 m1 c1 s2 A2 m2 c2 w1 => ∃ l1 l2, m1 = l1.length ∧ m2 = l2.length ∧ IsZ s1 l1 q ∧ IsZ s2 l2 r ∧ l1.length ≤ c1 ∧ l2.length ≤ c2 ∧ Rd w1 A1 l1 ∧ Rd w1 A2 l2) (h.mono ?_)).mono ?_
    · rintro e w' ⟨h1, -⟩
      obtain ⟨s1, A1, c1, l1, s2, A2, c2, l2, rfl, h2, h3, h4, h5, h6, h7, h8⟩ := h1 rfl
      exact ⟨s1, A1, _, c1, s2, A2, _, c2, rfl, ⟨l1, l2, rfl, rfl, h2, h3, h4, h5, h6, h7⟩, h8⟩
    · rintro e w' ⟨s1, A1, m1, c1, s2, A2, m2, c2, w1, ⟨l1, l2, rfl, rfl, h2, h3, h4, h5, h6, h7⟩, h8, h9, rfl⟩
      exact ⟨s1, A1, c1, l1, s2, A2, c2, l2, rfl, h2, h3, h4, h5, h9 _ _ h6, h9 _ _ h7, h8⟩
  · obtain ⟨rfl, rfl⟩ := hz h0
    refine (try_div_wrong G caps hG w _ rfl er (h.mono ?_)).mono ?_
    · rintro e w' ⟨-, h1⟩
      obtain ⟨h2, -, -, h3⟩ := h1 h0
      exact ⟨h2, h3⟩
    · rintro e w' ⟨h1, rfl⟩
      exact ⟨false, none, 0, [], false, none, 0, [], rfl, isZ_zero, isZ_zero, Nat.le_refl _, Nat.le_refl _, Rd.nil _ _, Rd.nil _ _, h1⟩
theorem ret_cct {fn : Func} {p q u : Tmp} (h : fn.results = #[.cell p 24, .cell q 24, .tmp u]) {a : Act} {w : World} {g1 g2 : Nat} {x1 y1 x2 y2 : Value} {R : Ending → World → Prop} (hd0 : a.defers = []) (hp : a.tmps.getD p undef = .pointer (some ⟨g1, 0, none⟩)) (hq : a.tmps.getD q undef = .pointer (some ⟨g2, 0, none⟩))
    (hg1 : w.heap[g1]? = some (.cells #[x1, y1] 24 (0, 0))) (hg2 : w.heap[g2]? = some (.cells #[x2, y2] 24 (0, 0))) (hR : R (.returned (.tuple #[.agg #[x1, y1], .agg #[x2, y2], a.tmps.getD u undef])) w) : bodyPost Tryz.prog fn R .ret a w := by
  refine bodyPost_ret (v := .tuple #[.agg #[x1, y1], .agg #[x2, y2], a.tmps.getD u undef]) ?_ hd0 hR
  have e1 := run_loadVar_row (P := Tryz.prog) w g1 24 24 #[x1, y1] (0, 0) _ hg1 Tryz.underlying24 rfl int_size
  have e2 := run_loadVar_row (P := Tryz.prog) w g2 24 24 #[x2, y2] (0, 0) _ hg2 Tryz.underlying24 rfl int_size
  rw [Array.getD_eq_getD_getElem?] at hp hq
  simp [results, h, hp, hq, asAddr, Result.andThen, e1, e2, Sem.run_bind]
/-- boxes of two arguments, and two blocks behind them -/
theorem boxes4 (w : World) (n1 n2 : Bool) (A1 A2 : Option Addr) (c1 c2 : Nat) (l1 l2 : List Nat) (h1 : Rd w A1 l1) (h2 : Rd w A2 l2) (hc1 : l1.length ≤ c1) (hc2 : l2.length ≤ c2) (cur cur' : Array Value) (t t' : TypeId) :
    ∃ W4, ((((w.alloc (.cells #[.bool n1, .slice A1 l1.length c1] 24)).alloc (.cells #[.bool n2, .slice A2 l2.length c2] 24)).alloc (.cells cur t)).alloc (.cells cur' t')) = W4 ∧ Below w.heap.size w W4 ∧
      IntBox W4 w.heap.size n1 A1 c1 l1 ∧ IntBox W4 (w.heap.size + 1) n2 A2 c2 l2 ∧ Blk W4 (w.heap.size + 1 + 1) cur t ∧ Blk W4 (w.heap.size + 1 + 1 + 1) cur' t' ∧ W4.heap.size = w.heap.size + 4 := by
  obtain ⟨W4, hW4⟩ : ∃ W4, ((((w.alloc (.cells #[.bool n1, .slice A1 l1.length c1] 24)).alloc (.cells #[.bool n2, .slice A2 l2.length c2] 24)).alloc (.cells cur t)).alloc (.cells cur' t')) = W4 := ⟨_, rfl⟩
  have hb4 : Below w.heap.size w W4 := by rw [← hW4]; exact ((((Below.refl _ w).alloc (Nat.le_refl _) _).alloc (by simp) _).alloc (by simp; omega) _).alloc (by simp; omega) _
  refine ⟨W4, hW4, hb4, ?_, ?_, ?_, ?_, ?_⟩
  · exact ⟨by rw [← hW4]; exact (Below.heap_alloc _ _ _ (by simp; omega)).trans ((Below.heap_alloc _ _ _ (by simp; omega)).trans ((Below.heap_alloc _ _ _ (by simp)).trans (World.alloc_heap_new w _))), h1.on hb4, hc1⟩
  · exact ⟨by rw [← hW4]; exact (Below.heap_alloc _ _ _ (by simp <;> omega)).trans ((Below.heap_alloc _ _ _ (by simp)).trans (two_blk w _ _)), h2.on hb4, hc2⟩
  · exact ⟨by rw [← hW4]; refine (Below.heap_alloc _ _ _ (by simp)).trans ?_; have := World.alloc_heap_new ((w.alloc (.cells #[.bool n1, .slice A1 l1.length c1] 24)).alloc (.cells #[.bool n2, .slice A2 l2.length c2] 24)) (.cells cur t); rwa [World.size_alloc, World.size_alloc] at this⟩
  · exact ⟨by rw [← hW4]; have := World.alloc_heap_new (((w.alloc (.cells #[.bool n1, .slice A1 l1.length c1] 24)).alloc (.cells #[.bool n2, .slice A2 l2.length c2] 24)).alloc (.cells cur t)) (.cells cur' t'); rwa [World.size_alloc, World.size_alloc, World.size_alloc] at this⟩
  · rw [← hW4]; simp
set_option maxRecDepth 100000 in
set_option maxHeartbeats 4000000 in
theorem Div_calls (n1 n2 : Bool) (A1 A2 : Option Addr) (c1 c2 : Nat) (l1 l2 : List Nat) (w : World) (h1 : Rd w A1 l1) (h2 : Rd w A2 l2) (hc1 : l1.length ≤ c1) (hc2 : l2.length ≤ c2) :
    Calls Tryz.prog 16 #[iv n1 A1 l1.length c1, iv n2 A2 l2.length c2] w (RetQRE (divR n1 l1 n2 l2).1 (divR n1 l1 n2 l2).2.1 (divR n1 l1 n2 l2).2.2 w) := by
  have hmf : ∀ (fn : Fn) (first cap : Array Value) (w : World), (Instr.makeFunc fn first cap).run Tryz.prog w = .ok (.func fn first cap) w := fun _ _ _ _ => rfl
  obtain ⟨W4, hW4, hb4, B1, B2, hR1, hR2, hsz⟩ := boxes4 w n1 n2 A1 A2 c1 c2 l1 l2 h1 h2 hc1 hc2 #[.bool false, .slice none 0 0] #[.bool false, .slice none 0 0] 24 24
  have hB5 : ∀ o o', Below W4.heap.size W4 ((W4.alloc o).alloc o') := fun o o' => ((Below.refl _ W4).alloc (Nat.le_refl _) _).alloc (by simp) _
  have ht := try_div 50 #[.pointer (some ⟨w.heap.size, 0, none⟩), .pointer (some ⟨w.heap.size + 1, 0, none⟩)] (enters_of Tryz.func50 (by kernel_rfl) rfl) W4 _ _ _ (div1_calls _ _ n1 n2 A1 A2 c1 c2 l1 l2 _ (B1.on (hB5 _ _)) (B2.on (hB5 _ _))) (divR_zero n1 l1 n2 l2)
  generalize (divR n1 l1 n2 l2).1 = q at *
  generalize (divR n1 l1 n2 l2).2.1 = r at *
  generalize (divR n1 l1 n2 l2).2.2 = er at *
  have Hsz := Lib.hid hsz
  clear hsz
  go_enter Tryz.func16, Tryz.ntmps16
  go_wp2_with (go_at_call 49; refine ht.mono ?_; rintro e w5 ⟨s5, A5, c5, l5, s6, A6, c6, l6, rfl, z5, z6, n5, n6, r5, r6, b5⟩)
  have hb6 : Below w5.heap.size w5 (w5.alloc (.cells #[.bool s5, .slice A5 l5.length c5, .bool s6, .slice A6 l6.length c6] 85)) := (Below.refl _ _).alloc (Nat.le_refl _) _
  have hX := World.alloc_heap_new w5 (.cells #[.bool s5, .slice A5 l5.length c5, .bool s6, .slice A6 l6.length c6] 85)
  have q1 := (hR1.on b5).on hb6
  have q2 := (hR2.on b5).on hb6
  have p1 := r5.on hb6
  have p2 := r6.on hb6
  have bb := hb4.trans ((b5.mono hb4.size).trans (hb6.mono (Nat.le_trans hb4.size b5.size)))
  have hs5 := b5.size
  have hsz := Hsz.out
  clear hW4
  generalize (w5.alloc (.cells #[.bool s5, .slice A5 l5.length c5, .bool s6, .slice A6 l6.length c6] 85)) = W6 at *
  obtain ⟨B, hB⟩ : ∃ B, w5.heap.size = B := ⟨_, rfl⟩
  obtain ⟨G1, hG1⟩ : ∃ G1, w.heap.size + 1 + 1 = G1 := ⟨_, rfl⟩
  obtain ⟨G2, hG2⟩ : ∃ G2, G1 + 1 = G2 := ⟨_, rfl⟩
  have d1 : ¬ G1 = G2 := by omega
  have d2 : ¬ G2 = G1 := by omega
  have d3 : ¬ G1 = B := by omega
  have d4 : ¬ B = G1 := by omega
  have d5 : ¬ G2 = B := by omega
  have d6 : ¬ B = G2 := by omega
  have d7 : w.heap.size ≤ G1 := by omega
  have d8 : w.heap.size ≤ G2 := by omega
  rw [hB] at hX ⊢
  rw [hG1] at q1 q2 ⊢
  rw [hG2] at q2 ⊢
  clear hB hG1 hG2 hs5 hsz
  have x0 := cell_at hX 0 _ rfl
  have x1 := cell_at hX 1 _ rfl
  have x2 := cell_at hX 2 _ rfl
  have x3 := cell_at hX 3 _ rfl
  have y0 := cell_at q1.h 0 _ rfl
  have y1 := cell_at q1.h 1 _ rfl
  have y2 := cell_at q2.h 0 _ rfl
  have y3 := cell_at q2.h 1 _ rfl
  have u0 := frozen_at q1.h 0
  have u1 := frozen_at q1.h 1
  have u2 := frozen_at q2.h 0
  have u3 := frozen_at q2.h 1
  go_region
  go_wp2_with fail
  have nw : ∀ {v1 v2 : Value}, (∀ x : Int, v1 ≠ .int .u32 x) → (∀ x : Int, v2 ≠ .int .u32 x) → ∀ (i : Nat) (x : Int), (#[v1, v2] : Array Value)[i]? = some (.int .u32 x) → False := by
    intro v1 v2 h1 h2 i x h
    rcases i with _ | _ | i <;> simp at h
    · exact h1 _ h
    · exact h2 _ h
  have m1 := p1.ne q1.h (nw (by simp) (by simp))
  have m2 := p1.ne q2.h (nw (by simp) (by simp))
  have m3 := p2.ne q1.h (nw (by simp) (by simp))
  have m4 := p2.ne q2.h (nw (by simp) (by simp))
  exact ret_cct rfl rfl rfl rfl (heap_drew _ _ ((Below.heap_setCell _ _ _ G1 (by first | exact d1 | exact d2)).trans ((Below.heap_setCell _ _ _ G1 (by first | exact d1 | exact d2)).trans (set_blk (set_blk q1.h 0 _) 1 _))))
    (heap_drew _ _ (set_blk (set_blk ((Below.heap_setCell _ _ _ G2 (by first | exact d1 | exact d2)).trans ((Below.heap_setCell _ _ _ G2 (by first | exact d1 | exact d2)).trans q2.h)) 0 _) 1 _))
    ⟨s5, A5, c5, l5, s6, A6, c6, l6, rfl, z5, z6, n5, n6, ((((p1.setNe m1).setNe m1).setNe m2).setNe m2).on (below_drew (Below.refl _ _)), ((((p2.setNe m3).setNe m3).setNe m4).setNe m4).on (below_drew (Below.refl _ _)), below_drew ((((bb.setCell d7 _).setCell d7 _).setCell d8 _).setCell d8 _)⟩
end Nm
end Go.Proofs.YtlhmbbpkhahbeaaGreatDoor
namespace Go.Proofs.YtlhmbbpkhahbeaaGreatDoor
namespace Nm
open Go.RowKit Go.Shelf Go.BigFrame
attribute [local go_sem] Oper.semAt_some
theorem formed_one (g : Nat) (n1 : Bool) (A1 : Option Addr) (c1 : Nat) (l1 : List Nat) (w : World) (hg : w.heap[g]? = some (.cells #[.bool n1, .slice A1 l1.length c1] 24 (0, 0))) (h1 : Rd w A1 l1) (hc1 : l1.length ≤ c1) :
    Calls Tryz.prog 24 #[.slice (some ⟨g, 0, none⟩) 1 1] w fun e w' =>
      (okI n1 l1 = true → e = .returned (.tuple #[])) ∧ (okI n1 l1 = false → e = .panicked (wrong 1)) ∧ Below w.heap.size w w' := by
  have := formed_calls g [⟨n1, A1, c1, l1⟩] w (Array.getElem?_eq_some_iff.1 hg).1 ⟨?_, ?_, ?_⟩ (by simp)
  · simpa [IntArg.ok] using this
  · intro k hk
    match k, hk with
    | 0, _ => exact cell_at hg 0 _ rfl
  · intro k hk
    match k, hk with
    | 0, _ => exact cell_at hg 1 _ rfl
  · intro k hk
    match k, hk with
    | 0, _ => exact ⟨h1, hc1⟩
/-- what Pow returns -/
def powR (n1 : Bool) (l1 : List Nat) (n : Int) : Int × Int := if okI n1 l1 = true then (if 0 ≤ n ∧ n ≤ 9600 then fitZ (toZ n1 l1 ^ n.toNat) else (0, 1)) else (0, 1)
theorem powR_zero (n1 : Bool) (l1 : List Nat) (n : Int) : (powR n1 l1 n).2 ≠ 0 → (powR n1 l1 n).1 = 0 := by
  unfold powR
  split
  · split
    · exact fit_zero _
    · simp
  · simp
theorem neg_pow (a m : Nat) : (-(a : Int)) ^ m = if m % 2 = 1 then -((a ^ m : Nat) : Int) else ((a ^ m : Nat) : Int) := by
  induction m with
  | zero => simp
  | succ m ih =>
    rw [Int.pow_succ, ih, Nat.pow_succ]
    by_cases h : m % 2 = 1
    · rw [if_pos h, if_neg (by omega), Int.neg_mul_neg]; simp
    · rw [if_neg h, if_pos (by omega), Int.mul_neg]; simp
theorem pow_z (n1 : Bool) (l1 : List Nat) (m : Nat) : toZ n1 l1 ^ m = if (n1 && ((m : Int) % 2 == 1)) = true then -((val l1 ^ m : Nat) : Int) else ((val l1 ^ m : Nat) : Int) := by
  unfold toZ
  cases n1
  · simp
  · rw [if_pos rfl, neg_pow, Bool.true_and]
    by_cases h : m % 2 = 1
    · rw [if_pos h, if_pos (by rw [beq_iff_eq]; omega)]
    · rw [if_neg h, if_neg (by rw [beq_iff_eq]; omega)]
set_option maxRecDepth 100000 in
set_option maxHeartbeats 4000000 in
theorem pow1_bad (g1 g2 : Nat) (n1 : Bool) (n : Int) (A1 : Option Addr) (c1 : Nat) (l1 : List Nat) (w : World) (h1 : IntBox w g1 n1 A1 c1 l1) (h2 : Blk w g2 #[.int .i64 n] 3) (hbad : okI n1 l1 = false) :
    Calls Tryz.prog 55 #[.pointer (some ⟨g1, 0, none⟩), .pointer (some ⟨g2, 0, none⟩)] w fun e w' => e = .panicked (wrong 1) ∧ Below w.heap.size w w' := by
  have x0 := cell_at h1.blk 0 _ rfl
  have x1 := cell_at h1.blk 1 _ rfl
  have y0 := cell_at h2.h 0 _ rfl
  have t1 := (Array.getElem?_eq_some_iff.1 h1.blk).1
  have t2 := (Array.getElem?_eq_some_iff.1 h2.h).1
  have hb2 : ∀ a b, Below w.heap.size w ((w.alloc a).alloc b) := fun a b => ((Below.refl _ w).alloc (Nat.le_refl _) _).alloc (by simp) _
  have hf := fun a => formed_one (w.heap.size + 1) n1 A1 c1 l1 _ (two_blk w a (.cells #[.bool n1, .slice A1 l1.length c1] 24)) (h1.rd.on (hb2 _ _)) h1.cap
  go_enter Tryz.func55, Tryz.ntmps55
  go_wp2_with (go_at_call 24; refine (hf _).mono ?_; rintro e w' ⟨-, hp, hbl⟩; cases hp hbad)
  exact ⟨rfl, rfl, (hb2 _ _).trans (hbl.mono (hb2 _ _).size)⟩
set_option maxRecDepth 100000 in
set_option maxHeartbeats 4000000 in
theorem pow1_range (g1 g2 : Nat) (n1 : Bool) (n : Int) (A1 : Option Addr) (c1 : Nat) (l1 : List Nat) (w : World) (h1 : IntBox w g1 n1 A1 c1 l1) (h2 : Blk w g2 #[.int .i64 n] 3) (hok : okI n1 l1 = true) (h0 : ¬ (0 ≤ n ∧ n ≤ 9600)) :
    Calls Tryz.prog 55 #[.pointer (some ⟨g1, 0, none⟩), .pointer (some ⟨g2, 0, none⟩)] w fun e w' => e = .panicked (wrong 1) ∧ Below w.heap.size w w' := by
  have x0 := cell_at h1.blk 0 _ rfl
  have x1 := cell_at h1.blk 1 _ rfl
  have y0 := cell_at h2.h 0 _ rfl
  have t1 := (Array.getElem?_eq_some_iff.1 h1.blk).1
  have t2 := (Array.getElem?_eq_some_iff.1 h2.h).1
  have hb2 : ∀ a b, Below w.heap.size w ((w.alloc a).alloc b) := fun a b => ((Below.refl _ w).alloc (Nat.le_refl _) _).alloc (by simp) _
  have hf := fun a => formed_one (w.heap.size + 1) n1 A1 c1 l1 _ (two_blk w a (.cells #[.bool n1, .slice A1 l1.length c1] 24)) (h1.rd.on (hb2 _ _)) h1.cap
  by_cases hn : 0 ≤ n
  · have hn2 : decide (n ≤ 9600) = false := decide_eq_false fun h => h0 ⟨hn, h⟩
    clear h0
    go_enter Tryz.func55, Tryz.ntmps55
    go_wp2_with first
      | (go_at_call 24; refine (hf _).mono ?_; rintro e w' ⟨hp, -, hbl⟩; cases hp hok; have hb3 := (hb2 _ _).trans (hbl.mono (hb2 _ _).size); have p0 := cell_at (h1.on hb3).blk 0 _ rfl; have p1 := cell_at (h1.on hb3).blk 1 _ rfl; have p2 := cell_at (h2.on hb3).h 0 _ rfl)
      | (go_at_call 25; refine (must_no 1 _).mono ?_; rintro e w5 ⟨rfl, rfl⟩)
    exact ⟨rfl, rfl, hb3⟩
  · clear h0
    go_enter Tryz.func55, Tryz.ntmps55
    go_wp2_with first
      | (go_at_call 24; refine (hf _).mono ?_; rintro e w' ⟨hp, -, hbl⟩; cases hp hok; have hb3 := (hb2 _ _).trans (hbl.mono (hb2 _ _).size); have p0 := cell_at (h1.on hb3).blk 0 _ rfl; have p1 := cell_at (h1.on hb3).blk 1 _ rfl; have p2 := cell_at (h2.on hb3).h 0 _ rfl)
      | (go_at_call 25; refine (must_no 1 _).mono ?_; rintro e w5 ⟨rfl, rfl⟩)
    exact ⟨rfl, rfl, hb3⟩
theorem calls_false {P : Program} {f : FuncId} {args : Array Value} {w : World} {R : Ending → World → Prop} (h : False) (_ : ∀ v w', False → R (.returned v) w') : Calls P f args w R := h.elim
theorem keep2 {w : World} {g B i : Nat} {v v0 v1 : Value} (hne : ¬ B = g) (h : w.cell? ⟨g, i, none⟩ = some v) : ((w.setCell ⟨B, 0, none⟩ v0).setCell ⟨B, 1, none⟩ v1).cell? ⟨g, i, none⟩ = some v :=
  (World.cell?_setCell_other _ _ _ v1 (by intro e; cases e; exact hne rfl)).trans ((World.cell?_setCell_other w _ _ v0 (by intro e; cases e; exact hne rfl)).trans h)
set_option maxRecDepth 100000 in
set_option maxHeartbeats 4000000 in
theorem pow1_ok (g1 g2 : Nat) (n1 : Bool) (m : Nat) (A1 : Option Addr) (c1 : Nat) (l1 : List Nat) (w : World) (h1 : IntBox w g1 n1 A1 c1 l1) (h2 : Blk w g2 #[.int .i64 (m : Int)] 3) (k1 : IsInt n1 l1) (hok : okI n1 l1 = true) (hm : m ≤ 9600) (b : Bool) (hpar : ((m : Int) % 2 == 1) = b) (hs : (lim (val l1 ^ m)).length ≤ 300) (z : Int) (hz : Hid ((if (n1 && b) = true then -((val l1 ^ m : Nat) : Int) else ((val l1 ^ m : Nat) : Int)) = z)) :
    Calls Tryz.prog 55 #[.pointer (some ⟨g1, 0, none⟩), .pointer (some ⟨g2, 0, none⟩)] w (RetZ z w) := by
  have x0 := cell_at h1.blk 0 _ rfl
  have x1 := cell_at h1.blk 1 _ rfl
  have y0 := cell_at h2.h 0 _ rfl
  have t1 := (Array.getElem?_eq_some_iff.1 h1.blk).1
  have t2 := (Array.getElem?_eq_some_iff.1 h2.h).1
  have hb2 : ∀ a b, Below w.heap.size w ((w.alloc a).alloc b) := fun a b => ((Below.refl _ w).alloc (Nat.le_refl _) _).alloc (by simp) _
  have hf := fun a => formed_one (w.heap.size + 1) n1 A1 c1 l1 _ (two_blk w a (.cells #[.bool n1, .slice A1 l1.length c1] 24)) (h1.rd.on (hb2 _ _)) h1.cap
  have hpw := fun W (hW : Below w.heap.size w W) => power_calls A1 c1 (val l1) m W (by rw [lim_val k1.canon]; exact h1.rd.on hW) (by rw [lim_val k1.canon]; exact h1.cap) (by rw [lim_val k1.canon]; exact k1.small) (by omega)
  rw [lim_val k1.canon] at hpw
  have hpt : ((m : Int).tmod 2 == 1) = b := by rw [Int.tmod_eq_emod_of_nonneg (by omega)]; exact hpar
  have hdm : decide (m ≤ 9600) = true := decide_eq_true hm
  have hdi : decide ((m : Int) ≤ 9600) = true := decide_eq_true (by omega)
  have d1 : ¬ g1 = w.heap.size := by omega
  have d2 : ¬ g2 = w.heap.size := by omega
  have d3 : ¬ w.heap.size = g1 := by omega
  have d4 : ¬ w.heap.size = g2 := by omega
  have hqx := two_old w (.cells #[.bool false, .slice none 0 0] 24) (.cells #[.bool n1, .slice A1 l1.length c1] 24) rfl
  have hwz := fun W A c (h : Rd W A (lim (val l1 ^ m))) (hc : (lim (val l1 ^ m)).length ≤ c) => whole_z (n1 && b) (val l1 ^ m) hs A c W h hc
  generalize val l1 ^ m = Pw at *
  cases n1
  · simp only [Bool.false_and] at *
    go_enter Tryz.func55, Tryz.ntmps55
    go_wp2_with first
      | (go_at_call 24; refine (hf _).mono ?_; rintro e w' ⟨hp, -, hbl⟩; cases hp hok; have hb3 := (hb2 _ _).trans (hbl.mono (hb2 _ _).size); have p0 := cell_at (h1.on hb3).blk 0 _ rfl; have p1 := cell_at (h1.on hb3).blk 1 _ rfl; have p2 := cell_at (h2.on hb3).h 0 _ rfl)
      | (go_at_call 25; refine (must_ok 1 _).mono ?_; rintro e w4 ⟨rfl, rfl⟩; have hq1 := hqx.on hbl)
    clear x0 x1 y0
    refine wp_region_held_drew (S := (fun w'' => w''.cell? ⟨g1, 0, none⟩ = some (.bool false) ∧ w''.cell? ⟨g1, 1, none⟩ = some (.slice A1 l1.length c1) ∧ w''.cell? ⟨g2, 0, none⟩ = some (.int .i64 (m : Int)))) (by kernel_rfl) ⟨p0, p1, p2⟩ (fun hHeld => ?_)
    refine wpAnyH_take (i := 0) (v := Value.pointer (some ⟨g1, 0, none⟩)) rfl (by kernel_rfl) (by kernel_rfl) (by kernel_rfl) (fun _ _ _ h => h) (Or.inl ⟨by rfl, fun w hSw => by (try dsimp only at hSw); go_simp⟩) (by assumption) ?_
    try simp only [Act.put, List.setIfInBounds_toArray]
    refine wpAnyH_take (i := 1) (v := Value.bool false) rfl (by kernel_rfl) (by kernel_rfl) (by kernel_rfl) (fun _ _ _ h => h) (Or.inl ⟨by rfl, fun w hSw => by (try dsimp only at hSw); go_simp⟩) (by assumption) ?_
    try simp only [Act.put]
    refine wpAnyH_take (i := 2) (v := Value.bool false) rfl (by kernel_rfl) (by kernel_rfl) (by kernel_rfl) (fun _ _ _ h => h) (Or.inl ⟨by rfl, fun w hSw => by (try dsimp only at hSw); go_simp⟩) (by assumption) ?_
    try simp only [Act.put]
    refine wpAnyH_take (i := 3) (v := undef) rfl (by kernel_rfl) (by kernel_rfl) (by kernel_rfl) (fun _ _ _ h => h) (Or.inr ⟨by rfl, rfl⟩) (by assumption) ?_
    try simp only [Act.put]
    refine wpAnyH_take (i := 4) (v := undef) rfl (by kernel_rfl) (by kernel_rfl) (by kernel_rfl) (fun _ _ _ h => h) (Or.inr ⟨by rfl, rfl⟩) (by assumption) ?_
    try simp only [Act.put]
    refine wpAnyH_take (i := 5) (v := undef) rfl (by kernel_rfl) (by kernel_rfl) (by kernel_rfl) (fun _ _ _ h => h) (Or.inr ⟨by rfl, rfl⟩) (by assumption) ?_
    try simp only [Act.put]
    refine wpAnyH_take (i := 6) (v := Value.bool false) rfl (by kernel_rfl) (by kernel_rfl) (by kernel_rfl) (fun _ _ _ h => h) (Or.inl ⟨by rfl, fun w hSw => by (try dsimp only at hSw); go_simp⟩) (by assumption) ?_
    try simp only [Act.put]
    refine wpAnyH_take (i := 7) (v := Value.pointer (some ⟨g1, 1, none⟩)) rfl (by kernel_rfl) (by kernel_rfl) (by kernel_rfl) (fun _ _ _ h => h) (Or.inl ⟨by rfl, fun w hSw => by (try dsimp only at hSw); go_simp⟩) (by assumption) ?_
    try simp only [Act.put]
    refine wpAnyH_take (i := 8) (v := Value.slice A1 l1.length c1) rfl (by kernel_rfl) (by kernel_rfl) (by kernel_rfl) (fun _ _ _ h => h) (Or.inl ⟨by rfl, fun w hSw => by (try dsimp only at hSw); go_simp⟩) (by assumption) ?_
    try simp only [Act.put]
    refine wpAnyH_take (i := 9) (v := Value.int .i64 (m : Int)) rfl (by kernel_rfl) (by kernel_rfl) (by kernel_rfl) (fun _ _ _ h => h) (Or.inl ⟨by rfl, fun w hSw => by (try dsimp only at hSw); go_simp⟩) (by assumption) ?_
    try simp only [Act.put]
    refine wpAnyH_ready (rs := [10]) (by kernel_rfl) (by simp) ?_
    refine AllReadyH.cons rfl (fun K hK => ?_) AllReadyH.nil
    go_simp
    go_at_call 56; refine (hpw _ (below_drew hb3)).mono ?_; rintro e w5 ⟨hp, -, -⟩; obtain ⟨A5, c5, rfl, n5, r5, b5⟩ := hp hs; replace b5 := (below_drew (Below.refl _ w4)).trans b5; have hb5 := hb3.trans (b5.mono hb3.size); have i0 := cell_at (h1.on hb5).blk 0 _ rfl; have i1 := cell_at (h1.on hb5).blk 1 _ rfl; have i2 := cell_at (h2.on hb5).h 0 _ rfl
    go_wp2_with fail
    refine hK.out _ _ ⟨i0, i1, i2⟩ (fun hHeld => ?_)
    clear hK K
    try simp only [Act.put, List.setIfInBounds_toArray, List.set_cons_zero, List.set_cons_succ]
    refine wpAnyH_ready (rs := [11]) (by kernel_rfl) (by simp) ?_
    refine AllReadyH.cons rfl (fun K hK => ?_) AllReadyH.nil
    go_simp
    go_at_call 33; refine (hwz _ A5 c5 r5 n5).mono ?_; rintro e w6 ⟨s6, A6, c6, l6, rfl, z6, n6, r6, b6⟩; have hb6 := hb5.trans (b6.mono hb5.size); have j0 := cell_at (h1.on hb6).blk 0 _ rfl; have j1 := cell_at (h1.on hb6).blk 1 _ rfl; have j2 := cell_at (h2.on hb6).h 0 _ rfl; have hq6 := (hq1.on b5).on b6; have z0 := cell_at hq6.h 0 _ rfl; have z1 := cell_at hq6.h 1 _ rfl; have u0 := frozen_at hq6.h 0; have u1 := frozen_at hq6.h 1
    go_wp2_with fail
    refine hK.out _ _ ⟨j0, j1, j2⟩ (fun hHeld => ?_)
    clear hK K
    try simp only [Act.put, List.setIfInBounds_toArray, List.set_cons_zero, List.set_cons_succ]
    refine wpAnyH_ready (rs := [12]) (by kernel_rfl) (by simp) ?_
    refine AllReadyH.cons rfl (fun K hK => ?_) AllReadyH.nil
    go_simp
    refine hK.out _ _ ⟨keep2 d3 j0, keep2 d3 j1, keep2 d4 j2⟩ (fun hHeld => ?_)
    clear hK K
    try simp only [Act.put, List.setIfInBounds_toArray, List.set_cons_zero, List.set_cons_succ]
    refine wpAnyH_done (by kernel_rfl) ?_ _
    all_goals go_wp2_with fail
    all_goals exact ret_cell rfl rfl rfl (set_blk (set_blk hq6.h 0 _) 1 _) ⟨s6, A6, c6, l6, rfl, z6.cast hz.out, n6, rd_sets r6 hq6 _ _, (hb6.setCell (Nat.le_refl _) _).setCell (Nat.le_refl _) _⟩
  · simp only [Bool.true_and] at *
    go_enter Tryz.func55, Tryz.ntmps55
    go_wp2_with first
      | (go_at_call 24; refine (hf _).mono ?_; rintro e w' ⟨hp, -, hbl⟩; cases hp hok; have hb3 := (hb2 _ _).trans (hbl.mono (hb2 _ _).size); have p0 := cell_at (h1.on hb3).blk 0 _ rfl; have p1 := cell_at (h1.on hb3).blk 1 _ rfl; have p2 := cell_at (h2.on hb3).h 0 _ rfl)
      | (go_at_call 25; refine (must_ok 1 _).mono ?_; rintro e w4 ⟨rfl, rfl⟩; have hq1 := hqx.on hbl)
    clear x0 x1 y0
    first
    | go_region_held3 (fun w'' => w''.cell? ⟨g1, 0, none⟩ = some (.bool true) ∧ w''.cell? ⟨g1, 1, none⟩ = some (.slice A1 l1.length c1) ∧ w''.cell? ⟨g2, 0, none⟩ = some (.int .i64 (m : Int))) ((first | assumption | go_keep))
      ((first
        | (go_at_call 56; refine (hpw _ (below_drew hb3)).mono ?_; rintro e w5 ⟨hp, -, -⟩; obtain ⟨A5, c5, rfl, n5, r5, b5⟩ := hp hs; replace b5 := (below_drew (Below.refl _ w4)).trans b5; have hb5 := hb3.trans (b5.mono hb3.size); have i0 := cell_at (h1.on hb5).blk 0 _ rfl; have i1 := cell_at (h1.on hb5).blk 1 _ rfl; have i2 := cell_at (h2.on hb5).h 0 _ rfl)
        | (go_at_call 33; refine (hwz _ A5 c5 r5 n5).mono ?_; rintro e w6 ⟨s6, A6, c6, l6, rfl, z6, n6, r6, b6⟩; have hb6 := hb5.trans (b6.mono hb5.size); have j0 := cell_at (h1.on hb6).blk 0 _ rfl; have j1 := cell_at (h1.on hb6).blk 1 _ rfl; have j2 := cell_at (h2.on hb6).h 0 _ rfl; have hq6 := (hq1.on b5).on b6; have z0 := cell_at hq6.h 0 _ rfl; have z1 := cell_at hq6.h 1 _ rfl; have u0 := frozen_at hq6.h 0; have u1 := frozen_at hq6.h 1)))
    | fail
    all_goals go_wp2_with fail
    all_goals exact ret_cell rfl rfl rfl (set_blk (set_blk hq6.h 0 _) 1 _) ⟨s6, A6, c6, l6, rfl, z6.cast hz.out, n6, rd_sets r6 hq6 _ _, (hb6.setCell (Nat.le_refl _) _).setCell (Nat.le_refl _) _⟩
set_option maxRecDepth 100000 in
set_option maxHeartbeats 4000000 in
theorem pow1_big (g1 g2 : Nat) (n1 : Bool) (m : Nat) (A1 : Option Addr) (c1 : Nat) (l1 : List Nat) (w : World) (h1 : IntBox w g1 n1 A1 c1 l1) (h2 : Blk w g2 #[.int .i64 (m : Int)] 3) (k1 : IsInt n1 l1) (hok : okI n1 l1 = true) (hm : m ≤ 9600) (b : Bool) (hpar : ((m : Int) % 2 == 1) = b) (hs : 300 < (lim (val l1 ^ m)).length) :
    Calls Tryz.prog 55 #[.pointer (some ⟨g1, 0, none⟩), .pointer (some ⟨g2, 0, none⟩)] w fun e w' => e = .panicked (wrong 3) ∧ Below w.heap.size w w' := by
  have x0 := cell_at h1.blk 0 _ rfl
  have x1 := cell_at h1.blk 1 _ rfl
  have y0 := cell_at h2.h 0 _ rfl
  have t1 := (Array.getElem?_eq_some_iff.1 h1.blk).1
  have t2 := (Array.getElem?_eq_some_iff.1 h2.h).1
  have hb2 : ∀ a b, Below w.heap.size w ((w.alloc a).alloc b) := fun a b => ((Below.refl _ w).alloc (Nat.le_refl _) _).alloc (by simp) _
  have hf := fun a => formed_one (w.heap.size + 1) n1 A1 c1 l1 _ (two_blk w a (.cells #[.bool n1, .slice A1 l1.length c1] 24)) (h1.rd.on (hb2 _ _)) h1.cap
  have hpw := fun W (hW : Below w.heap.size w W) => power_calls A1 c1 (val l1) m W (by rw [lim_val k1.canon]; exact h1.rd.on hW) (by rw [lim_val k1.canon]; exact h1.cap) (by rw [lim_val k1.canon]; exact k1.small) (by omega)
  rw [lim_val k1.canon] at hpw
  have hpt : ((m : Int).tmod 2 == 1) = b := by rw [Int.tmod_eq_emod_of_nonneg (by omega)]; exact hpar
  have hdm : decide (m ≤ 9600) = true := decide_eq_true hm
  have hdi : decide ((m : Int) ≤ 9600) = true := decide_eq_true (by omega)
  have d1 : ¬ g1 = w.heap.size := by omega
  have d2 : ¬ g2 = w.heap.size := by omega
  have d3 : ¬ w.heap.size = g1 := by omega
  have d4 : ¬ w.heap.size = g2 := by omega
  have hqx := two_old w (.cells #[.bool false, .slice none 0 0] 24) (.cells #[.bool n1, .slice A1 l1.length c1] 24) rfl
  cases n1
  · skip
    go_enter Tryz.func55, Tryz.ntmps55
    go_wp2_with first
      | (go_at_call 24; refine (hf _).mono ?_; rintro e w' ⟨hp, -, hbl⟩; cases hp hok; have hb3 := (hb2 _ _).trans (hbl.mono (hb2 _ _).size); have p0 := cell_at (h1.on hb3).blk 0 _ rfl; have p1 := cell_at (h1.on hb3).blk 1 _ rfl; have p2 := cell_at (h2.on hb3).h 0 _ rfl)
      | (go_at_call 25; refine (must_ok 1 _).mono ?_; rintro e w4 ⟨rfl, rfl⟩; have hq1 := hqx.on hbl)
    clear x0 x1 y0
    refine wp_region_held_drew (S := (fun w'' => w''.cell? ⟨g1, 0, none⟩ = some (.bool false) ∧ w''.cell? ⟨g1, 1, none⟩ = some (.slice A1 l1.length c1) ∧ w''.cell? ⟨g2, 0, none⟩ = some (.int .i64 (m : Int)))) (by kernel_rfl) ⟨p0, p1, p2⟩ (fun hHeld => ?_)
    refine wpAnyH_take (i := 0) (v := Value.pointer (some ⟨g1, 0, none⟩)) rfl (by kernel_rfl) (by kernel_rfl) (by kernel_rfl) (fun _ _ _ h => h) (Or.inl ⟨by rfl, fun w hSw => by (try dsimp only at hSw); go_simp⟩) (by assumption) ?_
    try simp only [Act.put, List.setIfInBounds_toArray]
    refine wpAnyH_take (i := 1) (v := Value.bool false) rfl (by kernel_rfl) (by kernel_rfl) (by kernel_rfl) (fun _ _ _ h => h) (Or.inl ⟨by rfl, fun w hSw => by (try dsimp only at hSw); go_simp⟩) (by assumption) ?_
    try simp only [Act.put]
    refine wpAnyH_take (i := 2) (v := Value.bool false) rfl (by kernel_rfl) (by kernel_rfl) (by kernel_rfl) (fun _ _ _ h => h) (Or.inl ⟨by rfl, fun w hSw => by (try dsimp only at hSw); go_simp⟩) (by assumption) ?_
    try simp only [Act.put]
    refine wpAnyH_take (i := 3) (v := undef) rfl (by kernel_rfl) (by kernel_rfl) (by kernel_rfl) (fun _ _ _ h => h) (Or.inr ⟨by rfl, rfl⟩) (by assumption) ?_
    try simp only [Act.put]
    refine wpAnyH_take (i := 4) (v := undef) rfl (by kernel_rfl) (by kernel_rfl) (by kernel_rfl) (fun _ _ _ h => h) (Or.inr ⟨by rfl, rfl⟩) (by assumption) ?_
    try simp only [Act.put]
    refine wpAnyH_take (i := 5) (v := undef) rfl (by kernel_rfl) (by kernel_rfl) (by kernel_rfl) (fun _ _ _ h => h) (Or.inr ⟨by rfl, rfl⟩) (by assumption) ?_
    try simp only [Act.put]
    refine wpAnyH_take (i := 6) (v := Value.bool false) rfl (by kernel_rfl) (by kernel_rfl) (by kernel_rfl) (fun _ _ _ h => h) (Or.inl ⟨by rfl, fun w hSw => by (try dsimp only at hSw); go_simp⟩) (by assumption) ?_
    try simp only [Act.put]
    refine wpAnyH_take (i := 7) (v := Value.pointer (some ⟨g1, 1, none⟩)) rfl (by kernel_rfl) (by kernel_rfl) (by kernel_rfl) (fun _ _ _ h => h) (Or.inl ⟨by rfl, fun w hSw => by (try dsimp only at hSw); go_simp⟩) (by assumption) ?_
    try simp only [Act.put]
    refine wpAnyH_take (i := 8) (v := Value.slice A1 l1.length c1) rfl (by kernel_rfl) (by kernel_rfl) (by kernel_rfl) (fun _ _ _ h => h) (Or.inl ⟨by rfl, fun w hSw => by (try dsimp only at hSw); go_simp⟩) (by assumption) ?_
    try simp only [Act.put]
    refine wpAnyH_take (i := 9) (v := Value.int .i64 (m : Int)) rfl (by kernel_rfl) (by kernel_rfl) (by kernel_rfl) (fun _ _ _ h => h) (Or.inl ⟨by rfl, fun w hSw => by (try dsimp only at hSw); go_simp⟩) (by assumption) ?_
    try simp only [Act.put]
    refine wpAnyH_ready (rs := [10]) (by kernel_rfl) (by simp) ?_
    refine AllReadyH.cons rfl (fun K hK => ?_) AllReadyH.nil
    go_simp
    go_at_call 56; refine (hpw _ (below_drew hb3)).mono ?_; rintro e w5 ⟨-, hp, hbl5⟩; obtain rfl := hp hs
    go_wp2_with fail
    exact ⟨rfl, rfl, hb3.trans (((below_drew (Below.refl _ w4)).trans hbl5).mono hb3.size)⟩
  · skip
    go_enter Tryz.func55, Tryz.ntmps55
    go_wp2_with first
      | (go_at_call 24; refine (hf _).mono ?_; rintro e w' ⟨hp, -, hbl⟩; cases hp hok; have hb3 := (hb2 _ _).trans (hbl.mono (hb2 _ _).size); have p0 := cell_at (h1.on hb3).blk 0 _ rfl; have p1 := cell_at (h1.on hb3).blk 1 _ rfl; have p2 := cell_at (h2.on hb3).h 0 _ rfl)
      | (go_at_call 25; refine (must_ok 1 _).mono ?_; rintro e w4 ⟨rfl, rfl⟩; have hq1 := hqx.on hbl)
    clear x0 x1 y0
    first
    | go_region_held2 (fun w'' => w''.cell? ⟨g1, 0, none⟩ = some (.bool true) ∧ w''.cell? ⟨g1, 1, none⟩ = some (.slice A1 l1.length c1) ∧ w''.cell? ⟨g2, 0, none⟩ = some (.int .i64 (m : Int))) ((first | exact HF.out.elim | assumption | go_keep))
      ((first
        | (go_at_call 56; refine calls_panic (c := wrong 3) (B := fun w5 => Below w.heap.size w w5) ((hpw _ (below_drew hb3)).mono (fun e w5 h => ⟨h.2.1 hs, hb3.trans (((below_drew (Below.refl _ w4)).trans h.2.2).mono hb3.size)⟩)) (fun w5 b5 => ⟨rfl, rfl, b5⟩) ?_; intro v w5 hF; have HF : Hid False := hF; obtain ⟨A5, m5, c5, rfl⟩ : ∃ A5 m5 c5, v = .slice A5 m5 c5 := hF.elim; clear hF)
        | (go_at_call 33; refine calls_false HF.out ?_; intro v w6 hF; obtain ⟨s', A', n', c', rfl⟩ : ∃ s' A' n' c', v = .agg #[.bool s', .slice A' n' c'] := hF.elim; have hq5 : Blk w6 w.heap.size #[.bool false, .slice none 0 0] 24 := hF.elim; have z0 := cell_at hq5.h 0 _ rfl; have z1 := cell_at hq5.h 1 _ rfl; have u0 := frozen_at hq5.h 0; have u1 := frozen_at hq5.h 1; clear hF)))
    | fail
    all_goals exact HF.out.elim
theorem pow1_calls (g1 g2 : Nat) (n1 : Bool) (n : Int) (A1 : Option Addr) (c1 : Nat) (l1 : List Nat) (w : World) (h1 : IntBox w g1 n1 A1 c1 l1) (h2 : Blk w g2 #[.int .i64 n] 3) :
    Calls Tryz.prog 55 #[.pointer (some ⟨g1, 0, none⟩), .pointer (some ⟨g2, 0, none⟩)] w (PostZE (powR n1 l1 n).1 (powR n1 l1 n).2 w) := by
  unfold powR
  by_cases hok : okI n1 l1 = true
  · rw [if_pos hok]
    have k1 := okI_isInt h1.rd.words hok
    by_cases hn : 0 ≤ n ∧ n ≤ 9600
    · rw [if_pos hn]
      obtain ⟨m, rfl⟩ : ∃ m : Nat, n = (m : Int) := ⟨n.toNat, by omega⟩
      rw [Int.toNat_natCast]
      have hz := pow_z n1 l1 m
      have ha : (toZ n1 l1 ^ m).natAbs = val l1 ^ m := by rw [hz]; split <;> simp
      unfold fitZ
      rw [ha]
      by_cases hs : (lim (val l1 ^ m)).length ≤ 300
      · rw [if_pos hs]
        exact (pow1_ok g1 g2 n1 m A1 c1 l1 w h1 h2 k1 hok (by omega) _ rfl hs _ hz.symm).mono fun e w' h => .ok h
      · rw [if_neg hs]
        exact (pow1_big g1 g2 n1 m A1 c1 l1 w h1 h2 k1 hok (by omega) _ rfl (by omega)).mono fun e w' h => .no h (by decide)
    · rw [if_neg hn]
      exact (pow1_range g1 g2 n1 n A1 c1 l1 w h1 h2 hok hn).mono fun e w' h => .no h (by decide)
  · rw [if_neg hok]
    exact (pow1_bad g1 g2 n1 n A1 c1 l1 w h1 h2 (by simpa using hok)).mono fun e w' h => .no h (by decide)
/-- the boxes of an integer and a number, and a block behind them -/
theorem boxesN (w : World) (n1 : Bool) (n : Int) (A1 : Option Addr) (c1 : Nat) (l1 : List Nat) (h1 : Rd w A1 l1) (hc1 : l1.length ≤ c1) (cur : Array Value) (t : TypeId) :
    ∃ W3, (((w.alloc (.cells #[.bool n1, .slice A1 l1.length c1] 24)).alloc (.cells #[.int .i64 n] 3)).alloc (.cells cur t)) = W3 ∧ Below w.heap.size w W3 ∧
      IntBox W3 w.heap.size n1 A1 c1 l1 ∧ Blk W3 (w.heap.size + 1) #[.int .i64 n] 3 ∧ Blk W3 (w.heap.size + 1 + 1) cur t ∧ W3.heap.size = w.heap.size + 3 := by
  obtain ⟨W3, hW3⟩ : ∃ W3, (((w.alloc (.cells #[.bool n1, .slice A1 l1.length c1] 24)).alloc (.cells #[.int .i64 n] 3)).alloc (.cells cur t)) = W3 := ⟨_, rfl⟩
  have hb3 : Below w.heap.size w W3 := by rw [← hW3]; exact (((Below.refl _ w).alloc (Nat.le_refl _) _).alloc (by simp) _).alloc (by simp; omega) _
  refine ⟨W3, hW3, hb3, ?_, ?_, ?_, ?_⟩
  · exact ⟨by rw [← hW3]; exact (Below.heap_alloc _ _ _ (by simp; omega)).trans ((Below.heap_alloc _ _ _ (by simp)).trans (World.alloc_heap_new w _)), h1.on hb3, hc1⟩
  · exact ⟨by rw [← hW3]; exact (Below.heap_alloc _ _ _ (by simp)).trans (two_blk w _ _)⟩
  · exact ⟨by rw [← hW3]; have := World.alloc_heap_new ((w.alloc (.cells #[.bool n1, .slice A1 l1.length c1] 24)).alloc (.cells #[.int .i64 n] 3)) (.cells cur t); rwa [World.size_alloc, World.size_alloc] at this⟩
  · rw [← hW3]; simp
set_option maxRecDepth 100000 in
set_option maxHeartbeats 4000000 in
theorem Pow_calls (n1 : Bool) (n : Int) (A1 : Option Addr) (c1 : Nat) (l1 : List Nat) (w : World) (h1 : Rd w A1 l1) (hc1 : l1.length ≤ c1) :
    Calls Tryz.prog 18 #[iv n1 A1 l1.length c1, .int .i64 n] w (RetZE (powR n1 l1 n).1 (powR n1 l1 n).2 w) := by
  have hmf : ∀ (fn : Fn) (first cap : Array Value) (w : World), (Instr.makeFunc fn first cap).run Tryz.prog w = .ok (.func fn first cap) w := fun _ _ _ _ => rfl
  obtain ⟨W3, hW3, hb3, B1, B2, hR, hsz⟩ := boxesN w n1 n A1 c1 l1 h1 hc1 #[.bool false, .slice none 0 0] 24
  have hB4 : ∀ o o', Below W3.heap.size W3 ((W3.alloc o).alloc o') := fun o o' => ((Below.refl _ W3).alloc (Nat.le_refl _) _).alloc (by simp) _
  have ht := try_int 55 #[.pointer (some ⟨w.heap.size, 0, none⟩), .pointer (some ⟨w.heap.size + 1, 0, none⟩)] (enters_of Tryz.func55 (by kernel_rfl) rfl) W3 _ _ (pow1_calls _ _ n1 n A1 c1 l1 _ (B1.on (hB4 _ _)) (B2.on (hB4 _ _))) (powR_zero n1 l1 n)
  generalize (powR n1 l1 n).1 = z at *
  generalize (powR n1 l1 n).2 = er at *
  clear hsz
  go_enter Tryz.func18, Tryz.ntmps18
  go_wp2_with (go_at_call 29; refine ht.mono ?_; rintro e w' ⟨s, A, c, l, rfl, hz, hc, hr, hb⟩; have hq := hR.on hb; have z0 := cell_at hq.h 0 _ rfl; have z1 := cell_at hq.h 1 _ rfl; have u0 := frozen_at hq.h 0; have u1 := frozen_at hq.h 1)
  exact ret_cell_tmp (x := .bool s) (y := .slice A l.length c) rfl rfl rfl (set_blk (set_blk hq.h 0 _) 1 _) ⟨s, A, c, l, rfl, hz, hc, rd_sets hr hq _ _, ((hb3.trans (hb.mono hb3.size)).setCell (by dsimp only; omega) _).setCell (by dsimp only; omega) _⟩
end Nm
end Go.Proofs.YtlhmbbpkhahbeaaGreatDoor
namespace Go.Proofs.YtlhmbbpkhahbeaaGreatDoor
namespace Nm
open Go.RowKit Go.Shelf Go.BigFrame
attribute [local go_sem] Oper.semAt_some
/-- the greatest number up to k whose n-th power is at most a -/
def rootTo (a n : Nat) : Nat → Nat
  | 0 => 0
  | k + 1 => if (k + 1) ^ n ≤ a then k + 1 else rootTo a n k
def rootN (a n : Nat) : Nat := rootTo a n a
def ceilN (a n : Nat) : Nat := if rootN a n ^ n < a then rootN a n + 1 else rootN a n
theorem rootTo_of {a n x : Nat} (hx : IsRoot a n x) : ∀ k, x ≤ k → rootTo a n k = x := by
  intro k
  induction k with
  | zero => intro h; simp [rootTo]; omega
  | succ k ih =>
    intro h
    unfold rootTo
    split
    · rename_i h1
      have := hx.2 _ h1
      omega
    · rename_i h1
      refine ih ?_
      rcases Nat.lt_or_ge k x with h2 | h2
      · obtain rfl : x = k + 1 := by omega
        exact absurd hx.1 h1
      · exact h2
theorem le_pow_self (x : Nat) {n : Nat} (hn : 1 ≤ n) : x ≤ x ^ n := by
  rcases Nat.eq_zero_or_pos x with h | h
  · rw [h]; exact Nat.zero_le _
  · have := Nat.pow_le_pow_right h hn
    rwa [Nat.pow_one] at this
theorem rootN_of {a n x : Nat} (hn : 1 ≤ n) (hx : IsRoot a n x) : rootN a n = x :=
  rootTo_of hx a (Nat.le_trans (le_pow_self x hn) hx.1)
/-- what Root returns -/
def rootR (n1 : Bool) (l1 : List Nat) (n : Int) : Int × Int :=
  if okI n1 l1 = true then (if 1 ≤ n ∧ n ≤ 100 then (if (!n1 || (n % 2 == 1)) = true then (if n1 = true then -(ceilN (val l1) n.toNat : Int) else (rootN (val l1) n.toNat : Int), 0) else (0, 5)) else (0, 1)) else (0, 1)
theorem rootR_zero (n1 : Bool) (l1 : List Nat) (n : Int) : (rootR n1 l1 n).2 ≠ 0 → (rootR n1 l1 n).1 = 0 := by
  unfold rootR
  split
  · split
    · split <;> simp
    · simp
  · simp
set_option maxRecDepth 100000 in
set_option maxHeartbeats 4000000 in
theorem root1_bad (g1 g2 : Nat) (n1 : Bool) (n : Int) (A1 : Option Addr) (c1 : Nat) (l1 : List Nat) (w : World) (h1 : IntBox w g1 n1 A1 c1 l1) (h2 : Blk w g2 #[.int .i64 n] 3) (hbad : okI n1 l1 = false) :
    Calls Tryz.prog 60 #[.pointer (some ⟨g1, 0, none⟩), .pointer (some ⟨g2, 0, none⟩)] w fun e w' => e = .panicked (wrong 1) ∧ Below w.heap.size w w' := by
  have x0 := cell_at h1.blk 0 _ rfl
  have x1 := cell_at h1.blk 1 _ rfl
  have y0 := cell_at h2.h 0 _ rfl
  have t1 := (Array.getElem?_eq_some_iff.1 h1.blk).1
  have t2 := (Array.getElem?_eq_some_iff.1 h2.h).1
  have hb2 : ∀ a b, Below w.heap.size w ((w.alloc a).alloc b) := fun a b => ((Below.refl _ w).alloc (Nat.le_refl _) _).alloc (by simp) _
  have hf := fun a => formed_one (w.heap.size + 1) n1 A1 c1 l1 _ (two_blk w a (.cells #[.bool n1, .slice A1 l1.length c1] 24)) (h1.rd.on (hb2 _ _)) h1.cap
  go_enter Tryz.func60, Tryz.ntmps60
  go_wp2_with (go_at_call 24; refine (hf _).mono ?_; rintro e w' ⟨-, hp, hbl⟩; cases hp hbad)
  exact ⟨rfl, rfl, (hb2 _ _).trans (hbl.mono (hb2 _ _).size)⟩
set_option maxRecDepth 100000 in
set_option maxHeartbeats 4000000 in
theorem root1_range (g1 g2 : Nat) (n1 : Bool) (n : Int) (A1 : Option Addr) (c1 : Nat) (l1 : List Nat) (w : World) (h1 : IntBox w g1 n1 A1 c1 l1) (h2 : Blk w g2 #[.int .i64 n] 3) (hok : okI n1 l1 = true) (h0 : ¬ (1 ≤ n ∧ n ≤ 100)) :
    Calls Tryz.prog 60 #[.pointer (some ⟨g1, 0, none⟩), .pointer (some ⟨g2, 0, none⟩)] w fun e w' => e = .panicked (wrong 1) ∧ Below w.heap.size w w' := by
  have x0 := cell_at h1.blk 0 _ rfl
  have x1 := cell_at h1.blk 1 _ rfl
  have y0 := cell_at h2.h 0 _ rfl
  have t1 := (Array.getElem?_eq_some_iff.1 h1.blk).1
  have t2 := (Array.getElem?_eq_some_iff.1 h2.h).1
  have hb2 : ∀ a b, Below w.heap.size w ((w.alloc a).alloc b) := fun a b => ((Below.refl _ w).alloc (Nat.le_refl _) _).alloc (by simp) _
  have hf := fun a => formed_one (w.heap.size + 1) n1 A1 c1 l1 _ (two_blk w a (.cells #[.bool n1, .slice A1 l1.length c1] 24)) (h1.rd.on (hb2 _ _)) h1.cap
  by_cases hn : 1 ≤ n
  · have hn2 : decide (n ≤ 100) = false := decide_eq_false fun h => h0 ⟨hn, h⟩
    clear h0
    go_enter Tryz.func60, Tryz.ntmps60
    go_wp2_with first
      | (go_at_call 24; refine (hf _).mono ?_; rintro e w' ⟨hp, -, hbl⟩; cases hp hok; have hb3 := (hb2 _ _).trans (hbl.mono (hb2 _ _).size); have p0 := cell_at (h1.on hb3).blk 0 _ rfl; have p1 := cell_at (h1.on hb3).blk 1 _ rfl; have p2 := cell_at (h2.on hb3).h 0 _ rfl)
      | (go_at_call 25; refine (must_no 1 _).mono ?_; rintro e w5 ⟨rfl, rfl⟩)
    exact ⟨rfl, rfl, hb3⟩
  · clear h0
    go_enter Tryz.func60, Tryz.ntmps60
    go_wp2_with first
      | (go_at_call 24; refine (hf _).mono ?_; rintro e w' ⟨hp, -, hbl⟩; cases hp hok; have hb3 := (hb2 _ _).trans (hbl.mono (hb2 _ _).size); have p0 := cell_at (h1.on hb3).blk 0 _ rfl; have p1 := cell_at (h1.on hb3).blk 1 _ rfl; have p2 := cell_at (h2.on hb3).h 0 _ rfl)
      | (go_at_call 25; refine (must_no 1 _).mono ?_; rintro e w5 ⟨rfl, rfl⟩)
    exact ⟨rfl, rfl, hb3⟩
set_option maxRecDepth 100000 in
set_option maxHeartbeats 4000000 in
theorem root1_none (g1 g2 : Nat) (m : Nat) (A1 : Option Addr) (c1 : Nat) (l1 : List Nat) (w : World) (h1 : IntBox w g1 true A1 c1 l1) (h2 : Blk w g2 #[.int .i64 (m : Int)] 3) (hok : okI true l1 = true) (hm1 : 1 ≤ m) (hm2 : m ≤ 100) (hpar : ((m : Int) % 2 == 1) = false) :
    Calls Tryz.prog 60 #[.pointer (some ⟨g1, 0, none⟩), .pointer (some ⟨g2, 0, none⟩)] w fun e w' => e = .panicked (wrong 5) ∧ Below w.heap.size w w' := by
  have x0 := cell_at h1.blk 0 _ rfl
  have x1 := cell_at h1.blk 1 _ rfl
  have y0 := cell_at h2.h 0 _ rfl
  have t1 := (Array.getElem?_eq_some_iff.1 h1.blk).1
  have t2 := (Array.getElem?_eq_some_iff.1 h2.h).1
  have hb2 : ∀ a b, Below w.heap.size w ((w.alloc a).alloc b) := fun a b => ((Below.refl _ w).alloc (Nat.le_refl _) _).alloc (by simp) _
  have hf := fun a => formed_one (w.heap.size + 1) true A1 c1 l1 _ (two_blk w a (.cells #[.bool true, .slice A1 l1.length c1] 24)) (h1.rd.on (hb2 _ _)) h1.cap
  have hd1 : decide ((1 : Int) ≤ (m : Int)) = true := decide_eq_true (by omega)
  have hd2 : decide (1 ≤ m) = true := decide_eq_true (by omega)
  have hd3 : decide ((m : Int) ≤ 100) = true := decide_eq_true (by omega)
  have hd4 : decide (m ≤ 100) = true := decide_eq_true (by omega)
  go_enter Tryz.func60, Tryz.ntmps60
  go_wp2_with first
    | (go_at_call 24; refine (hf _).mono ?_; rintro e w' ⟨hp, -, hbl⟩; cases hp hok; have hb3 := (hb2 _ _).trans (hbl.mono (hb2 _ _).size); have p0 := cell_at (h1.on hb3).blk 0 _ rfl; have p1 := cell_at (h1.on hb3).blk 1 _ rfl; have p2 := cell_at (h2.on hb3).h 0 _ rfl)
    | (go_at_call 25; have hmark := m5; refine (must_no 5 _).mono ?_; rintro e w5 ⟨rfl, rfl⟩)
    | (go_at_call 25; refine (must_ok 1 _).mono ?_; rintro e w4 ⟨rfl, rfl⟩; have m5 : True := trivial)
  exact ⟨rfl, rfl, hb3⟩
set_option maxRecDepth 100000 in
set_option maxHeartbeats 4000000 in
theorem root1_pos (g1 g2 : Nat) (m : Nat) (A1 : Option Addr) (c1 : Nat) (l1 : List Nat) (w : World) (h1 : IntBox w g1 false A1 c1 l1) (h2 : Blk w g2 #[.int .i64 (m : Int)] 3) (k1 : IsInt false l1) (hok : okI false l1 = true) (hm1 : 1 ≤ m) (hm2 : m ≤ 100) :
    Calls Tryz.prog 60 #[.pointer (some ⟨g1, 0, none⟩), .pointer (some ⟨g2, 0, none⟩)] w (RetZ (rootN (val l1) m : Int) w) := by
  have x0 := cell_at h1.blk 0 _ rfl
  have x1 := cell_at h1.blk 1 _ rfl
  have y0 := cell_at h2.h 0 _ rfl
  have t1 := (Array.getElem?_eq_some_iff.1 h1.blk).1
  have t2 := (Array.getElem?_eq_some_iff.1 h2.h).1
  have hb2 : ∀ a b, Below w.heap.size w ((w.alloc a).alloc b) := fun a b => ((Below.refl _ w).alloc (Nat.le_refl _) _).alloc (by simp) _
  have hf := fun a => formed_one (w.heap.size + 1) false A1 c1 l1 _ (two_blk w a (.cells #[.bool false, .slice A1 l1.length c1] 24)) (h1.rd.on (hb2 _ _)) h1.cap
  have hd1 : decide ((1 : Int) ≤ (m : Int)) = true := decide_eq_true (by omega)
  have hd2 : decide (1 ≤ m) = true := decide_eq_true (by omega)
  have hd3 : decide ((m : Int) ≤ 100) = true := decide_eq_true (by omega)
  have hd4 : decide (m ≤ 100) = true := decide_eq_true (by omega)
  have hro := fun W (hW : Below w.heap.size w W) => root_calls A1 c1 (val l1) m W (by rw [lim_val k1.canon]; exact h1.rd.on hW) (by rw [lim_val k1.canon]; exact h1.cap) (by rw [lim_val k1.canon]; exact k1.small) hm1 hm2
  rw [lim_val k1.canon] at hro
  have hsm : (lim (val l1)).length ≤ 300 := by rw [lim_val k1.canon]; exact k1.small
  have hqx := two_old w (.cells #[.bool false, .slice none 0 0] 24) (.cells #[.bool false, .slice A1 l1.length c1] 24) rfl
  go_enter Tryz.func60, Tryz.ntmps60
  go_wp2_with first
    | (go_at_call 24; refine (hf _).mono ?_; rintro e w' ⟨hp, -, hbl⟩; cases hp hok; have hb3 := (hb2 _ _).trans (hbl.mono (hb2 _ _).size); have p0 := cell_at (h1.on hb3).blk 0 _ rfl; have p1 := cell_at (h1.on hb3).blk 1 _ rfl; have p2 := cell_at (h2.on hb3).h 0 _ rfl)
    | (go_at_call 25; have hmark := m5; refine (must_ok 5 _).mono ?_; rintro e w5 ⟨rfl, rfl⟩)
    | (go_at_call 25; refine (must_ok 1 _).mono ?_; rintro e w4 ⟨rfl, rfl⟩; have m5 : True := trivial)
    | (go_at_call 61; refine (hro _ hb3).mono ?_; rintro e w6 ⟨x, hx, A6, c6, rfl, n6, r6, b6⟩; have hx6 : (lim x).length ≤ 300 := Nat.le_trans (length_mono (Nat.le_trans (le_pow_self x hm1) hx.1)) hsm; have hb6 := hb3.trans (b6.mono hb3.size); have i0 := cell_at (h1.on hb6).blk 0 _ rfl; have i1 := cell_at (h1.on hb6).blk 1 _ rfl; have i2 := cell_at (h2.on hb6).h 0 _ rfl)
    | (go_at_call 33; refine (whole_z false x hx6 A6 c6 _ r6 n6).mono ?_; rintro e w7 ⟨s7, A7, c7, l7, rfl, z7, n7, r7, b7⟩; have hb7 := hb6.trans (b7.mono hb6.size); have hq7 := ((hqx.on hbl).on b6).on b7; have z0 := cell_at hq7.h 0 _ rfl; have z1 := cell_at hq7.h 1 _ rfl; have u0 := frozen_at hq7.h 0; have u1 := frozen_at hq7.h 1)
  exact ret_cell rfl rfl rfl (set_blk (set_blk hq7.h 0 _) 1 _) ⟨s7, A7, c7, l7, rfl, z7.cast (by rw [rootN_of hm1 hx]; rfl), n7, rd_sets r7 hq7 _ _, (hb7.setCell (Nat.le_refl _) _).setCell (Nat.le_refl _) _⟩
set_option maxRecDepth 100000 in
set_option maxHeartbeats 4000000 in
theorem root1_neg (g1 g2 : Nat) (m : Nat) (A1 : Option Addr) (c1 : Nat) (l1 : List Nat) (w : World) (h1 : IntBox w g1 true A1 c1 l1) (h2 : Blk w g2 #[.int .i64 (m : Int)] 3) (k1 : IsInt true l1) (hok : okI true l1 = true) (hm1 : 1 ≤ m) (hm2 : m ≤ 100) (hpar : ((m : Int) % 2 == 1) = true) :
    Calls Tryz.prog 60 #[.pointer (some ⟨g1, 0, none⟩), .pointer (some ⟨g2, 0, none⟩)] w (RetZ (-(ceilN (val l1) m : Int)) w) := by
  have x0 := cell_at h1.blk 0 _ rfl
  have x1 := cell_at h1.blk 1 _ rfl
  have y0 := cell_at h2.h 0 _ rfl
  have t1 := (Array.getElem?_eq_some_iff.1 h1.blk).1
  have t2 := (Array.getElem?_eq_some_iff.1 h2.h).1
  have hb2 : ∀ a b, Below w.heap.size w ((w.alloc a).alloc b) := fun a b => ((Below.refl _ w).alloc (Nat.le_refl _) _).alloc (by simp) _
  have hf := fun a => formed_one (w.heap.size + 1) true A1 c1 l1 _ (two_blk w a (.cells #[.bool true, .slice A1 l1.length c1] 24)) (h1.rd.on (hb2 _ _)) h1.cap
  have hd1 : decide ((1 : Int) ≤ (m : Int)) = true := decide_eq_true (by omega)
  have hd2 : decide (1 ≤ m) = true := decide_eq_true (by omega)
  have hd3 : decide ((m : Int) ≤ 100) = true := decide_eq_true (by omega)
  have hd4 : decide (m ≤ 100) = true := decide_eq_true (by omega)
  have hro := fun W (hW : Below w.heap.size w W) => root_calls A1 c1 (val l1) m W (by rw [lim_val k1.canon]; exact h1.rd.on hW) (by rw [lim_val k1.canon]; exact h1.cap) (by rw [lim_val k1.canon]; exact k1.small) hm1 hm2
  rw [lim_val k1.canon] at hro
  have hsm : (lim (val l1)).length ≤ 300 := by rw [lim_val k1.canon]; exact k1.small
  have hqx := two_old w (.cells #[.bool false, .slice none 0 0] 24) (.cells #[.bool true, .slice A1 l1.length c1] 24) rfl
  go_enter Tryz.func60, Tryz.ntmps60
  go_wp2_with first
    | (go_at_call 24; refine (hf _).mono ?_; rintro e w' ⟨hp, -, hbl⟩; cases hp hok; have hb3 := (hb2 _ _).trans (hbl.mono (hb2 _ _).size); have p0 := cell_at (h1.on hb3).blk 0 _ rfl; have p1 := cell_at (h1.on hb3).blk 1 _ rfl; have p2 := cell_at (h2.on hb3).h 0 _ rfl)
    | (go_at_call 25; have hmark := m5; refine (must_ok 5 _).mono ?_; rintro e w5 ⟨rfl, rfl⟩)
    | (go_at_call 25; refine (must_ok 1 _).mono ?_; rintro e w4 ⟨rfl, rfl⟩; have m5 : True := trivial)
    | (go_at_call 61; refine (hro _ hb3).mono ?_; rintro e w6 ⟨x, hx, A6, c6, rfl, n6, r6, b6⟩; have hb6 := hb3.trans (b6.mono hb3.size); have i0 := cell_at (h1.on hb6).blk 0 _ rfl; have i1 := cell_at (h1.on hb6).blk 1 _ rfl; have i2 := cell_at (h2.on hb6).h 0 _ rfl; have w6a : ∀ o, (w6.alloc o).cell? ⟨g2, 0, none⟩ = some (.int .i64 (m : Int)) := (fun o => cell_at ((h2.on hb6).on ((Below.refl _ w6).alloc (Nat.le_refl _) o)).h 0 _ rfl))
  have hpl : ∀ i, i ≤ m → (lim (x ^ i)).length ≤ 300 := fun i hi => by
    rcases Nat.eq_zero_or_pos x with h | h
    · rw [h]
      rcases Nat.eq_zero_or_pos i with h' | h'
      · rw [h', Nat.pow_zero, one_word (by decide) (by decide)]; simp
      · rw [Nat.zero_pow h', lim_zero]; simp
    · exact Nat.le_trans (length_mono (Nat.le_trans (Nat.pow_le_pow_right h hi) hx.1)) hsm
  have hx6 : (lim x).length ≤ 300 := Nat.le_trans (length_mono (Nat.le_trans (le_pow_self x hm1) hx.1)) hsm
  have Hpl := Lib.hid hpl
  have hq6 := (hqx.on hbl).on b6
  have hW6 : ∀ o, Below w6.heap.size w6 (w6.alloc o) := fun o => (Below.refl _ _).alloc (Nat.le_refl _) _
  have hmul : ∀ W p A' d', Below w6.heap.size w6 W → Rd W A' (lim p) → (lim p).length ≤ d' → (lim p).length ≤ 300 → Calls Tryz.prog 59 #[.slice A' (lim p).length d', .slice A6 (lim x).length c6] W (RetNat (p * x) W) := by
    intro W p A' d' hW h1 h2 h3
    have := mul_calls A' A6 d' c6 (lim p) (lim x) W h1 (r6.on hW) h2 n6 (canon_lim _) (canon_lim _) (by omega)
    rwa [val_lim, val_lim] at this
  clear hpl hro hf x0 x1 y0 p0 p1 p2
  go_loopw [4, 32] (fun p i W => ∃ (k : Nat) (A' : Option Addr) (d' : Nat), i = .int .i64 (k : Int) ∧ k ≤ m ∧ p = .slice A' (lim (x ^ k)).length d' ∧ (lim (x ^ k)).length ≤ d' ∧ Rd W A' (lim (x ^ k)) ∧ Below w6.heap.size w6 W) (fun _ i _ => m - (intOf i).toNat)
  case atStart =>
    refine ⟨0, some ⟨w6.heap.size, 0, none⟩, 1, rfl, Nat.zero_le _, ?_, ?_, ?_, hW6 _⟩
    · rw [Nat.pow_zero, one_word (by decide) (by decide)]; rfl
    · rw [Nat.pow_zero, one_word (by decide) (by decide)]; simp
    · rw [Nat.pow_zero]; exact rd_word w6 (n := 1) (by decide) (by decide)
  case round =>
    obtain ⟨k, A', d', rfl, hk, rfl, hd', hr', hbl'⟩ := hrel
    have e0 := cell_at (h1.on (hb6.trans (hbl'.mono hb6.size))).blk 0 _ rfl
    have e1 := cell_at (h1.on (hb6.trans (hbl'.mono hb6.size))).blk 1 _ rfl
    by_cases hkm : k < m
    · have hm2' := hmul wr (x ^ k) A' d' hbl' hr' hd' (Hpl.out k (by omega))
      rw [← Nat.pow_succ] at hm2'
      obtain ⟨pk, hpk⟩ : ∃ q, x ^ k = q := ⟨_, rfl⟩
      obtain ⟨pk1, hpk1⟩ : ∃ q, x ^ (k + 1) = q := ⟨_, rfl⟩
      rw [hpk] at hm2' ⊢
      rw [hpk1] at hm2'
      have Hpk1 := Lib.hid hpk1
      clear hpk hpk1 hmul
      go_wp2_with (go_at_call 59; refine hm2'.mono ?_; rintro e w5 ⟨B2, d2, rfl, n2, r2, x2⟩)
      refine ⟨⟨k + 1, B2, d2, by simp, by omega, by rw [Hpk1.out], by rw [Hpk1.out]; exact n2, by rw [Hpk1.out]; exact r2, hbl'.trans (x2.mono hbl'.size)⟩, by simp only [intOf]; omega⟩
    · obtain rfl : k = m := by omega
      have hbw := hb6.trans (hbl'.mono hb6.size)
      have hcp := compare_calls A' A1 d' c1 (lim (x ^ k)) l1 wr hr' (h1.rd.on hbw) hd' h1.cap (canon_lim _) k1.canon
      rw [val_lim] at hcp
      have hxk := hx.1
      have hrn := rootN_of hm1 hx
      have hq8 := hq6.on hbl'
      have r6' := r6.on hbl'
      obtain ⟨pk, hpk⟩ : ∃ q, x ^ k = q := ⟨_, rfl⟩
      rw [hpk] at hcp hr' hd' hxk ⊢
      clear hmul hkm
      by_cases hlt : pk < val l1
      · rw [show cmpZ (pk : Int) (val l1 : Int) = -1 from if_pos (by omega)] at hcp
        obtain ⟨x1, hx1⟩ : ∃ x1, x + 1 = x1 := ⟨_, rfl⟩
        have hx1l : (lim x1).length ≤ 300 := Nat.le_trans (length_mono (show x1 ≤ val l1 by have := le_pow_self x hm1; rw [hpk] at this; omega)) hsm
        have hcl : -((ceilN (val l1) k : Nat) : Int) = -(x1 : Int) := by unfold ceilN; rw [hrn, if_pos (by rw [hpk]; exact hlt), hx1]
        have Hcl := Lib.hid hcl
        have Hx1 := Lib.hid hx1
        clear hcl hx1 hpk hlt hrn hx hxk
        go_wp2_with first
          | (go_at_call 62; refine hcp.mono ?_; rintro e w7 ⟨rfl, nn, rfl⟩)
          | (go_at_call 52; refine (add_one A6 c6 x x1 _ _ Hx1.out (r6'.on ((below_drewN (Below.refl _ wr) nn).alloc (Nat.le_refl _) _)) n6 (by omega) (rd_one _)).mono ?_; rintro e w8 ⟨A8, c8, rfl, n8, r8, b8⟩; have b78 := ((below_drewN (Below.refl _ wr) nn).alloc (Nat.le_refl _) (.cells #[.int .u32 1] 50)).trans (b8.mono (by simp)); have hb8 := hbw.trans (b78.mono hbw.size); have f0 := cell_at (h1.on hb8).blk 0 _ rfl; have hq9 := hq8.on b78)
          | (go_at_call 33; refine (whole_z true x1 hx1l A8 c8 _ r8 n8).mono ?_; rintro e w9 ⟨s7, A7, c7, l7, rfl, z7, n7, r7, b7⟩; have hb9 := hb8.trans (b7.mono hb8.size); have hq7 := hq9.on b7; have z0 := cell_at hq7.h 0 _ rfl; have z1 := cell_at hq7.h 1 _ rfl; have u0 := frozen_at hq7.h 0; have u1 := frozen_at hq7.h 1)
        exact ret_cell rfl rfl rfl (set_blk (set_blk hq7.h 0 _) 1 _) ⟨s7, A7, c7, l7, rfl, z7.cast (by rw [Hcl.out]; simp), n7, rd_sets r7 hq7 _ _, (hb9.setCell (Nat.le_refl _) _).setCell (Nat.le_refl _) _⟩
      · rw [show cmpZ (pk : Int) (val l1 : Int) = 0 from by unfold cmpZ; rw [if_neg (by omega), if_neg (by omega)]] at hcp
        have hcl : -((ceilN (val l1) k : Nat) : Int) = -(x : Int) := by unfold ceilN; rw [hrn, if_neg (by rw [hpk]; exact hlt)]
        have Hcl := Lib.hid hcl
        clear hcl hpk hlt hrn hx hxk
        go_wp2_with first
          | (go_at_call 62; refine hcp.mono ?_; rintro e w7 ⟨rfl, nn, rfl⟩)
          | (go_at_call 33; refine (whole_z true x hx6 A6 c6 _ (r6'.on (below_drewN (Below.refl _ wr) nn)) n6).mono ?_; rintro e w9 ⟨s7, A7, c7, l7, rfl, z7, n7, r7, b7⟩; have b79 := (below_drewN (Below.refl _ wr) nn).trans b7; have hb9 := hbw.trans (b79.mono hbw.size); have hq7 := hq8.on b79; have z0 := cell_at hq7.h 0 _ rfl; have z1 := cell_at hq7.h 1 _ rfl; have u0 := frozen_at hq7.h 0; have u1 := frozen_at hq7.h 1)
        exact ret_cell rfl rfl rfl (set_blk (set_blk hq7.h 0 _) 1 _) ⟨s7, A7, c7, l7, rfl, z7.cast (by rw [Hcl.out]; simp), n7, rd_sets r7 hq7 _ _, (hb9.setCell (Nat.le_refl _) _).setCell (Nat.le_refl _) _⟩
theorem root1_calls (g1 g2 : Nat) (n1 : Bool) (n : Int) (A1 : Option Addr) (c1 : Nat) (l1 : List Nat) (w : World) (h1 : IntBox w g1 n1 A1 c1 l1) (h2 : Blk w g2 #[.int .i64 n] 3) :
    Calls Tryz.prog 60 #[.pointer (some ⟨g1, 0, none⟩), .pointer (some ⟨g2, 0, none⟩)] w (PostZE (rootR n1 l1 n).1 (rootR n1 l1 n).2 w) := by
  unfold rootR
  by_cases hok : okI n1 l1 = true
  · rw [if_pos hok]
    have k1 := okI_isInt h1.rd.words hok
    by_cases hn : 1 ≤ n ∧ n ≤ 100
    · rw [if_pos hn]
      obtain ⟨m, rfl⟩ : ∃ m : Nat, n = (m : Int) := ⟨n.toNat, by omega⟩
      rw [Int.toNat_natCast]
      cases n1
      · rw [if_pos (by simp)]
        exact (root1_pos g1 g2 m A1 c1 l1 w h1 h2 k1 hok (by omega) (by omega)).mono fun e w' h => .ok h
      · by_cases hp : ((m : Int) % 2 == 1) = true
        · rw [if_pos (by rw [hp]; rfl)]
          exact (root1_neg g1 g2 m A1 c1 l1 w h1 h2 k1 hok (by omega) (by omega) hp).mono fun e w' h => .ok h
        · have hp' : ((m : Int) % 2 == 1) = false := by simpa using hp
          rw [if_neg (by rw [hp']; simp)]
          exact (root1_none g1 g2 m A1 c1 l1 w h1 h2 hok (by omega) (by omega) hp').mono fun e w' h => .no h (by decide)
    · rw [if_neg hn]
      exact (root1_range g1 g2 n1 n A1 c1 l1 w h1 h2 hok hn).mono fun e w' h => .no h (by decide)
  · rw [if_neg hok]
    exact (root1_bad g1 g2 n1 n A1 c1 l1 w h1 h2 (by simpa using hok)).mono fun e w' h => .no h (by decide)
set_option maxRecDepth 100000 in
set_option maxHeartbeats 4000000 in
theorem Root_calls (n1 : Bool) (n : Int) (A1 : Option Addr) (c1 : Nat) (l1 : List Nat) (w : World) (h1 : Rd w A1 l1) (hc1 : l1.length ≤ c1) :
    Calls Tryz.prog 20 #[iv n1 A1 l1.length c1, .int .i64 n] w (RetZE (rootR n1 l1 n).1 (rootR n1 l1 n).2 w) := by
  have hmf : ∀ (fn : Fn) (first cap : Array Value) (w : World), (Instr.makeFunc fn first cap).run Tryz.prog w = .ok (.func fn first cap) w := fun _ _ _ _ => rfl
  obtain ⟨W3, hW3, hb3, B1, B2, hR, hsz⟩ := boxesN w n1 n A1 c1 l1 h1 hc1 #[.bool false, .slice none 0 0] 24
  have hB4 : ∀ o o', Below W3.heap.size W3 ((W3.alloc o).alloc o') := fun o o' => ((Below.refl _ W3).alloc (Nat.le_refl _) _).alloc (by simp) _
  have ht := try_int 60 #[.pointer (some ⟨w.heap.size, 0, none⟩), .pointer (some ⟨w.heap.size + 1, 0, none⟩)] (enters_of Tryz.func60 (by kernel_rfl) rfl) W3 _ _ (root1_calls _ _ n1 n A1 c1 l1 _ (B1.on (hB4 _ _)) (B2.on (hB4 _ _))) (rootR_zero n1 l1 n)
  generalize (rootR n1 l1 n).1 = z at *
  generalize (rootR n1 l1 n).2 = er at *
  clear hsz
  go_enter Tryz.func20, Tryz.ntmps20
  go_wp2_with (go_at_call 29; refine ht.mono ?_; rintro e w' ⟨s, A, c, l, rfl, hz, hc, hr, hb⟩; have hq := hR.on hb; have z0 := cell_at hq.h 0 _ rfl; have z1 := cell_at hq.h 1 _ rfl; have u0 := frozen_at hq.h 0; have u1 := frozen_at hq.h 1)
  exact ret_cell_tmp (x := .bool s) (y := .slice A l.length c) rfl rfl rfl (set_blk (set_blk hq.h 0 _) 1 _) ⟨s, A, c, l, rfl, hz, hc, rd_sets hr hq _ _, ((hb3.trans (hb.mono hb3.size)).setCell (by dsimp only; omega) _).setCell (by dsimp only; omega) _⟩
end Nm
end Go.Proofs.YtlhmbbpkhahbeaaGreatDoor
