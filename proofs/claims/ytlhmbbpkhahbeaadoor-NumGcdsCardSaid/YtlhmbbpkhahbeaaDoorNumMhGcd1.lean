/-
  Small facts on boxes and lengths.
  The specification's Gcd.
  Small facts for the laws.
  The law's small; Gcd on integers that fit, with its factors.
  The law NumGcds: the walk.
  NumGcds: the row, the card. For every input the law returns true. The integers that came in are whatever the row lets in; the digits' table reads as the program's text lays it (the card ties it).
-/
import Derived.Test.YtlhmbbpkhahbeaaDoorNumMhPad1
import Derived.Test.YtlhmbbpkhahbeaaDoorTie
import Derived.Test.YtlhmbbpkhahbeaaDoorCards
import Derived.SevenTiedAt
namespace Go.Proofs.YtlhmbbpkhahbeaaDoor
namespace Nm
open Go.RowKit Go.Shelf Go.BigFrame

theorem IsZ.len_le {s : Bool} {l : List Nat} {z : Int} {k : Nat} (h : IsZ s l z) (hs : (lim z.natAbs).length ≤ k) : l.length ≤ k := by rw [h.abs]; exact hs
theorem al1 (W : World) (o : Obj) : Below W.heap.size W (W.alloc o) := (Below.refl _ W).alloc (Nat.le_refl _) _
theorem Times_z (n1 n2 : Bool) (A1 A2 : Option Addr) (c1 c2 : Nat) (l1 l2 : List Nat) (z1 z2 : Int) (w : World) (h1 : Rd w A1 l1) (h2 : Rd w A2 l2) (hc1 : l1.length ≤ c1) (hc2 : l2.length ≤ c2) (k1 : IsZ n1 l1 z1) (k2 : IsZ n2 l2 z2) (hs1 : l1.length ≤ 65536) (hs2 : l2.length ≤ 65536) :
    Calls Tryd.prog 30 #[iv n1 A1 l1.length c1, iv n2 A2 l2.length c2] w (RetZ (z1 * z2) w) := by
  have h := Times_calls n1 n2 A1 A2 c1 c2 l1 l2 w h1 h2 hc1 hc2 hs1 hs2
  rwa [k1.toZ, k2.toZ] at h

end Nm
end Go.Proofs.YtlhmbbpkhahbeaaDoor
namespace Go.Proofs.YtlhmbbpkhahbeaaDoor
namespace Nm
open Go.RowKit Go.Shelf Go.BigFrame
attribute [local go_sem] Oper.semAt_some

theorem gcd_step (a b : Int) : Int.gcd b (modZ a b) = Int.gcd a b := by
  unfold modZ
  rw [Int.gcd_sub_mul_left_right, Int.gcd_comm]

theorem modZ_lt (a b : Int) (hb : b ≠ 0) : (modZ a b).natAbs < b.natAbs := by
  unfold modZ divZ
  by_cases h : 0 < b
  · rw [if_pos h]
    have h1 := Int.emod_nonneg a hb
    have h2 := Int.emod_lt_of_pos a h
    have h3 := Int.mul_ediv_add_emod a b
    omega
  · rw [if_neg h]
    have h1 := Int.emod_nonneg (-a) (show -b ≠ 0 by omega)
    have h2 := Int.emod_lt_of_pos (-a) (show 0 < -b by omega)
    have h3 := Int.mul_ediv_add_emod (-a) (-b)
    rw [Int.neg_mul] at h3
    omega

theorem gcd_zero_r {x y : Int} {G : Nat} (h : Int.gcd x y = G) (hy : y = 0) : x.natAbs = G := by
  rw [hy, Int.gcd_zero_right] at h; exact h

theorem HoldsZ.on {W W' : World} {g : Nat} {s : Bool} {A : Option Addr} {c : Nat} {l : List Nat} {z : Int} (h : HoldsZ W g s A c l z) (hb : Below W.heap.size W W') : HoldsZ W' g s A c l z := ⟨h.blk.on hb, h.isz, h.rd.on hb, h.cap⟩

theorem move_pair {W : World} {g g' : Nat} {s1 s2 s6 : Bool} {A1 A2 A6 : Option Addr} {c1 c2 c6 : Nat} {l1 l2 l6 : List Nat} {x y r : Int} (K1 : HoldsZ W g s1 A1 c1 l1 x) (K2 : HoldsZ W g' s2 A2 c2 l2 y) (r6 : Rd W A6 l6) (z6 : IsZ s6 l6 r) (n6 : l6.length ≤ c6) (hne : g ≠ g') :
    HoldsZ ((((W.setCell ⟨g, 0, none⟩ (.bool s2)).setCell ⟨g, 1, none⟩ (.slice A2 l2.length c2)).setCell ⟨g', 0, none⟩ (.bool s6)).setCell ⟨g', 1, none⟩ (.slice A6 l6.length c6)) g s2 A2 c2 l2 y ∧
    HoldsZ ((((W.setCell ⟨g, 0, none⟩ (.bool s2)).setCell ⟨g, 1, none⟩ (.slice A2 l2.length c2)).setCell ⟨g', 0, none⟩ (.bool s6)).setCell ⟨g', 1, none⟩ (.slice A6 l6.length c6)) g' s6 A6 c6 l6 r := by
  have o : ∀ {X : World} {a : Addr} {v : Value} {g : Nat}, g ≠ a.block → (X.setCell a v).heap[g]? = X.heap[g]? := fun {X a v g} h => Below.heap_setCell _ _ _ g h
  have M1 := holds_set K1.blk (by simp) (by simp) K2.isz K2.rd K2.cap
  have k2 : Blk ((W.setCell ⟨g, 0, none⟩ (.bool s2)).setCell ⟨g, 1, none⟩ (.slice A2 l2.length c2)) g' #[.bool s2, .slice A2 l2.length c2] 24 := ⟨(o hne.symm).trans ((o hne.symm).trans K2.blk.h)⟩
  have m6 := r6.ne K1.blk.h (noword2 (by simp) (by simp))
  have r6' := (r6.setNe (i := 0) (v := .bool s2) m6).setNe (i := 1) (v := .slice A2 l2.length c2) m6
  have M2 := holds_set k2 (by simp) (by simp) z6 r6' n6
  have m1 := M1.rd.ne k2.h (noword2 (by simp) (by simp))
  exact ⟨⟨⟨(o hne).trans ((o hne).trans M1.blk.h)⟩, M1.isz, (M1.rd.setNe m1).setNe m1, M1.cap⟩, M2⟩

def cellVal (g : Nat) (W : World) : Nat := slotVal ((W.cell? ⟨g, 1, none⟩).getD undef) W
theorem cellVal_eq {W : World} {g : Nat} {s : Bool} {A : Option Addr} {c : Nat} {l : List Nat} {z : Int} (h : HoldsZ W g s A c l z) : cellVal g W = z.natAbs := by
  unfold cellVal
  rw [cell_at h.blk.h 1 (.slice A l.length c) rfl, Option.getD_some, slotVal_eq h.rd, h.isz.val]

set_option maxRecDepth 100000 in
set_option maxHeartbeats 4000000 in
theorem RGcd_calls (n1 n2 : Bool) (A1 A2 : Option Addr) (c1 c2 : Nat) (l1 l2 : List Nat) (z1 z2 : Int) (w : World) (h1 : Rd w A1 l1) (h2 : Rd w A2 l2) (hc1 : l1.length ≤ c1) (hc2 : l2.length ≤ c2) (k1 : IsZ n1 l1 z1) (k2 : IsZ n2 l2 z2) (hs1 : l1.length ≤ 65535) (hs2 : l2.length ≤ 65535) :
    Calls Tryd.prog 28 #[iv n1 A1 l1.length c1, iv n2 A2 l2.length c2] w (RetZ (Int.gcd z1 z2) w) := by
  obtain ⟨W3, hW3, hb3, B1, B2, hR, hsz⟩ := boxes3 w n1 n2 A1 A2 c1 c2 l1 l2 h1 h2 hc1 hc2 #[.bool false, .slice none 0 0] 24
  have G1 : HoldsZ W3 w.heap.size n1 A1 c1 l1 z1 := ⟨⟨B1.blk⟩, k1, B1.rd, hc1⟩
  have G2 : HoldsZ W3 (w.heap.size + 1) n2 A2 c2 l2 z2 := ⟨⟨B2.blk⟩, k2, B2.rd, hc2⟩
  obtain ⟨G, hG⟩ : ∃ G, Int.gcd z1 z2 = G := ⟨_, rfl⟩
  rw [hG]
  have HG := Lib.hid hG
  have t1 : Hid ((lim z1.natAbs).length ≤ 65535) := by show _ ≤ _; rw [← k1.abs]; exact hs1
  have t2 : Hid ((lim z2.natAbs).length ≤ 65535) := by show _ ≤ _; rw [← k2.abs]; exact hs2
  have hbs := hb3.size
  clear hG h1 h2 hc1 hc2 k1 k2 hs1 hs2 B1 B2
  go_enter Tryd.func28, Tryd.ntmps28
  go_wp2_with fail
  clear hW3
  go_loopw [5] (fun _ W => ∃ (n1 n2 : Bool) (A1 A2 : Option Addr) (c1 c2 : Nat) (l1 l2 : List Nat) (z1 z2 : Int), HoldsZ W w.heap.size n1 A1 c1 l1 z1 ∧ HoldsZ W (w.heap.size + 1) n2 A2 c2 l2 z2 ∧ Blk W (w.heap.size + 1 + 1) #[.bool false, .slice none 0 0] 24 ∧ Below w.heap.size w W ∧ w.heap.size + 1 + 1 < W.heap.size ∧ Hid (Int.gcd z1 z2 = G) ∧ Hid ((lim z1.natAbs).length ≤ 65535) ∧ Hid ((lim z2.natAbs).length ≤ 65535)) (fun _ W => cellVal (w.heap.size + 1) W)
  case atStart => exact ⟨n1, n2, A1, A2, c1, c2, l1, l2, z1, z2, G1, G2, hR, hb3, by omega, HG, t1, t2⟩
  case round =>
    clear G1 G2 HG t1 t2
    obtain ⟨s1, s2, A1, A2, c1, c2, l1, l2, x, y, H1, H2, hq, hbl, hsz, hG, t1, t2⟩ := hrel
    have hs1 : l1.length ≤ 65535 := H1.isz.len_le t1.out
    have hs2 : l2.length ≤ 65535 := H2.isz.len_le t2.out
    have x0 := cell_at H1.blk.h 0 _ rfl
    have x1 := cell_at H1.blk.h 1 _ rfl
    have y0 := cell_at H2.blk.h 0 _ rfl
    have y1 := cell_at H2.blk.h 1 _ rfl
    by_cases hy : y = 0
    · have hl2 : l2.length = 0 := by rw [H2.isz.abs, hy]; exact congrArg List.length lim_zero
      have hx := gcd_zero_r hG.out hy
      have hl0 : ¬ (0 : Int) < (l2.length : Int) := by omega
      have hl1 : ¬ 0 < l2.length := by omega
      have hm := fun W' h hc => made_calls false A1 c1 l1 W' h hc
      rw [H1.isz.val, hx] at hm
      clear hy hx hG t1 t2 hl2
      have r0 := cell_at hq.h 0 _ rfl
      go_wp2_with (go_at_call 70; refine (hm _ H1.rd H1.cap).mono ?_; rintro e w5 ⟨s5, A5, c5, l5, rfl, z5, n5, r5, b5⟩; have hq5 := hq.on b5; have v0 := cell_at hq5.h 0 _ rfl; have v1 := cell_at hq5.h 1 _ rfl; have v2 := frozen_at hq5.h 0; have v3 := frozen_at hq5.h 1)
      exact ret_cell rfl rfl rfl (set_blk (set_blk hq5.h 0 _) 1 _) ⟨s5, A5, c5, l5, rfl, by simpa using z5, n5, rd_sets r5 hq5 _ _, (((hbl.trans (b5.mono hbl.size)).setCell (by dsimp only; omega) _).setCell (by dsimp only; omega) _)⟩
    · have hp2 : 0 < l2.length := by rw [H2.isz.abs]; exact lim_length_pos (by omega)
      have hl0 : (0 : Int) < (l2.length : Int) := by omega
      have Hl := Lib.hid (modZ_lt x y hy)
      have HG' : Hid (Int.gcd y (modZ x y) = G) := by show _ = _; rw [gcd_step]; exact hG.out
      have hdv := Divide_calls s1 s2 A1 A2 c1 c2 l1 l2 x y wr H1.rd H2.rd H1.cap H2.cap H1.isz H2.isz hy hs1 hs2
      obtain ⟨q, hq'⟩ : ∃ q, divZ x y = q := ⟨_, rfl⟩
      obtain ⟨r, hr'⟩ : ∃ q, modZ x y = q := ⟨_, rfl⟩
      rw [hr'] at Hl HG'
      rw [hq', hr'] at hdv
      have H1' := Lib.hid H1
      have H2' := Lib.hid H2
      clear hq' hr' hy hs1 hs2 hp2 hG t1
      go_wp2_with (go_at_call 62; refine hdv.mono ?_; rintro e w5 ⟨s5, A5, c5, l5, s6, A6, c6, l6, rfl, z5, z6, n5, n6, r5, r6, b5⟩; have K1 := H1'.out.on b5; have K2 := H2'.out.on b5; have v0 := cell_at K1.blk.h 0 _ rfl; have v1 := cell_at K1.blk.h 1 _ rfl; have v2 := frozen_at K1.blk.h 0; have v3 := frozen_at K1.blk.h 1; have v4 := cell_at K2.blk.h 0 _ rfl; have v5 := cell_at K2.blk.h 1 _ rfl; have v6 := frozen_at K2.blk.h 0; have v7 := frozen_at K2.blk.h 1; have hsz5 := Nat.lt_of_lt_of_le hsz b5.size; have lt2 : w.heap.size < w5.heap.size := (by omega); have lt3 : w.heap.size + 1 < w5.heap.size := (by omega); have en2 : ¬ w.heap.size = w5.heap.size := (by omega); have en3 : ¬ w5.heap.size = w.heap.size := (by omega); have en4 : ¬ w.heap.size + 1 = w5.heap.size := (by omega); have en5 : ¬ w5.heap.size = w.heap.size + 1 := (by omega))
      obtain ⟨M1, M2⟩ := move_pair K1 K2 r6 z6 n6 (show w.heap.size ≠ w.heap.size + 1 by omega)
      have o : ∀ {X : World} {a : Addr} {v : Value} {g : Nat}, g ≠ a.block → (X.setCell a v).heap[g]? = X.heap[g]? := fun {X a v g} h => Below.heap_setCell _ _ _ g h
      have d1 : w.heap.size + 1 + 1 ≠ w.heap.size := by omega
      have d2 : w.heap.size + 1 + 1 ≠ w.heap.size + 1 := by omega
      have hq5 : Blk ((((w5.setCell ⟨w.heap.size, 0, none⟩ (.bool s2)).setCell ⟨w.heap.size, 1, none⟩ (.slice A2 l2.length c2)).setCell ⟨w.heap.size + 1, 0, none⟩ (.bool s6)).setCell ⟨w.heap.size + 1, 1, none⟩ (.slice A6 l6.length c6)) (w.heap.size + 1 + 1) #[.bool false, .slice none 0 0] 24 := ⟨(o d2).trans ((o d2).trans ((o d1).trans ((o d1).trans (hq.on b5).h)))⟩
      have bb := ((((hbl.trans (b5.mono hbl.size)).setCell (p := ⟨w.heap.size, 0, none⟩) (Nat.le_refl _) (.bool s2)).setCell (p := ⟨w.heap.size, 1, none⟩) (Nat.le_refl _) (.slice A2 l2.length c2)).setCell (p := ⟨w.heap.size + 1, 0, none⟩) (Nat.le_succ _) (.bool s6)).setCell (p := ⟨w.heap.size + 1, 1, none⟩) (Nat.le_succ _) (.slice A6 l6.length c6)
      refine ⟨⟨s2, s6, A2, A6, c2, c6, l2, l6, y, r, M1.on (al1 _ _), M2.on (al1 _ _), hq5.on (al1 _ _), bb.alloc bb.size _, ?_, HG', t2, ?_⟩, ?_⟩
      · simp [World.setCell]; omega
      · show _ ≤ _
        exact Nat.le_trans (length_mono (Nat.le_of_lt Hl.out)) t2.out
      · rw [cellVal_eq (M2.on (al1 _ _)), cellVal_eq H2]
        exact Hl.out

end Nm
end Go.Proofs.YtlhmbbpkhahbeaaDoor
namespace Go.Proofs.YtlhmbbpkhahbeaaDoor
namespace Nm
open Go.RowKit Go.Shelf Go.BigFrame

theorem Same_d (n1 n2 : Bool) (A1 A2 : Option Addr) (c1 c2 : Nat) (l1 l2 : List Nat) (z1 z2 : Int) (w : World) (h1 : Rd w A1 l1) (h2 : Rd w A2 l2) (hc1 : l1.length ≤ c1) (hc2 : l2.length ≤ c2) (k1 : IsZ n1 l1 z1) (k2 : IsZ n2 l2 z2) (v : Bool) (e : decide (z1 = z2) = v) :
    Calls Tryd.prog 20 #[iv n1 A1 l1.length c1, iv n2 A2 l2.length c2] w fun e w' => e = .returned (.bool v) ∧ Below w.heap.size w w' := by
  have h := Same_calls n1 n2 A1 A2 c1 c2 l1 l2 w h1 h2 hc1 hc2
  rwa [sameI_z k1 k2, e] at h

theorem isZ_abs {s : Bool} {l : List Nat} {z : Int} (h : IsZ s l z) : IsZ false l (z.natAbs : Int) :=
  ⟨(decide_eq_false (by omega)).symm, by rw [Int.natAbs_natCast]; exact h.abs⟩

end Nm
end Go.Proofs.YtlhmbbpkhahbeaaDoor
namespace Go.Proofs.YtlhmbbpkhahbeaaDoor
namespace Nm
open Go.RowKit Go.Shelf Go.BigFrame
attribute [local go_sem] Oper.semAt_some

set_option maxRecDepth 100000 in
set_option maxHeartbeats 8000000 in
theorem lsmall_calls (s1 s2 : Bool) (A1 A2 : Option Addr) (c1 c2 : Nat) (l1 l2 : List Nat) (x b : Int) (w : World) (h1 : Rd w A1 l1) (h2 : Rd w A2 l2) (hc1 : l1.length ≤ c1) (hc2 : l2.length ≤ c2) (z1 : IsZ s1 l1 x) (z2 : IsZ s2 l2 b) (hx : x.natAbs ≤ max 1 b.natAbs) :
    Calls Tryd.prog 27 #[iv s1 A1 l1.length c1, iv s2 A2 l2.length c2] w fun e w' => e = .returned (.bool true) ∧ Below w.heap.size w w' := by
  obtain ⟨hb, B1, B2⟩ := two_boxes w s1 s2 A1 A2 c1 c2 l1 l2 h1 h2 hc1 hc2
  obtain ⟨W, hW⟩ : ∃ W, (w.alloc (.cells #[.bool false, .slice A1 l1.length c1] 24)).alloc (.cells #[.bool false, .slice A2 l2.length c2] 24) = W := ⟨_, rfl⟩
  have hb' := (two_boxes w false false A1 A2 c1 c2 l1 l2 h1 h2 hc1 hc2).1
  obtain ⟨-, D1, D2⟩ := two_boxes w false false A1 A2 c1 c2 l1 l2 h1 h2 hc1 hc2
  rw [hW] at hb' D1 D2
  have x0 := cell_at D1.blk 0 _ rfl
  have x1 := cell_at D1.blk 1 _ rfl
  have x2 := cell_at D2.blk 0 _ rfl
  have x3 := cell_at D2.blk 1 _ rfl
  clear hb B1 B2
  obtain ⟨v, hv⟩ : ∃ v, cmpZ (x.natAbs : Int) (b.natAbs : Int) = v := ⟨_, rfl⟩
  have HC := fun W' h1 h2 => RCompare_calls false false A1 A2 c1 c2 l1 l2 (x.natAbs : Int) (b.natAbs : Int) W' h1 h2 hc1 hc2 (isZ_abs z1) (isZ_abs z2)
  rw [hv] at HC
  by_cases hle : x.natAbs ≤ b.natAbs
  · have dv : decide (v ≤ 0) = true := by rw [← hv]; exact decide_eq_true (cmp_le (by omega))
    have dv' : v ≤ 0 := of_decide_eq_true dv
    clear hv hx hle
    go_enter Tryd.func27, Tryd.ntmps27
    go_wp2_with fail
    go_region_with ((go_at_call 37; refine (HC _ (D1.rd.on (below_drew (Below.refl _ W))) (D2.rd.on (below_drew (Below.refl _ W)))).mono ?_; rintro e w5 ⟨rfl, b5⟩; have q5 := (below_drew (Below.refl _ W)).trans b5))
    all_goals go_wp2_with fail
    all_goals go_ret
    all_goals exact ⟨rfl, hb'.trans (q5.mono hb'.size)⟩
  · have hone : (x.natAbs : Int) = 1 := by omega
    have dv' : 0 < v := by rw [← hv]; unfold cmpZ; rw [if_neg (by omega), if_pos (by omega)]; decide
    have dv : decide (v ≤ 0) = false := decide_eq_false (by omega)
    have Hone := Lib.hid hone
    clear hv hx hle hone
    go_enter Tryd.func27, Tryd.ntmps27
    go_wp2_with fail
    first
      | (go_region_held3 (fun w'' => w''.cell? ⟨w.heap.size, 0, none⟩ = some (.bool false) ∧ w''.cell? ⟨w.heap.size, 1, none⟩ = some (.slice A1 l1.length c1) ∧ w''.cell? ⟨w.heap.size + 1, 0, none⟩ = some (.bool false) ∧ w''.cell? ⟨w.heap.size + 1, 1, none⟩ = some (.slice A2 l2.length c2)) ((first | (with_reducible exact ⟨x0, x1, x2, x3⟩) | exact ⟨x0, x1, x2, x3⟩))
            ((first
              | (go_at_call 20; have hmark := q6; refine (Same_d false s6 A1 A6 c1 c6 l1 l6 _ _ _ (D1.rd.on q6) r6 hc1 n6 (isZ_abs z1) z6 true (decide_eq_true Hone.out)).mono ?_; rintro e w7 ⟨rfl, b7⟩; have q7 := q6.trans (b7.mono q6.size); clear x0 x1 x2 x3; have x0 : w7.cell? ⟨w.heap.size, 0, none⟩ = some (.bool false) := cell_at (D1.on q7).blk 0 _ rfl; have x1 : w7.cell? ⟨w.heap.size, 1, none⟩ = some (.slice A1 l1.length c1) := cell_at (D1.on q7).blk 1 _ rfl; have x2 : w7.cell? ⟨w.heap.size + 1, 0, none⟩ = some (.bool false) := cell_at (D2.on q7).blk 0 _ rfl; have x3 : w7.cell? ⟨w.heap.size + 1, 1, none⟩ = some (.slice A2 l2.length c2) := cell_at (D2.on q7).blk 1 _ rfl)
              | (go_at_call 40; have hmark := q5; refine (ROf_calls 1 _ (by decide) (by decide)).mono ?_; rintro e w6 ⟨s6, A6, c6, l6, rfl, z6, n6, r6, b6⟩; have q6 := q5.trans (b6.mono q5.size); clear x0 x1 x2 x3; have x0 : w6.cell? ⟨w.heap.size, 0, none⟩ = some (.bool false) := cell_at (D1.on q6).blk 0 _ rfl; have x1 : w6.cell? ⟨w.heap.size, 1, none⟩ = some (.slice A1 l1.length c1) := cell_at (D1.on q6).blk 1 _ rfl; have x2 : w6.cell? ⟨w.heap.size + 1, 0, none⟩ = some (.bool false) := cell_at (D2.on q6).blk 0 _ rfl; have x3 : w6.cell? ⟨w.heap.size + 1, 1, none⟩ = some (.slice A2 l2.length c2) := cell_at (D2.on q6).blk 1 _ rfl)
              | (go_at_call 37; refine (HC _ (D1.rd.on (below_drew (Below.refl _ W))) (D2.rd.on (below_drew (Below.refl _ W)))).mono ?_; rintro e w5 ⟨rfl, b5⟩; have q5 := (below_drew (Below.refl _ W)).trans b5; clear x0 x1 x2 x3; have x0 : w5.cell? ⟨w.heap.size, 0, none⟩ = some (.bool false) := cell_at (D1.on q5).blk 0 _ rfl; have x1 : w5.cell? ⟨w.heap.size, 1, none⟩ = some (.slice A1 l1.length c1) := cell_at (D1.on q5).blk 1 _ rfl; have x2 : w5.cell? ⟨w.heap.size + 1, 0, none⟩ = some (.bool false) := cell_at (D2.on q5).blk 0 _ rfl; have x3 : w5.cell? ⟨w.heap.size + 1, 1, none⟩ = some (.slice A2 l2.length c2) := cell_at (D2.on q5).blk 1 _ rfl)
              | fail)))
      | fail
    go_wp2_with fail
    go_ret
    exact ⟨rfl, hb'.trans (q7.mono hb'.size)⟩

end Nm
end Go.Proofs.YtlhmbbpkhahbeaaDoor
namespace Go.Proofs.YtlhmbbpkhahbeaaDoor
namespace Nm
open Go.RowKit Go.Shelf Go.BigFrame
attribute [local go_sem] Oper.semAt_some

def RetBad3 (w : World) (e : Ending) (w' : World) : Prop :=
  ∃ s1 A1 c1 l1 s2 A2 c2 l2 s3 A3 c3 l3, e = .returned (.tuple #[iv s1 A1 l1.length c1, iv s2 A2 l2.length c2, iv s3 A3 l3.length c3, .int .i64 1]) ∧
    l1.length ≤ c1 ∧ l2.length ≤ c2 ∧ l3.length ≤ c3 ∧ Rd w' A1 l1 ∧ Rd w' A2 l2 ∧ Rd w' A3 l3 ∧ Below w.heap.size w w'
def RetG3 (a b : Int) (w : World) (e : Ending) (w' : World) : Prop :=
  ∃ x y s1 A1 c1 l1 s2 A2 c2 l2 s3 A3 c3 l3, e = .returned (.tuple #[iv s1 A1 l1.length c1, iv s2 A2 l2.length c2, iv s3 A3 l3.length c3, .int .i64 0]) ∧ GcdOf a b (Int.gcd a b) x y ∧ OkZ s1 l1 (Int.gcd a b) ∧ OkZ s2 l2 x ∧ OkZ s3 l3 y ∧
    l1.length ≤ c1 ∧ l2.length ≤ c2 ∧ l3.length ≤ c3 ∧ Rd w' A1 l1 ∧ Rd w' A2 l2 ∧ Rd w' A3 l3 ∧ Below w.heap.size w w'
theorem Gcd_no (n1 n2 : Bool) (A1 A2 : Option Addr) (c1 c2 : Nat) (l1 l2 : List Nat) (w : World) (h1 : Rd w A1 l1) (h2 : Rd w A2 l2) (hc1 : l1.length ≤ c1) (hc2 : l2.length ≤ c2) (hk : (okI n1 l1 && okI n2 l2) = false) :
    Calls Tryd.prog 26 #[iv n1 A1 l1.length c1, iv n2 A2 l2.length c2] w (RetBad3 w) := by
  have h := Gcd_calls n1 n2 A1 A2 c1 c2 l1 l2 w h1 h2 hc1 hc2
  rw [hk] at h
  refine h.mono ?_
  rintro e w' ⟨g, x, y, er, s1, B1, d1, m1, s2, B2, d2, m2, s3, B3, d3, m3, hg, e1, q1, q2, q3, t1, t2, t3, r1, r2, r3, hb⟩
  obtain ⟨rfl, -, -, -⟩ := hg.2 rfl
  exact ⟨s1, B1, d1, m1, s2, B2, d2, m2, s3, B3, d3, m3, e1, t1, t2, t3, r1, r2, r3, hb⟩
theorem len_max {x b : Int} {k : Nat} (h : x.natAbs ≤ max 1 b.natAbs) (hb : (lim b.natAbs).length ≤ k) (hk : 1 ≤ k) : (lim x.natAbs).length ≤ k := by
  rcases Nat.le_total 1 b.natAbs with h1 | h1
  · rw [Nat.max_eq_right h1] at h; exact Nat.le_trans (length_mono h) hb
  · rw [Nat.max_eq_left h1] at h
    exact Nat.le_trans (length_mono h) (by rw [one_word (by decide) (by decide)]; simpa using hk)
theorem Gcd_f (n1 n2 : Bool) (A1 A2 : Option Addr) (c1 c2 : Nat) (l1 l2 : List Nat) (z1 z2 : Int) (w : World) (h1 : Rd w A1 l1) (h2 : Rd w A2 l2) (hc1 : l1.length ≤ c1) (hc2 : l2.length ≤ c2) (k1 : OkZ n1 l1 z1) (k2 : OkZ n2 l2 z2) :
    Calls Tryd.prog 26 #[iv n1 A1 l1.length c1, iv n2 A2 l2.length c2] w (RetG3 z1 z2 w) := by
  have h := Gcd_calls n1 n2 A1 A2 c1 c2 l1 l2 w h1 h2 hc1 hc2
  rw [k1.ok, k2.ok, k1.val, k2.val] at h
  refine h.mono ?_
  rintro e w' ⟨g, x, y, er, s1, B1, d1, m1, s2, B2, d2, m2, s3, B3, d3, m3, hg, e1, q1, q2, q3, t1, t2, t3, r1, r2, r3, hb⟩
  obtain ⟨rfl, hgo⟩ := hg.1 rfl
  have e := hgo.gcd
  subst e
  have hl1 : (lim z1.natAbs).length ≤ 300 := by rw [k1.len]; exact k1.small
  have hl2 : (lim z2.natAbs).length ≤ 300 := by rw [k2.len]; exact k2.small
  exact ⟨x, y, s1, B1, d1, m1, s2, B2, d2, m2, s3, B3, d3, m3, e1, hgo, ⟨q1, by rw [q1.abs]; exact gcd_len hl1 hl2⟩, ⟨q2, by rw [q2.abs]; exact len_max hgo.x hl2 (by decide)⟩, ⟨q3, by rw [q3.abs]; exact len_max hgo.y hl1 (by decide)⟩, t1, t2, t3, r1, r2, r3, hb⟩
theorem three_boxes3 (w : World) (n1 n2 n3 : Bool) (A1 A2 A3 : Option Addr) (c1 c2 c3 : Nat) (l1 l2 l3 : List Nat) (h1 : Rd w A1 l1) (h2 : Rd w A2 l2) (h3 : Rd w A3 l3) (hc1 : l1.length ≤ c1) (hc2 : l2.length ≤ c2) (hc3 : l3.length ≤ c3) :
    Below w.heap.size w (((w.alloc (.cells #[.bool n1, .slice A1 l1.length c1] 24)).alloc (.cells #[.bool n2, .slice A2 l2.length c2] 24)).alloc (.cells #[.bool n3, .slice A3 l3.length c3] 24)) ∧
    IntBox (((w.alloc (.cells #[.bool n1, .slice A1 l1.length c1] 24)).alloc (.cells #[.bool n2, .slice A2 l2.length c2] 24)).alloc (.cells #[.bool n3, .slice A3 l3.length c3] 24)) w.heap.size n1 A1 c1 l1 ∧
    IntBox (((w.alloc (.cells #[.bool n1, .slice A1 l1.length c1] 24)).alloc (.cells #[.bool n2, .slice A2 l2.length c2] 24)).alloc (.cells #[.bool n3, .slice A3 l3.length c3] 24)) (w.heap.size + 1) n2 A2 c2 l2 ∧
    IntBox (((w.alloc (.cells #[.bool n1, .slice A1 l1.length c1] 24)).alloc (.cells #[.bool n2, .slice A2 l2.length c2] 24)).alloc (.cells #[.bool n3, .slice A3 l3.length c3] 24)) (w.heap.size + 1 + 1) n3 A3 c3 l3 := by
  obtain ⟨W, hW, hb, B1, B2, B3, hs⟩ := three_boxes w n1 n2 n3 A1 A2 A3 c1 c2 c3 l1 l2 l3 h1 h2 h3 hc1 hc2 hc3
  rw [hW]
  exact ⟨hb, B1, B2, B3⟩
theorem OkZ.len_le {s : Bool} {l : List Nat} {z : Int} (h : OkZ s l z) : (lim z.natAbs).length ≤ 300 := by rw [h.len]; exact h.small
theorem OkZ.formed {n1 : Bool} {l1 : List Nat} {z1 : Int} (k1 : OkZ n1 l1 z1) (A : Option Addr) (c : Nat) (w : World) (hA : Rd w A l1) (hc : l1.length ≤ c) :
    Calls Tryd.prog 16 #[iv n1 A l1.length c] w fun e w' => e = .returned (.bool true) ∧ Below w.heap.size w w' := Formed_is n1 A c l1 w hA hc true k1.ok

set_option maxRecDepth 100000 in
set_option maxHeartbeats 16000000 in
theorem NumGcds_calls (s1 s2 : Bool) (A1 A2 : Option Addr) (c1 c2 : Nat) (l1 l2 : List Nat) (w : World) (h1 : Rd w A1 l1) (h2 : Rd w A2 l2) (hc1 : l1.length ≤ c1) (hc2 : l2.length ≤ c2) (hd : DigW w) :
    Calls Tryd.prog 5 #[iv s1 A1 l1.length c1, iv s2 A2 l2.length c2] w fun e w' => e = .returned (.bool true) ∧ Below w.heap.size w w' := by
  obtain ⟨hbw, B1, B2⟩ := two_boxes w s1 s2 A1 A2 c1 c2 l1 l2 h1 h2 hc1 hc2
  obtain ⟨W, hW⟩ : ∃ W, (w.alloc (.cells #[.bool s1, .slice A1 l1.length c1] 24)).alloc (.cells #[.bool s2, .slice A2 l2.length c2] 24) = W := ⟨_, rfl⟩
  rw [hW] at hbw B1 B2
  have hsz1 : w.heap.size + 1 < W.heap.size := by rw [← hW]; simp
  have hsz0 : w.heap.size < W.heap.size := by omega
  have x0 := cell_at B1.blk 0 _ rfl
  have x1 := cell_at B1.blk 1 _ rfl
  have x2 := cell_at B2.blk 0 _ rfl
  have x3 := cell_at B2.blk 1 _ rfl
  have hal : ∀ o, Below W.heap.size W (W.alloc o) := fun o => (Below.refl _ W).alloc (Nat.le_refl _) _
  obtain ⟨b8, h8⟩ : ∃ b, (decide (l1.length ≤ 310) && decide (l2.length ≤ 310)) = b := ⟨_, rfl⟩
  obtain ⟨b20, h20⟩ : ∃ b, (decide (l1.length ≤ 20) && decide (l2.length ≤ 20)) = b := ⟨_, rfl⟩
  obtain ⟨o1, ho1⟩ : ∃ b, okI s1 l1 = b := ⟨_, rfl⟩
  obtain ⟨o2, ho2⟩ : ∃ b, okI s2 l2 = b := ⟨_, rfl⟩
  have f8 := few_two 310 W.heap.size s1 s2 A1 A2 c1 c2 l1 l2 _ (args_blk W s1 s2 A1 A2 c1 c2 l1 l2) (B1.rd.on (hal _)) (B2.rd.on (hal _)) hc1 hc2 _ h8
  have F20 := fun X h1 h2 => few_two 20 X.heap.size s1 s2 A1 A2 c1 c2 l1 l2 (X.alloc (.cells #[.bool s1, .slice A1 l1.length c1, .bool s2, .slice A2 l2.length c2] 24)) (args_blk X s1 s2 A1 A2 c1 c2 l1 l2) h1 h2 hc1 hc2 _ h20
  have F1 := fun W' h => Formed_is s1 A1 c1 l1 W' h hc1 _ ho1
  have F2 := fun W' h => Formed_is s2 A2 c2 l2 W' h hc2 _ ho2
  have hdW := hd.on hbw
  have Ho1 := Lib.hid ho1
  have Ho2 := Lib.hid ho2
  have hw1 := h1.words
  have hw2 := h2.words
  clear h8 h20 ho1 ho2
  cases b8
  · go_enter Tryd.func5, Tryd.ntmps5
    go_wp2_with first
      | (go_at_call 17; have hmark := by9; refine (sane_calls _ (hdW.on by9)).mono ?_; rintro e w10 ⟨rfl, b10⟩; have by10 := by9.trans (b10.mono by9.size); replace B1 := B1.on b10; replace B2 := B2.on b10; clear b10)
      | (go_at_call 15; refine f8.mono ?_; rintro e w4 ⟨rfl, rfl⟩; have by9 := hal (.cells #[.bool s1, .slice A1 l1.length c1, .bool s2, .slice A2 l2.length c2] 24); replace B1 := B1.on by9; replace B2 := B2.on by9)
    go_ret
    exact ⟨rfl, hbw.trans (by10.mono hbw.size)⟩
  · cases o1
    · have hno : Hid ((okI s1 l1 && okI s2 l2) = false) := by show _ = _; rw [Ho1.out]; rfl
      go_enter Tryd.func5, Tryd.ntmps5
      go_wp2_with first
        | (go_at_call 17; have hmark := by11; refine (sane_calls _ (hdW.on by11)).mono ?_; rintro e w12 ⟨rfl, b12⟩; have by12 := by11.trans (b12.mono by11.size); replace B1 := B1.on b12; replace B2 := B2.on b12; replace B4 := B4.on b12; replace B5 := B5.on b12; replace B6 := B6.on b12; clear b12)
        | (go_at_call 26; have hmark := by10; refine (Gcd_no s1 s2 A1 A2 c1 c2 l1 l2 _ B1.rd B2.rd hc1 hc2 hno.out).mono ?_; rintro e w11 ⟨s4, A4, c4, l4, s5, A5, c5, l5, s6, A6, c6, l6, rfl, n4, n5, n6, r4, r5, r6, b11⟩; obtain ⟨bx11, B4, B5, B6⟩ := three_boxes3 w11 s4 s5 s6 A4 A5 A6 c4 c5 c6 l4 l5 l6 r4 r5 r6 n4 n5 n6; have by11 := (by10.trans (b11.mono by10.size)).trans (bx11.mono (by10.trans (b11.mono by10.size)).size); replace B1 := (B1.on b11).on bx11; replace B2 := (B2.on b11).on bx11; clear bx11 b11; clear u1a u1b; clear u2a u2b)
        | (go_at_call 16; have hmark := by9; refine (F1 _ B1.rd).mono ?_; rintro e w10 ⟨rfl, b10⟩; have by10 := by9.trans (b10.mono by9.size); replace B1 := B1.on b10; replace B2 := B2.on b10; clear b10; clear u1a u1b; clear u2a u2b; have u1a := cell_at B1.blk 0 _ rfl; have u1b := cell_at B1.blk 1 _ rfl; have u2a := cell_at B2.blk 0 _ rfl; have u2b := cell_at B2.blk 1 _ rfl)
        | (go_at_call 15; refine f8.mono ?_; rintro e w4 ⟨rfl, rfl⟩; have by9 := hal (.cells #[.bool s1, .slice A1 l1.length c1, .bool s2, .slice A2 l2.length c2] 24); replace B1 := B1.on by9; replace B2 := B2.on by9; have u1a := cell_at B1.blk 0 _ rfl; have u1b := cell_at B1.blk 1 _ rfl; have u2a := cell_at B2.blk 0 _ rfl; have u2b := cell_at B2.blk 1 _ rfl)
      go_ret
      exact ⟨rfl, hbw.trans (by12.mono hbw.size)⟩
    · cases o2
      · have hno : Hid ((okI s1 l1 && okI s2 l2) = false) := by show _ = _; rw [Ho1.out, Ho2.out]; rfl
        go_enter Tryd.func5, Tryd.ntmps5
        go_wp2_with first
          | (go_at_call 17; have hmark := by12; refine (sane_calls _ (hdW.on by12)).mono ?_; rintro e w13 ⟨rfl, b13⟩; have by13 := by12.trans (b13.mono by12.size); replace B1 := B1.on b13; replace B2 := B2.on b13; replace B4 := B4.on b13; replace B5 := B5.on b13; replace B6 := B6.on b13; clear b13)
          | (go_at_call 26; have hmark := by11; refine (Gcd_no s1 s2 A1 A2 c1 c2 l1 l2 _ B1.rd B2.rd hc1 hc2 hno.out).mono ?_; rintro e w12 ⟨s4, A4, c4, l4, s5, A5, c5, l5, s6, A6, c6, l6, rfl, n4, n5, n6, r4, r5, r6, b12⟩; obtain ⟨bx12, B4, B5, B6⟩ := three_boxes3 w12 s4 s5 s6 A4 A5 A6 c4 c5 c6 l4 l5 l6 r4 r5 r6 n4 n5 n6; have by12 := (by11.trans (b12.mono by11.size)).trans (bx12.mono (by11.trans (b12.mono by11.size)).size); replace B1 := (B1.on b12).on bx12; replace B2 := (B2.on b12).on bx12; clear bx12 b12; clear u1a u1b; clear u2a u2b)
          | (go_at_call 16; have hmark := by10; refine (F2 _ B2.rd).mono ?_; rintro e w11 ⟨rfl, b11⟩; have by11 := by10.trans (b11.mono by10.size); replace B1 := B1.on b11; replace B2 := B2.on b11; clear b11; clear u1a u1b; clear u2a u2b; have u1a := cell_at B1.blk 0 _ rfl; have u1b := cell_at B1.blk 1 _ rfl; have u2a := cell_at B2.blk 0 _ rfl; have u2b := cell_at B2.blk 1 _ rfl)
          | (go_at_call 16; have hmark := by9; refine (F1 _ B1.rd).mono ?_; rintro e w10 ⟨rfl, b10⟩; have by10 := by9.trans (b10.mono by9.size); replace B1 := B1.on b10; replace B2 := B2.on b10; clear b10; clear u1a u1b; clear u2a u2b; have u1a := cell_at B1.blk 0 _ rfl; have u1b := cell_at B1.blk 1 _ rfl; have u2a := cell_at B2.blk 0 _ rfl; have u2b := cell_at B2.blk 1 _ rfl)
          | (go_at_call 15; refine f8.mono ?_; rintro e w4 ⟨rfl, rfl⟩; have by9 := hal (.cells #[.bool s1, .slice A1 l1.length c1, .bool s2, .slice A2 l2.length c2] 24); replace B1 := B1.on by9; replace B2 := B2.on by9; have u1a := cell_at B1.blk 0 _ rfl; have u1b := cell_at B1.blk 1 _ rfl; have u2a := cell_at B2.blk 0 _ rfl; have u2b := cell_at B2.blk 1 _ rfl)
        go_ret
        exact ⟨rfl, hbw.trans (by13.mono hbw.size)⟩
      · cases b20
        · go_enter Tryd.func5, Tryd.ntmps5
          go_wp2_with first
            | (go_at_call 17; have hmark := by12; refine (sane_calls _ (hdW.on by12)).mono ?_; rintro e w13 ⟨rfl, b13⟩; have by13 := by12.trans (b13.mono by12.size); replace B1 := B1.on b13; replace B2 := B2.on b13; clear b13)
            | (go_at_call 15; have hmark := by11; refine (F20 w11 (B1.rd.on (al1 _ _)) (B2.rd.on (al1 _ _))).mono ?_; rintro e w12 ⟨rfl, rfl⟩; have by12 := below_al by11 (.cells #[.bool s1, .slice A1 l1.length c1, .bool s2, .slice A2 l2.length c2] 24); replace B1 := B1.on (al1 w11 (.cells #[.bool s1, .slice A1 l1.length c1, .bool s2, .slice A2 l2.length c2] 24)); replace B2 := B2.on (al1 w11 (.cells #[.bool s1, .slice A1 l1.length c1, .bool s2, .slice A2 l2.length c2] 24)); clear u1a u1b; clear u2a u2b)
            | (go_at_call 16; have hmark := by10; refine (F2 _ B2.rd).mono ?_; rintro e w11 ⟨rfl, b11⟩; have by11 := by10.trans (b11.mono by10.size); replace B1 := B1.on b11; replace B2 := B2.on b11; clear b11; clear u1a u1b; clear u2a u2b; have u1a := cell_at B1.blk 0 _ rfl; have u1b := cell_at B1.blk 1 _ rfl; have u2a := cell_at B2.blk 0 _ rfl; have u2b := cell_at B2.blk 1 _ rfl)
            | (go_at_call 16; have hmark := by9; refine (F1 _ B1.rd).mono ?_; rintro e w10 ⟨rfl, b10⟩; have by10 := by9.trans (b10.mono by9.size); replace B1 := B1.on b10; replace B2 := B2.on b10; clear b10; clear u1a u1b; clear u2a u2b; have u1a := cell_at B1.blk 0 _ rfl; have u1b := cell_at B1.blk 1 _ rfl; have u2a := cell_at B2.blk 0 _ rfl; have u2b := cell_at B2.blk 1 _ rfl)
            | (go_at_call 15; refine f8.mono ?_; rintro e w4 ⟨rfl, rfl⟩; have by9 := hal (.cells #[.bool s1, .slice A1 l1.length c1, .bool s2, .slice A2 l2.length c2] 24); replace B1 := B1.on by9; replace B2 := B2.on by9; have u1a := cell_at B1.blk 0 _ rfl; have u1b := cell_at B1.blk 1 _ rfl; have u2a := cell_at B2.blk 0 _ rfl; have u2b := cell_at B2.blk 1 _ rfl)
          go_ret
          exact ⟨rfl, hbw.trans (by13.mono hbw.size)⟩
        · have z1 := okZ_of hw1 Ho1.out
          have z2 := okZ_of hw2 Ho2.out
          obtain ⟨a, ha⟩ : ∃ a, toZ s1 l1 = a := ⟨_, rfl⟩
          obtain ⟨b, hb⟩ : ∃ b, toZ s2 l2 = b := ⟨_, rfl⟩
          rw [ha] at z1
          rw [hb] at z2
          clear ha hb
          obtain ⟨G, hG⟩ : ∃ G : Int, (Int.gcd a b : Int) = G := ⟨_, rfl⟩
          have K0 := fun W' h1 h2 => Gcd_f s1 s2 A1 A2 c1 c2 l1 l2 a b W' h1 h2 hc1 hc2 z1 z2
          have KR := fun W' h1 h2 => RGcd_calls s1 s2 A1 A2 c1 c2 l1 l2 a b W' h1 h2 hc1 hc2 z1.isZ z2.isZ (Nat.le_trans z1.small (by decide)) (Nat.le_trans z2.small (by decide))
          unfold RetG3 at K0
          rw [hG] at K0 KR
          clear hG
          go_enter Tryd.func5, Tryd.ntmps5
          go_wp2_with first
            | (go_at_call 27; have hmark := by16; refine (lsmall_calls s6 s1 A6 A1 c6 c1 l6 l1 y a _ B6.rd B1.rd n6 hc1 z6.isZ z1.isZ hgo.y).mono ?_; rintro e w17 ⟨rfl, b17⟩; have by17 := by16.trans (b17.mono by16.size); replace B1 := B1.on b17; replace B2 := B2.on b17; replace B4 := B4.on b17; replace B5 := B5.on b17; replace B6 := B6.on b17; clear b17; clear u1a u1b; clear u6a u6b)
            | (go_at_call 27; have hmark := by15; refine (lsmall_calls s5 s2 A5 A2 c5 c2 l5 l2 x b _ B5.rd B2.rd n5 hc2 z5.isZ z2.isZ hgo.x).mono ?_; rintro e w16 ⟨rfl, b16⟩; have by16 := by15.trans (b16.mono by15.size); replace B1 := B1.on b16; replace B2 := B2.on b16; replace B4 := B4.on b16; replace B5 := B5.on b16; replace B6 := B6.on b16; clear b16; clear u2a u2b; clear u5a u5b; have u1a := cell_at B1.blk 0 _ rfl; have u1b := cell_at B1.blk 1 _ rfl; have u6a := cell_at B6.blk 0 _ rfl; have u6b := cell_at B6.blk 1 _ rfl)
            | (go_at_call 16; have hmark := by14; refine (z6.formed A6 c6 _ B6.rd n6).mono ?_; rintro e w15 ⟨rfl, b15⟩; have by15 := by14.trans (b15.mono by14.size); replace B1 := B1.on b15; replace B2 := B2.on b15; replace B4 := B4.on b15; replace B5 := B5.on b15; replace B6 := B6.on b15; clear b15; clear u6a u6b; have u2a := cell_at B2.blk 0 _ rfl; have u2b := cell_at B2.blk 1 _ rfl; have u5a := cell_at B5.blk 0 _ rfl; have u5b := cell_at B5.blk 1 _ rfl)
            | (go_at_call 16; have hmark := by13; refine (z5.formed A5 c5 _ B5.rd n5).mono ?_; rintro e w14 ⟨rfl, b14⟩; have by14 := by13.trans (b14.mono by13.size); replace B1 := B1.on b14; replace B2 := B2.on b14; replace B4 := B4.on b14; replace B5 := B5.on b14; replace B6 := B6.on b14; clear b14; clear u5a u5b; have u6a := cell_at B6.blk 0 _ rfl; have u6b := cell_at B6.blk 1 _ rfl)
            | (go_at_call 26; have hmark := by12; refine (K0 _ B1.rd B2.rd).mono ?_; rintro e w13 ⟨x, y, s4, A4, c4, l4, s5, A5, c5, l5, s6, A6, c6, l6, rfl, hgo, z4, z5, z6, n4, n5, n6, r4, r5, r6, b13⟩; obtain ⟨bx13, B4, B5, B6⟩ := three_boxes3 w13 s4 s5 s6 A4 A5 A6 c4 c5 c6 l4 l5 l6 r4 r5 r6 n4 n5 n6; have by13 := (by12.trans (b13.mono by12.size)).trans (bx13.mono (by12.trans (b13.mono by12.size)).size); replace B1 := (B1.on b13).on bx13; replace B2 := (B2.on b13).on bx13; clear bx13 b13; clear u1a u1b; clear u2a u2b; have u5a := cell_at B5.blk 0 _ rfl; have u5b := cell_at B5.blk 1 _ rfl)
            | (go_at_call 15; have hmark := by11; refine (F20 w11 (B1.rd.on (al1 _ _)) (B2.rd.on (al1 _ _))).mono ?_; rintro e w12 ⟨rfl, rfl⟩; have by12 := below_al by11 (.cells #[.bool s1, .slice A1 l1.length c1, .bool s2, .slice A2 l2.length c2] 24); replace B1 := B1.on (al1 w11 (.cells #[.bool s1, .slice A1 l1.length c1, .bool s2, .slice A2 l2.length c2] 24)); replace B2 := B2.on (al1 w11 (.cells #[.bool s1, .slice A1 l1.length c1, .bool s2, .slice A2 l2.length c2] 24)); clear u1a u1b; clear u2a u2b; have u1a := cell_at B1.blk 0 _ rfl; have u1b := cell_at B1.blk 1 _ rfl; have u2a := cell_at B2.blk 0 _ rfl; have u2b := cell_at B2.blk 1 _ rfl)
            | (go_at_call 16; have hmark := by10; refine (F2 _ B2.rd).mono ?_; rintro e w11 ⟨rfl, b11⟩; have by11 := by10.trans (b11.mono by10.size); replace B1 := B1.on b11; replace B2 := B2.on b11; clear b11; clear u1a u1b; clear u2a u2b; have u1a := cell_at B1.blk 0 _ rfl; have u1b := cell_at B1.blk 1 _ rfl; have u2a := cell_at B2.blk 0 _ rfl; have u2b := cell_at B2.blk 1 _ rfl)
            | (go_at_call 16; have hmark := by9; refine (F1 _ B1.rd).mono ?_; rintro e w10 ⟨rfl, b10⟩; have by10 := by9.trans (b10.mono by9.size); replace B1 := B1.on b10; replace B2 := B2.on b10; clear b10; clear u1a u1b; clear u2a u2b; have u1a := cell_at B1.blk 0 _ rfl; have u1b := cell_at B1.blk 1 _ rfl; have u2a := cell_at B2.blk 0 _ rfl; have u2b := cell_at B2.blk 1 _ rfl)
            | (go_at_call 15; refine f8.mono ?_; rintro e w4 ⟨rfl, rfl⟩; have by9 := hal (.cells #[.bool s1, .slice A1 l1.length c1, .bool s2, .slice A2 l2.length c2] 24); replace B1 := B1.on by9; replace B2 := B2.on by9; have u1a := cell_at B1.blk 0 _ rfl; have u1b := cell_at B1.blk 1 _ rfl; have u2a := cell_at B2.blk 0 _ rfl; have u2b := cell_at B2.blk 1 _ rfl)
          have HS := Lib.hid (show decide (G = a * x + b * y) = true from decide_eq_true hgo.sum.symm)
          clear x0 x1 x2 x3 hgo
          have y4a : w17.cell? ⟨w13.heap.size, 0, none⟩ = some (.bool s4) := cell_at B4.blk 0 _ rfl
          have y4b : w17.cell? ⟨w13.heap.size, 1, none⟩ = some (.slice A4 l4.length c4) := cell_at B4.blk 1 _ rfl
          have y1a : w17.cell? ⟨w.heap.size, 0, none⟩ = some (.bool s1) := cell_at B1.blk 0 _ rfl
          have y1b : w17.cell? ⟨w.heap.size, 1, none⟩ = some (.slice A1 l1.length c1) := cell_at B1.blk 1 _ rfl
          have y2a : w17.cell? ⟨w.heap.size + 1, 0, none⟩ = some (.bool s2) := cell_at B2.blk 0 _ rfl
          have y2b : w17.cell? ⟨w.heap.size + 1, 1, none⟩ = some (.slice A2 l2.length c2) := cell_at B2.blk 1 _ rfl
          have y5a : w17.cell? ⟨w13.heap.size + 1, 0, none⟩ = some (.bool s5) := cell_at B5.blk 0 _ rfl
          have y5b : w17.cell? ⟨w13.heap.size + 1, 1, none⟩ = some (.slice A5 l5.length c5) := cell_at B5.blk 1 _ rfl
          have y6a : w17.cell? ⟨w13.heap.size + 1 + 1, 0, none⟩ = some (.bool s6) := cell_at B6.blk 0 _ rfl
          have y6b : w17.cell? ⟨w13.heap.size + 1 + 1, 1, none⟩ = some (.slice A6 l6.length c6) := cell_at B6.blk 1 _ rfl
          go_region_held3 (fun w'' => w''.cell? ⟨w13.heap.size, 0, none⟩ = some (.bool s4) ∧ w''.cell? ⟨w13.heap.size, 1, none⟩ = some (.slice A4 l4.length c4) ∧ w''.cell? ⟨w.heap.size, 0, none⟩ = some (.bool s1) ∧ w''.cell? ⟨w.heap.size, 1, none⟩ = some (.slice A1 l1.length c1) ∧ w''.cell? ⟨w.heap.size + 1, 0, none⟩ = some (.bool s2) ∧ w''.cell? ⟨w.heap.size + 1, 1, none⟩ = some (.slice A2 l2.length c2) ∧ w''.cell? ⟨w13.heap.size + 1, 0, none⟩ = some (.bool s5) ∧ w''.cell? ⟨w13.heap.size + 1, 1, none⟩ = some (.slice A5 l5.length c5) ∧ w''.cell? ⟨w13.heap.size + 1 + 1, 0, none⟩ = some (.bool s6) ∧ w''.cell? ⟨w13.heap.size + 1 + 1, 1, none⟩ = some (.slice A6 l6.length c6)) ((first | (with_reducible exact ⟨y4a, y4b, y1a, y1b, y2a, y2b, y5a, y5b, y6a, y6b⟩) | exact ⟨y4a, y4b, y1a, y1b, y2a, y2b, y5a, y5b, y6a, y6b⟩))
              ((first
                | (go_at_call 20; have hmark := q55; refine (Same_d s4 s10 A4 A10 c4 c10 l4 l10 _ _ w55 (B4.rd.on q55) r10 n4 n10 z4.isZ z10 true HS.out).mono ?_; rintro e w56 ⟨rfl, b56⟩; clear y4a y4b y1a y1b y2a y2b y5a y5b y6a y6b; have q56 := q55.trans (b56.mono q55.size); have y4a : w56.cell? ⟨w13.heap.size, 0, none⟩ = some (.bool s4) := cell_at (B4.on q56).blk 0 _ rfl; have y4b : w56.cell? ⟨w13.heap.size, 1, none⟩ = some (.slice A4 l4.length c4) := cell_at (B4.on q56).blk 1 _ rfl; have y1a : w56.cell? ⟨w.heap.size, 0, none⟩ = some (.bool s1) := cell_at (B1.on q56).blk 0 _ rfl; have y1b : w56.cell? ⟨w.heap.size, 1, none⟩ = some (.slice A1 l1.length c1) := cell_at (B1.on q56).blk 1 _ rfl; have y2a : w56.cell? ⟨w.heap.size + 1, 0, none⟩ = some (.bool s2) := cell_at (B2.on q56).blk 0 _ rfl; have y2b : w56.cell? ⟨w.heap.size + 1, 1, none⟩ = some (.slice A2 l2.length c2) := cell_at (B2.on q56).blk 1 _ rfl; have y5a : w56.cell? ⟨w13.heap.size + 1, 0, none⟩ = some (.bool s5) := cell_at (B5.on q56).blk 0 _ rfl; have y5b : w56.cell? ⟨w13.heap.size + 1, 1, none⟩ = some (.slice A5 l5.length c5) := cell_at (B5.on q56).blk 1 _ rfl; have y6a : w56.cell? ⟨w13.heap.size + 1 + 1, 0, none⟩ = some (.bool s6) := cell_at (B6.on q56).blk 0 _ rfl; have y6b : w56.cell? ⟨w13.heap.size + 1 + 1, 1, none⟩ = some (.slice A6 l6.length c6) := cell_at (B6.on q56).blk 1 _ rfl)
                | (go_at_call 29; have hmark := q54; refine (Sum_calls s8 s9 A8 A9 c8 c9 l8 l9 _ _ w54 r8 r9 n8 n9 z8 z9 (z8.len_le (Nat.le_trans (len_mul z1.len_le z5.len_le) (by decide))) (z9.len_le (Nat.le_trans (len_mul z2.len_le z6.len_le) (by decide)))).mono ?_; rintro e w55 ⟨s10, A10, c10, l10, rfl, z10, n10, r10, b55⟩; clear y4a y4b y1a y1b y2a y2b y5a y5b y6a y6b; have q55 := q54.trans (b55.mono q54.size); have y4a : w55.cell? ⟨w13.heap.size, 0, none⟩ = some (.bool s4) := cell_at (B4.on q55).blk 0 _ rfl; have y4b : w55.cell? ⟨w13.heap.size, 1, none⟩ = some (.slice A4 l4.length c4) := cell_at (B4.on q55).blk 1 _ rfl; have y1a : w55.cell? ⟨w.heap.size, 0, none⟩ = some (.bool s1) := cell_at (B1.on q55).blk 0 _ rfl; have y1b : w55.cell? ⟨w.heap.size, 1, none⟩ = some (.slice A1 l1.length c1) := cell_at (B1.on q55).blk 1 _ rfl; have y2a : w55.cell? ⟨w.heap.size + 1, 0, none⟩ = some (.bool s2) := cell_at (B2.on q55).blk 0 _ rfl; have y2b : w55.cell? ⟨w.heap.size + 1, 1, none⟩ = some (.slice A2 l2.length c2) := cell_at (B2.on q55).blk 1 _ rfl; have y5a : w55.cell? ⟨w13.heap.size + 1, 0, none⟩ = some (.bool s5) := cell_at (B5.on q55).blk 0 _ rfl; have y5b : w55.cell? ⟨w13.heap.size + 1, 1, none⟩ = some (.slice A5 l5.length c5) := cell_at (B5.on q55).blk 1 _ rfl; have y6a : w55.cell? ⟨w13.heap.size + 1 + 1, 0, none⟩ = some (.bool s6) := cell_at (B6.on q55).blk 0 _ rfl; have y6b : w55.cell? ⟨w13.heap.size + 1 + 1, 1, none⟩ = some (.slice A6 l6.length c6) := cell_at (B6.on q55).blk 1 _ rfl)
                | (go_at_call 30; have hmark := q53; refine (Times_z s2 s6 A2 A6 c2 c6 l2 l6 _ _ w53 (B2.rd.on q53) (B6.rd.on q53) hc2 n6 z2.isZ z6.isZ (Nat.le_trans z2.small (by decide)) (Nat.le_trans z6.small (by decide))).mono ?_; rintro e w54 ⟨s9, A9, c9, l9, rfl, z9, n9, r9, b54⟩; clear y4a y4b y1a y1b y2a y2b y5a y5b y6a y6b; have q54 := q53.trans (b54.mono q53.size); replace r8 := r8.on b54; have y4a : w54.cell? ⟨w13.heap.size, 0, none⟩ = some (.bool s4) := cell_at (B4.on q54).blk 0 _ rfl; have y4b : w54.cell? ⟨w13.heap.size, 1, none⟩ = some (.slice A4 l4.length c4) := cell_at (B4.on q54).blk 1 _ rfl; have y1a : w54.cell? ⟨w.heap.size, 0, none⟩ = some (.bool s1) := cell_at (B1.on q54).blk 0 _ rfl; have y1b : w54.cell? ⟨w.heap.size, 1, none⟩ = some (.slice A1 l1.length c1) := cell_at (B1.on q54).blk 1 _ rfl; have y2a : w54.cell? ⟨w.heap.size + 1, 0, none⟩ = some (.bool s2) := cell_at (B2.on q54).blk 0 _ rfl; have y2b : w54.cell? ⟨w.heap.size + 1, 1, none⟩ = some (.slice A2 l2.length c2) := cell_at (B2.on q54).blk 1 _ rfl; have y5a : w54.cell? ⟨w13.heap.size + 1, 0, none⟩ = some (.bool s5) := cell_at (B5.on q54).blk 0 _ rfl; have y5b : w54.cell? ⟨w13.heap.size + 1, 1, none⟩ = some (.slice A5 l5.length c5) := cell_at (B5.on q54).blk 1 _ rfl; have y6a : w54.cell? ⟨w13.heap.size + 1 + 1, 0, none⟩ = some (.bool s6) := cell_at (B6.on q54).blk 0 _ rfl; have y6b : w54.cell? ⟨w13.heap.size + 1 + 1, 1, none⟩ = some (.slice A6 l6.length c6) := cell_at (B6.on q54).blk 1 _ rfl)
                | (go_at_call 30; have hmark := q52; refine (Times_z s1 s5 A1 A5 c1 c5 l1 l5 _ _ w52 (B1.rd.on q52) (B5.rd.on q52) hc1 n5 z1.isZ z5.isZ (Nat.le_trans z1.small (by decide)) (Nat.le_trans z5.small (by decide))).mono ?_; rintro e w53 ⟨s8, A8, c8, l8, rfl, z8, n8, r8, b53⟩; clear y4a y4b y1a y1b y2a y2b y5a y5b y6a y6b; have q53 := q52.trans (b53.mono q52.size); have y4a : w53.cell? ⟨w13.heap.size, 0, none⟩ = some (.bool s4) := cell_at (B4.on q53).blk 0 _ rfl; have y4b : w53.cell? ⟨w13.heap.size, 1, none⟩ = some (.slice A4 l4.length c4) := cell_at (B4.on q53).blk 1 _ rfl; have y1a : w53.cell? ⟨w.heap.size, 0, none⟩ = some (.bool s1) := cell_at (B1.on q53).blk 0 _ rfl; have y1b : w53.cell? ⟨w.heap.size, 1, none⟩ = some (.slice A1 l1.length c1) := cell_at (B1.on q53).blk 1 _ rfl; have y2a : w53.cell? ⟨w.heap.size + 1, 0, none⟩ = some (.bool s2) := cell_at (B2.on q53).blk 0 _ rfl; have y2b : w53.cell? ⟨w.heap.size + 1, 1, none⟩ = some (.slice A2 l2.length c2) := cell_at (B2.on q53).blk 1 _ rfl; have y5a : w53.cell? ⟨w13.heap.size + 1, 0, none⟩ = some (.bool s5) := cell_at (B5.on q53).blk 0 _ rfl; have y5b : w53.cell? ⟨w13.heap.size + 1, 1, none⟩ = some (.slice A5 l5.length c5) := cell_at (B5.on q53).blk 1 _ rfl; have y6a : w53.cell? ⟨w13.heap.size + 1 + 1, 0, none⟩ = some (.bool s6) := cell_at (B6.on q53).blk 0 _ rfl; have y6b : w53.cell? ⟨w13.heap.size + 1 + 1, 1, none⟩ = some (.slice A6 l6.length c6) := cell_at (B6.on q53).blk 1 _ rfl)
                | (go_at_call 20; have hmark := q51; refine (Same_d s4 s7 A4 A7 c4 c7 l4 l7 _ _ w51 (B4.rd.on q51) r7 n4 n7 z4.isZ z7 true (decide_eq_true rfl)).mono ?_; rintro e w52 ⟨rfl, b52⟩; clear y4a y4b y1a y1b y2a y2b y5a y5b y6a y6b; have q52 := q51.trans (b52.mono q51.size); have y4a : w52.cell? ⟨w13.heap.size, 0, none⟩ = some (.bool s4) := cell_at (B4.on q52).blk 0 _ rfl; have y4b : w52.cell? ⟨w13.heap.size, 1, none⟩ = some (.slice A4 l4.length c4) := cell_at (B4.on q52).blk 1 _ rfl; have y1a : w52.cell? ⟨w.heap.size, 0, none⟩ = some (.bool s1) := cell_at (B1.on q52).blk 0 _ rfl; have y1b : w52.cell? ⟨w.heap.size, 1, none⟩ = some (.slice A1 l1.length c1) := cell_at (B1.on q52).blk 1 _ rfl; have y2a : w52.cell? ⟨w.heap.size + 1, 0, none⟩ = some (.bool s2) := cell_at (B2.on q52).blk 0 _ rfl; have y2b : w52.cell? ⟨w.heap.size + 1, 1, none⟩ = some (.slice A2 l2.length c2) := cell_at (B2.on q52).blk 1 _ rfl; have y5a : w52.cell? ⟨w13.heap.size + 1, 0, none⟩ = some (.bool s5) := cell_at (B5.on q52).blk 0 _ rfl; have y5b : w52.cell? ⟨w13.heap.size + 1, 1, none⟩ = some (.slice A5 l5.length c5) := cell_at (B5.on q52).blk 1 _ rfl; have y6a : w52.cell? ⟨w13.heap.size + 1 + 1, 0, none⟩ = some (.bool s6) := cell_at (B6.on q52).blk 0 _ rfl; have y6b : w52.cell? ⟨w13.heap.size + 1 + 1, 1, none⟩ = some (.slice A6 l6.length c6) := cell_at (B6.on q52).blk 1 _ rfl)
                | (go_at_call 28; have hmark := q50; refine (KR w50 (B1.rd.on q50) (B2.rd.on q50)).mono ?_; rintro e w51 ⟨s7, A7, c7, l7, rfl, z7, n7, r7, b51⟩; clear y4a y4b y1a y1b y2a y2b y5a y5b y6a y6b; have q51 := q50.trans (b51.mono q50.size); have y4a : w51.cell? ⟨w13.heap.size, 0, none⟩ = some (.bool s4) := cell_at (B4.on q51).blk 0 _ rfl; have y4b : w51.cell? ⟨w13.heap.size, 1, none⟩ = some (.slice A4 l4.length c4) := cell_at (B4.on q51).blk 1 _ rfl; have y1a : w51.cell? ⟨w.heap.size, 0, none⟩ = some (.bool s1) := cell_at (B1.on q51).blk 0 _ rfl; have y1b : w51.cell? ⟨w.heap.size, 1, none⟩ = some (.slice A1 l1.length c1) := cell_at (B1.on q51).blk 1 _ rfl; have y2a : w51.cell? ⟨w.heap.size + 1, 0, none⟩ = some (.bool s2) := cell_at (B2.on q51).blk 0 _ rfl; have y2b : w51.cell? ⟨w.heap.size + 1, 1, none⟩ = some (.slice A2 l2.length c2) := cell_at (B2.on q51).blk 1 _ rfl; have y5a : w51.cell? ⟨w13.heap.size + 1, 0, none⟩ = some (.bool s5) := cell_at (B5.on q51).blk 0 _ rfl; have y5b : w51.cell? ⟨w13.heap.size + 1, 1, none⟩ = some (.slice A5 l5.length c5) := cell_at (B5.on q51).blk 1 _ rfl; have y6a : w51.cell? ⟨w13.heap.size + 1 + 1, 0, none⟩ = some (.bool s6) := cell_at (B6.on q51).blk 0 _ rfl; have y6b : w51.cell? ⟨w13.heap.size + 1 + 1, 1, none⟩ = some (.slice A6 l6.length c6) := cell_at (B6.on q51).blk 1 _ rfl)
                | (go_at_call 17; refine (sane_calls _ (hdW.on (by17.trans ((below_drew (Below.refl _ w17)).mono by17.size)))).mono ?_; rintro e w50 ⟨rfl, b50⟩; clear y4a y4b y1a y1b y2a y2b y5a y5b y6a y6b; have q50 := (below_drew (Below.refl _ w17)).trans b50; have y4a : w50.cell? ⟨w13.heap.size, 0, none⟩ = some (.bool s4) := cell_at (B4.on q50).blk 0 _ rfl; have y4b : w50.cell? ⟨w13.heap.size, 1, none⟩ = some (.slice A4 l4.length c4) := cell_at (B4.on q50).blk 1 _ rfl; have y1a : w50.cell? ⟨w.heap.size, 0, none⟩ = some (.bool s1) := cell_at (B1.on q50).blk 0 _ rfl; have y1b : w50.cell? ⟨w.heap.size, 1, none⟩ = some (.slice A1 l1.length c1) := cell_at (B1.on q50).blk 1 _ rfl; have y2a : w50.cell? ⟨w.heap.size + 1, 0, none⟩ = some (.bool s2) := cell_at (B2.on q50).blk 0 _ rfl; have y2b : w50.cell? ⟨w.heap.size + 1, 1, none⟩ = some (.slice A2 l2.length c2) := cell_at (B2.on q50).blk 1 _ rfl; have y5a : w50.cell? ⟨w13.heap.size + 1, 0, none⟩ = some (.bool s5) := cell_at (B5.on q50).blk 0 _ rfl; have y5b : w50.cell? ⟨w13.heap.size + 1, 1, none⟩ = some (.slice A5 l5.length c5) := cell_at (B5.on q50).blk 1 _ rfl; have y6a : w50.cell? ⟨w13.heap.size + 1 + 1, 0, none⟩ = some (.bool s6) := cell_at (B6.on q50).blk 0 _ rfl; have y6b : w50.cell? ⟨w13.heap.size + 1 + 1, 1, none⟩ = some (.slice A6 l6.length c6) := cell_at (B6.on q50).blk 1 _ rfl)))
          go_wp2_with fail
          go_ret
          exact ⟨rfl, hbw.trans ((by17.trans (q56.mono by17.size)).mono hbw.size)⟩

end Nm
end Go.Proofs.YtlhmbbpkhahbeaaDoor
namespace Go.Proofs.YtlhmbbpkhahbeaaDoor
namespace Nm
open Go.ChangeShapes Go.WideShapes Go.ChangeAt Go.WideMaps Go.WideElems Go.RowKit

set_option maxRecDepth 100000 in
theorem numGcds_lifted (os : Os) (started : os.Started) (H : Type) (enc : TypeId × Value → H) :
    ReturnsInHanded {} Tryd.checked os 5 .any (fun w args => (Rows.numGcdsSpec.pre enc Tryd.prog Tryd.f5 [] false w args ∧ laidMetH Tryd.prog laidL w) ∧ sizedMet enc Tryd.prog Tryd.f5 (OpenSpec.ofChange Rows.numGcdsSpec) false w args)
      (Rows.numGcdsSpec.post enc Tryd.prog Tryd.f5 false true false false) := by
  refine returnsInHanded_of_change_and (C := Tryd.checked) (X := fun w _ => laidMetH Tryd.prog laidL w) (fun _ _ _ hh h => h.of_heap hh) own started (by kernel_rfl) Tryd.func5
    (ChangeSpec.witness_shaped (enc := enc) (C := Tryd.checked) (os := os) (X := fun w _ => laidMetH Tryd.prog laidL w) false (World.doorLaid Tryd.prog 14 os) #[.agg #[.bool false, .slice none 0 0], .agg #[.bool false, .slice none 0 0]] 8 rfl (World.shaped_of_RefB (by kernel_rfl) (by kernel_rfl)) (by kernel_rfl) (by kernel_rfl) (by kernel_rfl) (door_met os _)) ?_
  intro W base args ds gs before hval0 hW _ hsz0 hL _
  have hval : ∀ (j : Nat) t v, Tryd.f5.params[j]? = some t → args[j]? = some v → Value.okWide Tryd.prog W .any base t v := hval0
  have hsz : (DataW.weightsEach Tryd.prog (Tryd.f5.params.toList ++ Rows.numGcdsSpec.plain.varTypes Tryd.prog) (ds ++ gs)).all (· ≤ reachBytes) = true := hsz0
  have hW' := hW
  obtain ⟨p, q, hA0, hV, rfl, hfz, hnd⟩ := hW
  have hA : DataW.TrodAll enc Tryd.prog W 0 (fun _ => true) true Tryd.f5.params.toList args.toList ds p := hA0
  rw [Tryd.params5] at hA hval hsz
  obtain ⟨v0, v1, d0, d1, p0, p1, rfl, rfl, rfl, h0, h1⟩ := trodAll_two hA
  obtain ⟨rfl, rfl⟩ := trodVars_none hV
  have hw0 : ∀ n ∈ d0.weights Tryd.prog 24, n ≤ reachBytes := fun n hn => by simpa using List.all_eq_true.1 hsz n (DataW.weights_mem_each (j := 0) rfl rfl n hn)
  obtain ⟨n1, A1, c1, l1, rfl, r1, k1⟩ := open_intZ (hval 0 _ v0 rfl rfl) h0 hw0
  have hw1 : ∀ n ∈ d1.weights Tryd.prog 24, n ≤ reachBytes := fun n hn => by simpa using List.all_eq_true.1 hsz n (DataW.weights_mem_each (j := 1) rfl rfl n hn)
  obtain ⟨n2, A2, c2, l2, rfl, r2, k2⟩ := open_intZ (hval 1 _ v1 rfl rfl) h1 hw1
  have hd := dig_of_laid hL
  clear hA0 hval0
  try simp only [List.append_nil] at hW'
  have hlt : ∀ x ∈ p0 ++ p1, x.block < W.heap.size := fun x hx => hW'.lt x (by simpa using hx)
  refine (NumGcds_calls n1 n2 A1 A2 c1 c2 l1 l2 W r1 r2 k1 k2 hd).mono fun e W' ⟨he, hb⟩ => ?_
  subst he
  refine ⟨_, rfl, _, _, _, [], _, [], hW', trodAll_mk1 (shut_bool uBool true), trodAll_mk2 (Below.trod laidOut (by kernel_rfl) (of_decide_eq_true (by kernel_rfl)) h0 hb (fun x hx => hlt x (by simp [hx]))) (Below.trod laidOut (by kernel_rfl) (of_decide_eq_true (by kernel_rfl)) h1 hb (fun x hx => hlt x (by simp [hx]))), rfl, hb.frame _, fun h => by cases h⟩

theorem numGcds_holds : Rows.NumGcdsSaid :=
  OpenClaim.holds_of_wide 5 Tryd.f5 rfl rfl rfl rfl rfl rfl rfl ⟨rfl, rfl, rfl, rfl, rfl⟩ rfl rfl rfl rfl rfl (by kernel_rfl) Tryd.func5 (by kernel_rfl)
    (of_decide_eq_true (by kernel_rfl)) (by unfold Func.isWrapper; first | (rw [if_pos (by decide +kernel)]; kernel_rfl) | (rw [if_neg (by decide +kernel)]; exact ⟨rfl, rfl⟩))
    (fun os started H enc _ => numGcds_lifted os started H enc)

theorem numGcds_card : Rows.NumGcdsCardSaid :=
  Claim7.holds_tied_plain_at .later [] [.data] true (true, "81631b405a98d3f071c31393904156c9da5fef14bbd5c556ce9417642a36c1bb") true
    numGcds_holds (fun _ h => by cases h) (by kernel_rfl) (fun _ h => by cases h) numGcds_row_tie rfl ⟨rfl, rfl⟩ (by kernel_rfl) rfl
    (fun f fn hf hfn => by
      obtain rfl : f = 5 := Option.some.inj ((show Tryd.prog.funcNamed "zermelo/zermelolaw01.NumGcds" = some 5 by kernel_rfl).symm.trans hf) |>.symm
      obtain rfl : fn = Tryd.f5 := (Option.some.inj (Tryd.func5.symm.trans hfn)).symm
      exact ⟨by kernel_rfl, fun j t ht => by
        have hp := Tryd.params5
        rw [hp] at ht
        have hall : (Tryd.f5.params.toList.all fun u => !Tryd.prog.wantsStandIn u) = true := by kernel_rfl
        rw [hp] at hall
        have hm := Array.mem_toList_iff.2 (Array.mem_of_getElem? ht)
        exact (show Tryd.prog.wantsStandIn t = false by simpa using List.all_eq_true.1 hall t hm)⟩)
    (by kernel_rfl)

end Nm
end Go.Proofs.YtlhmbbpkhahbeaaDoor
