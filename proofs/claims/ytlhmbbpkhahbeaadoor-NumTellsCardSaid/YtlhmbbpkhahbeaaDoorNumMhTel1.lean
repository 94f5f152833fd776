/-
  Small facts on boxes and lengths.
  Small facts for the laws.
  The specification's Gcd.
  The specification's To.
  The closure of To.
  To, exported.
  The law NumTells: the walk.
  NumTells: the row, the card. For every input the law returns true. The integers that came in are whatever the row lets in; the digits' table reads as the program's text lays it (the card ties it).
-/
import Derived.Test.YtlhmbbpkhahbeaaDoorNumMhPad1
import Derived.Test.YtlhmbbpkhahbeaaDoorTie
import Derived.ChangeMaps5
import Derived.Test.YtlhmbbpkhahbeaaDoorCards
import Derived.SevenTiedAt
namespace Go.Proofs.YtlhmbbpkhahbeaaDoor
namespace Nm
open Go.RowKit Go.Shelf Go.BigFrame

theorem IsZ.len_le {s : Bool} {l : List Nat} {z : Int} {k : Nat} (h : IsZ s l z) (hs : (lim z.natAbs).length ≤ k) : l.length ≤ k := by rw [h.abs]; exact hs
theorem al1 (W : World) (o : Obj) : Below W.heap.size W (W.alloc o) := (Below.refl _ W).alloc (Nat.le_refl _) _
theorem Times_z (n1 n2 : Bool) (A1 A2 : Option Addr) (c1 c2 : Nat) (l1 l2 : List Nat) (z1 z2 : Int) (w : World) (h1 : Rd w A1 l1) (h2 : Rd w A2 l2) (hc1 : l1.length ≤ c1) (hc2 : l2.length ≤ c2) (k1 : IsZ n1 l1 z1) (k2 : IsZ n2 l2 z2) (hs1 : l1.length ≤ 65536) (hs2 : l2.length ≤ 65536) :
    Calls Tryd.prog 30 #[iv n1 A1 l1.length c1, iv n2 A2 l2.length c2] w (RetZ (z1 * z2) w) := by
  have h := Times_calls n1 n2 A1 A2 c1 c2 l1 l2 w h1 h2 hc1 hc2 hs1 hs2
  rwa [k1.toZ, k2.toZ] at h

end Nm
end Go.Proofs.YtlhmbbpkhahbeaaDoor
namespace Go.Proofs.YtlhmbbpkhahbeaaDoor
namespace Nm
open Go.RowKit Go.Shelf Go.BigFrame

theorem Same_d (n1 n2 : Bool) (A1 A2 : Option Addr) (c1 c2 : Nat) (l1 l2 : List Nat) (z1 z2 : Int) (w : World) (h1 : Rd w A1 l1) (h2 : Rd w A2 l2) (hc1 : l1.length ≤ c1) (hc2 : l2.length ≤ c2) (k1 : IsZ n1 l1 z1) (k2 : IsZ n2 l2 z2) (v : Bool) (e : decide (z1 = z2) = v) :
    Calls Tryd.prog 20 #[iv n1 A1 l1.length c1, iv n2 A2 l2.length c2] w fun e w' => e = .returned (.bool v) ∧ Below w.heap.size w w' := by
  have h := Same_calls n1 n2 A1 A2 c1 c2 l1 l2 w h1 h2 hc1 hc2
  rwa [sameI_z k1 k2, e] at h

theorem isZ_abs {s : Bool} {l : List Nat} {z : Int} (h : IsZ s l z) : IsZ false l (z.natAbs : Int) :=
  ⟨(decide_eq_false (by omega)).symm, by rw [Int.natAbs_natCast]; exact h.abs⟩

end Nm
end Go.Proofs.YtlhmbbpkhahbeaaDoor
namespace Go.Proofs.YtlhmbbpkhahbeaaDoor
namespace Nm
open Go.RowKit Go.Shelf Go.BigFrame
attribute [local go_sem] Oper.semAt_some

theorem gcd_step (a b : Int) : Int.gcd b (modZ a b) = Int.gcd a b := by
  unfold modZ
  rw [Int.gcd_sub_mul_left_right, Int.gcd_comm]

theorem modZ_lt (a b : Int) (hb : b ≠ 0) : (modZ a b).natAbs < b.natAbs := by
  unfold modZ divZ
  by_cases h : 0 < b
  · rw [if_pos h]
    have h1 := Int.emod_nonneg a hb
    have h2 := Int.emod_lt_of_pos a h
    have h3 := Int.mul_ediv_add_emod a b
    omega
  · rw [if_neg h]
    have h1 := Int.emod_nonneg (-a) (show -b ≠ 0 by omega)
    have h2 := Int.emod_lt_of_pos (-a) (show 0 < -b by omega)
    have h3 := Int.mul_ediv_add_emod (-a) (-b)
    rw [Int.neg_mul] at h3
    omega

theorem gcd_zero_r {x y : Int} {G : Nat} (h : Int.gcd x y = G) (hy : y = 0) : x.natAbs = G := by
  rw [hy, Int.gcd_zero_right] at h; exact h

theorem HoldsZ.on {W W' : World} {g : Nat} {s : Bool} {A : Option Addr} {c : Nat} {l : List Nat} {z : Int} (h : HoldsZ W g s A c l z) (hb : Below W.heap.size W W') : HoldsZ W' g s A c l z := ⟨h.blk.on hb, h.isz, h.rd.on hb, h.cap⟩

theorem move_pair {W : World} {g g' : Nat} {s1 s2 s6 : Bool} {A1 A2 A6 : Option Addr} {c1 c2 c6 : Nat} {l1 l2 l6 : List Nat} {x y r : Int} (K1 : HoldsZ W g s1 A1 c1 l1 x) (K2 : HoldsZ W g' s2 A2 c2 l2 y) (r6 : Rd W A6 l6) (z6 : IsZ s6 l6 r) (n6 : l6.length ≤ c6) (hne : g ≠ g') :
    HoldsZ ((((W.setCell ⟨g, 0, none⟩ (.bool s2)).setCell ⟨g, 1, none⟩ (.slice A2 l2.length c2)).setCell ⟨g', 0, none⟩ (.bool s6)).setCell ⟨g', 1, none⟩ (.slice A6 l6.length c6)) g s2 A2 c2 l2 y ∧
    HoldsZ ((((W.setCell ⟨g, 0, none⟩ (.bool s2)).setCell ⟨g, 1, none⟩ (.slice A2 l2.length c2)).setCell ⟨g', 0, none⟩ (.bool s6)).setCell ⟨g', 1, none⟩ (.slice A6 l6.length c6)) g' s6 A6 c6 l6 r := by
  have o : ∀ {X : World} {a : Addr} {v : Value} {g : Nat}, g ≠ a.block → (X.setCell a v).heap[g]? = X.heap[g]? := fun {X a v g} h => Below.heap_setCell _ _ _ g h
  have M1 := holds_set K1.blk (by simp) (by simp) K2.isz K2.rd K2.cap
  have k2 : Blk ((W.setCell ⟨g, 0, none⟩ (.bool s2)).setCell ⟨g, 1, none⟩ (.slice A2 l2.length c2)) g' #[.bool s2, .slice A2 l2.length c2] 24 := ⟨(o hne.symm).trans ((o hne.symm).trans K2.blk.h)⟩
  have m6 := r6.ne K1.blk.h (noword2 (by simp) (by simp))
  have r6' := (r6.setNe (i := 0) (v := .bool s2) m6).setNe (i := 1) (v := .slice A2 l2.length c2) m6
  have M2 := holds_set k2 (by simp) (by simp) z6 r6' n6
  have m1 := M1.rd.ne k2.h (noword2 (by simp) (by simp))
  exact ⟨⟨⟨(o hne).trans ((o hne).trans M1.blk.h)⟩, M1.isz, (M1.rd.setNe m1).setNe m1, M1.cap⟩, M2⟩

def cellVal (g : Nat) (W : World) : Nat := slotVal ((W.cell? ⟨g, 1, none⟩).getD undef) W
theorem cellVal_eq {W : World} {g : Nat} {s : Bool} {A : Option Addr} {c : Nat} {l : List Nat} {z : Int} (h : HoldsZ W g s A c l z) : cellVal g W = z.natAbs := by
  unfold cellVal
  rw [cell_at h.blk.h 1 (.slice A l.length c) rfl, Option.getD_some, slotVal_eq h.rd, h.isz.val]

set_option maxRecDepth 100000 in
set_option maxHeartbeats 4000000 in
theorem RGcd_calls (n1 n2 : Bool) (A1 A2 : Option Addr) (c1 c2 : Nat) (l1 l2 : List Nat) (z1 z2 : Int) (w : World) (h1 : Rd w A1 l1) (h2 : Rd w A2 l2) (hc1 : l1.length ≤ c1) (hc2 : l2.length ≤ c2) (k1 : IsZ n1 l1 z1) (k2 : IsZ n2 l2 z2) (hs1 : l1.length ≤ 65535) (hs2 : l2.length ≤ 65535) :
    Calls Tryd.prog 28 #[iv n1 A1 l1.length c1, iv n2 A2 l2.length c2] w (RetZ (Int.gcd z1 z2) w) := by
  obtain ⟨W3, hW3, hb3, B1, B2, hR, hsz⟩ := boxes3 w n1 n2 A1 A2 c1 c2 l1 l2 h1 h2 hc1 hc2 #[.bool false, .slice none 0 0] 24
  have G1 : HoldsZ W3 w.heap.size n1 A1 c1 l1 z1 := ⟨⟨B1.blk⟩, k1, B1.rd, hc1⟩
  have G2 : HoldsZ W3 (w.heap.size + 1) n2 A2 c2 l2 z2 := ⟨⟨B2.blk⟩, k2, B2.rd, hc2⟩
  obtain ⟨G, hG⟩ : ∃ G, Int.gcd z1 z2 = G := ⟨_, rfl⟩
  rw [hG]
  have HG := Lib.hid hG
  have t1 : Hid ((lim z1.natAbs).length ≤ 65535) := by show _ ≤ _; rw [← k1.abs]; exact hs1
  have t2 : Hid ((lim z2.natAbs).length ≤ 65535) := by show _ ≤ _; rw [← k2.abs]; exact hs2
  have hbs := hb3.size
  clear hG h1 h2 hc1 hc2 k1 k2 hs1 hs2 B1 B2
  go_enter Tryd.func28, Tryd.ntmps28
  go_wp2_with fail
  clear hW3
  go_loopw [5] (fun _ W => ∃ (n1 n2 : Bool) (A1 A2 : Option Addr) (c1 c2 : Nat) (l1 l2 : List Nat) (z1 z2 : Int), HoldsZ W w.heap.size n1 A1 c1 l1 z1 ∧ HoldsZ W (w.heap.size + 1) n2 A2 c2 l2 z2 ∧ Blk W (w.heap.size + 1 + 1) #[.bool false, .slice none 0 0] 24 ∧ Below w.heap.size w W ∧ w.heap.size + 1 + 1 < W.heap.size ∧ Hid (Int.gcd z1 z2 = G) ∧ Hid ((lim z1.natAbs).length ≤ 65535) ∧ Hid ((lim z2.natAbs).length ≤ 65535)) (fun _ W => cellVal (w.heap.size + 1) W)
  case atStart => exact ⟨n1, n2, A1, A2, c1, c2, l1, l2, z1, z2, G1, G2, hR, hb3, by omega, HG, t1, t2⟩
  case round =>
    clear G1 G2 HG t1 t2
    obtain ⟨s1, s2, A1, A2, c1, c2, l1, l2, x, y, H1, H2, hq, hbl, hsz, hG, t1, t2⟩ := hrel
    have hs1 : l1.length ≤ 65535 := H1.isz.len_le t1.out
    have hs2 : l2.length ≤ 65535 := H2.isz.len_le t2.out
    have x0 := cell_at H1.blk.h 0 _ rfl
    have x1 := cell_at H1.blk.h 1 _ rfl
    have y0 := cell_at H2.blk.h 0 _ rfl
    have y1 := cell_at H2.blk.h 1 _ rfl
    by_cases hy : y = 0
    · have hl2 : l2.length = 0 := by rw [H2.isz.abs, hy]; exact congrArg List.length lim_zero
      have hx := gcd_zero_r hG.out hy
      have hl0 : ¬ (0 : Int) < (l2.length : Int) := by omega
      have hl1 : ¬ 0 < l2.length := by omega
      have hm := fun W' h hc => made_calls false A1 c1 l1 W' h hc
      rw [H1.isz.val, hx] at hm
      clear hy hx hG t1 t2 hl2
      have r0 := cell_at hq.h 0 _ rfl
      go_wp2_with (go_at_call 70; refine (hm _ H1.rd H1.cap).mono ?_; rintro e w5 ⟨s5, A5, c5, l5, rfl, z5, n5, r5, b5⟩; have hq5 := hq.on b5; have v0 := cell_at hq5.h 0 _ rfl; have v1 := cell_at hq5.h 1 _ rfl; have v2 := frozen_at hq5.h 0; have v3 := frozen_at hq5.h 1)
      exact ret_cell rfl rfl rfl (set_blk (set_blk hq5.h 0 _) 1 _) ⟨s5, A5, c5, l5, rfl, by simpa using z5, n5, rd_sets r5 hq5 _ _, (((hbl.trans (b5.mono hbl.size)).setCell (by dsimp only; omega) _).setCell (by dsimp only; omega) _)⟩
    · have hp2 : 0 < l2.length := by rw [H2.isz.abs]; exact lim_length_pos (by omega)
      have hl0 : (0 : Int) < (l2.length : Int) := by omega
      have Hl := Lib.hid (modZ_lt x y hy)
      have HG' : Hid (Int.gcd y (modZ x y) = G) := by show _ = _; rw [gcd_step]; exact hG.out
      have hdv := Divide_calls s1 s2 A1 A2 c1 c2 l1 l2 x y wr H1.rd H2.rd H1.cap H2.cap H1.isz H2.isz hy hs1 hs2
      obtain ⟨q, hq'⟩ : ∃ q, divZ x y = q := ⟨_, rfl⟩
      obtain ⟨r, hr'⟩ : ∃ q, modZ x y = q := ⟨_, rfl⟩
      rw [hr'] at Hl HG'
      rw [hq', hr'] at hdv
      have H1' := Lib.hid H1
      have H2' := Lib.hid H2
      clear hq' hr' hy hs1 hs2 hp2 hG t1
      go_wp2_with (go_at_call 62; refine hdv.mono ?_; rintro e w5 ⟨s5, A5, c5, l5, s6, A6, c6, l6, rfl, z5, z6, n5, n6, r5, r6, b5⟩; have K1 := H1'.out.on b5; have K2 := H2'.out.on b5; have v0 := cell_at K1.blk.h 0 _ rfl; have v1 := cell_at K1.blk.h 1 _ rfl; have v2 := frozen_at K1.blk.h 0; have v3 := frozen_at K1.blk.h 1; have v4 := cell_at K2.blk.h 0 _ rfl; have v5 := cell_at K2.blk.h 1 _ rfl; have v6 := frozen_at K2.blk.h 0; have v7 := frozen_at K2.blk.h 1; have hsz5 := Nat.lt_of_lt_of_le hsz b5.size; have lt2 : w.heap.size < w5.heap.size := (by omega); have lt3 : w.heap.size + 1 < w5.heap.size := (by omega); have en2 : ¬ w.heap.size = w5.heap.size := (by omega); have en3 : ¬ w5.heap.size = w.heap.size := (by omega); have en4 : ¬ w.heap.size + 1 = w5.heap.size := (by omega); have en5 : ¬ w5.heap.size = w.heap.size + 1 := (by omega))
      obtain ⟨M1, M2⟩ := move_pair K1 K2 r6 z6 n6 (show w.heap.size ≠ w.heap.size + 1 by omega)
      have o : ∀ {X : World} {a : Addr} {v : Value} {g : Nat}, g ≠ a.block → (X.setCell a v).heap[g]? = X.heap[g]? := fun {X a v g} h => Below.heap_setCell _ _ _ g h
      have d1 : w.heap.size + 1 + 1 ≠ w.heap.size := by omega
      have d2 : w.heap.size + 1 + 1 ≠ w.heap.size + 1 := by omega
      have hq5 : Blk ((((w5.setCell ⟨w.heap.size, 0, none⟩ (.bool s2)).setCell ⟨w.heap.size, 1, none⟩ (.slice A2 l2.length c2)).setCell ⟨w.heap.size + 1, 0, none⟩ (.bool s6)).setCell ⟨w.heap.size + 1, 1, none⟩ (.slice A6 l6.length c6)) (w.heap.size + 1 + 1) #[.bool false, .slice none 0 0] 24 := ⟨(o d2).trans ((o d2).trans ((o d1).trans ((o d1).trans (hq.on b5).h)))⟩
      have bb := ((((hbl.trans (b5.mono hbl.size)).setCell (p := ⟨w.heap.size, 0, none⟩) (Nat.le_refl _) (.bool s2)).setCell (p := ⟨w.heap.size, 1, none⟩) (Nat.le_refl _) (.slice A2 l2.length c2)).setCell (p := ⟨w.heap.size + 1, 0, none⟩) (Nat.le_succ _) (.bool s6)).setCell (p := ⟨w.heap.size + 1, 1, none⟩) (Nat.le_succ _) (.slice A6 l6.length c6)
      refine ⟨⟨s2, s6, A2, A6, c2, c6, l2, l6, y, r, M1.on (al1 _ _), M2.on (al1 _ _), hq5.on (al1 _ _), bb.alloc bb.size _, ?_, HG', t2, ?_⟩, ?_⟩
      · simp [World.setCell]; omega
      · show _ ≤ _
        exact Nat.le_trans (length_mono (Nat.le_of_lt Hl.out)) t2.out
      · rw [cellVal_eq (M2.on (al1 _ _)), cellVal_eq H2]
        exact Hl.out

end Nm
end Go.Proofs.YtlhmbbpkhahbeaaDoor
namespace Go.Proofs.YtlhmbbpkhahbeaaDoor
namespace Nm
open Go.RowKit Go.Shelf Go.BigFrame
attribute [local go_sem] Oper.semAt_some

/-- what To returns: the number as an int, or an error -/
def toR (n1 : Bool) (l1 : List Nat) : Int × Int :=
  if okI n1 l1 = true then (if l1.length ≤ 2 then (if n1 = true then (if val l1 ≤ 9223372036854775808 then (-(val l1 : Int), 0) else (0, 3)) else (if val l1 < 9223372036854775808 then ((val l1 : Int), 0) else (0, 3))) else (0, 3)) else (0, 1)

theorem val_two {l : List Nat} (h : l.length ≤ 2) : val l = 4294967296 * l.getD 1 0 + l.getD 0 0 := by
  rcases l with _ | ⟨a, _ | ⟨b, _ | ⟨c, t⟩⟩⟩
  · rfl
  · show a + BB * 0 = _; simp
  · show a + BB * (b + BB * 0) = _
    simp only [List.getD_cons_succ, List.getD_cons_zero]
    rw [Nat.mul_zero, Nat.add_zero]
    show a + 4294967296 * b = _
    omega
  · simp at h

set_option maxRecDepth 100000 in
set_option maxHeartbeats 8000000 in
theorem RTo_calls (n1 : Bool) (A : Option Addr) (c : Nat) (l : List Nat) (w : World) (h1 : Rd w A l) (hc1 : l.length ≤ c) :
    Calls Tryd.prog 51 #[iv n1 A l.length c] w (RetSm (toR n1 l).1 (toR n1 l).2 w) := by
  obtain ⟨W2, hW2⟩ : ∃ W2, (w.alloc (.cells #[.bool n1, .slice A l.length c] 24)).alloc (.cells #[.int .i64 0, .int .i64 0] 68) = W2 := ⟨_, rfl⟩
  have hb : Below w.heap.size w W2 := by rw [← hW2]; exact two_below _ _
  have B1 : IntBox W2 w.heap.size n1 A c l := ⟨by rw [← hW2]; exact (two_old w _ _ rfl).h, h1.on hb, hc1⟩
  have hR : Blk W2 (w.heap.size + 1) #[.int .i64 0, .int .i64 0] 68 := ⟨by rw [← hW2]; exact two_blk w _ _⟩
  have x0 := cell_at B1.blk 0 _ rfl
  have x1 := cell_at B1.blk 1 _ rfl
  have hfo := Formed_calls n1 A c l W2 B1.rd hc1
  unfold toR
  by_cases hok : okI n1 l = true
  · rw [if_pos hok]
    rw [hok] at hfo
    have hpos : n1 = true → 0 < val l := fun e => by
      have k := okI_isInt h1.words hok
      exact val_pos_of_canon k.canon (k.sign e)
    clear hok
    by_cases hl : l.length ≤ 2
    · rw [if_pos hl]
      have hlI : ¬ (2 : Int) < (l.length : Int) := by omega
      have hv := val_two hl
      obtain ⟨hi, hhi, hhib⟩ : ∃ x, l.getD 1 0 = x ∧ x < 4294967296 := ⟨_, rfl, words_getD h1.words 1⟩
      obtain ⟨lo, hlo, hlob⟩ : ∃ x, l.getD 0 0 = x ∧ x < 4294967296 := ⟨_, rfl, words_getD h1.words 0⟩
      rw [hhi, hlo] at hv
      obtain ⟨v, hvv⟩ : ∃ v, val l = v := ⟨_, rfl⟩
      rw [hvv] at hv hpos ⊢
      have L1 := fun W h => limb_calls A c 1 hi l W h hc1 hhi
      have L0 := fun W h => limb_calls A c 0 lo l W h hc1 hlo
      have hvb : v < 18446744073709551616 := by omega
      obtain ⟨p, hp⟩ : ∃ p : Nat, hi * 4294967296 = p := ⟨_, rfl⟩
      have m1 : IntKind.u64.wrap ((hi : Int) * 4294967296) = (p : Int) := by simp [IntKind.wrap, IntKind.bits, IntKind.signed]; omega
      have m2 : IntKind.u64.wrap ((p : Int) + (lo : Int)) = (v : Int) := by simp [IntKind.wrap, IntKind.bits, IntKind.signed]; omega
      have m3 : (hi : Int) * 4294967296 = (p : Int) := by omega
      have m4 : (p : Int) + (lo : Int) = (v : Int) := by omega
      have m5 : IntKind.u64.wrap (p : Int) = (p : Int) := by simp [IntKind.wrap, IntKind.bits, IntKind.signed]; omega
      have m6 : IntKind.u64.wrap (v : Int) = (v : Int) := by simp [IntKind.wrap, IntKind.bits, IntKind.signed]; omega
      clear hhi hlo hvv hv hp
      have fin : ∀ (z er : Int) (W : World), Below W2.heap.size W2 W → ∃ W', True := fun _ _ W _ => ⟨W, trivial⟩
      clear fin
      cases n1
      · rcases (show v < 9223372036854775808 ∨ 9223372036854775808 ≤ v by omega) with hv2 | hv2
        · rw [if_neg (by decide), if_pos hv2]
          have c1' : decide ((9223372036854775808 : Int) ≤ (v : Int)) = false := decide_eq_false (by omega)
          have c2' : IntKind.i64.wrap (v : Int) = (v : Int) := by rw [IntKind.wrap_i64]; omega
          clear hv2 hvb hl hpos hhib hlob
          (try clear hv0)
          go_enter Tryd.func51, Tryd.ntmps51
          go_wp2_with (go_at_call 16; refine hfo.mono ?_; rintro e w3 ⟨rfl, b3⟩; have B3 := B1.on b3; have p0 := cell_at B3.blk 0 _ rfl; have p1 := cell_at B3.blk 1 _ rfl; have hq3 := hR.on b3; have q2 := cell_at hq3.h 0 _ rfl; have q3 := cell_at hq3.h 1 _ rfl; have u2 := frozen_at hq3.h 0; have u3 := frozen_at hq3.h 1)
          go_region_held3 (fun w'' => w''.cell? ⟨w.heap.size, 1, none⟩ = some (.slice A l.length c)) ((first | (with_reducible exact p1) | exact p1))
            ((first
              | (go_at_call 86; have hmark := b31; refine (L0 _ (B3.rd.on (below_drew (Below.refl _ _)))).mono ?_; rintro e w4 ⟨rfl, rfl⟩)
              | (go_at_call 86; refine (L1 _ (B3.rd.on (below_drew (Below.refl _ _)))).mono ?_; rintro e w4 ⟨rfl, rfl⟩; have b31 := trivial)))
          go_wp2_with fail
          have bw := b3.trans (below_drew (Below.refl _ w3) |>.mono b3.size)
          exact ret_cellS rfl Tryd.underlying68 small_size rfl rfl (heap_drew _ _ (set_blk (set_blk hq3.h 0 _) 1 _)) rfl ⟨rfl, below_drew (((hb.trans (b3.mono hb.size)).setCell (by dsimp only; omega) _).setCell (by dsimp only; omega) _)⟩
        · rw [if_neg (by decide), if_neg (by omega)]
          have c1' : (9223372036854775808 : Int) ≤ (v : Int) := by omega
          clear hv2 hvb hl hpos hhib hlob
          (try clear hv0)
          go_enter Tryd.func51, Tryd.ntmps51
          go_wp2_with (go_at_call 16; refine hfo.mono ?_; rintro e w3 ⟨rfl, b3⟩; have B3 := B1.on b3; have p0 := cell_at B3.blk 0 _ rfl; have p1 := cell_at B3.blk 1 _ rfl; have hq3 := hR.on b3; have q2 := cell_at hq3.h 0 _ rfl; have q3 := cell_at hq3.h 1 _ rfl; have u2 := frozen_at hq3.h 0; have u3 := frozen_at hq3.h 1)
          go_region_held3 (fun w'' => w''.cell? ⟨w.heap.size, 1, none⟩ = some (.slice A l.length c)) ((first | (with_reducible exact p1) | exact p1))
            ((first
              | (go_at_call 86; have hmark := b31; refine (L0 _ (B3.rd.on (below_drew (Below.refl _ _)))).mono ?_; rintro e w4 ⟨rfl, rfl⟩)
              | (go_at_call 86; refine (L1 _ (B3.rd.on (below_drew (Below.refl _ _)))).mono ?_; rintro e w4 ⟨rfl, rfl⟩; have b31 := trivial)))
          go_wp2_with fail
          have bw := b3.trans (below_drew (Below.refl _ w3) |>.mono b3.size)
          exact ret_cellS rfl Tryd.underlying68 small_size rfl rfl (heap_drew _ _ (set_blk (set_blk hq3.h 0 _) 1 _)) rfl ⟨rfl, below_drew (((hb.trans (b3.mono hb.size)).setCell (by dsimp only; omega) _).setCell (by dsimp only; omega) _)⟩
      · rcases (show v ≤ 9223372036854775808 ∨ 9223372036854775808 < v by omega) with hv2 | hv2
        · have hv0 := hpos rfl
          rw [if_pos rfl, if_pos hv2]
          have c1' : (v : Int) ≤ 9223372036854775808 := by omega
          obtain ⟨m, hm⟩ : ∃ m : Nat, 18446744073709551616 - v = m := ⟨_, rfl⟩
          have c2' : IntKind.u64.wrap (0 - (v : Int)) = (m : Int) := by simp [IntKind.wrap, IntKind.bits, IntKind.signed]; omega
          have c4' : IntKind.u64.wrap (-(v : Int)) = (m : Int) := by simp [IntKind.wrap, IntKind.bits, IntKind.signed]; omega
          have c3' : IntKind.i64.wrap (m : Int) = -(v : Int) := by rw [IntKind.wrap_i64]; omega
          clear hm
          clear hv2 hvb hl hpos hhib hlob
          (try clear hv0)
          go_enter Tryd.func51, Tryd.ntmps51
          go_wp2_with (go_at_call 16; refine hfo.mono ?_; rintro e w3 ⟨rfl, b3⟩; have B3 := B1.on b3; have p0 := cell_at B3.blk 0 _ rfl; have p1 := cell_at B3.blk 1 _ rfl; have hq3 := hR.on b3; have q2 := cell_at hq3.h 0 _ rfl; have q3 := cell_at hq3.h 1 _ rfl; have u2 := frozen_at hq3.h 0; have u3 := frozen_at hq3.h 1)
          go_region_held3 (fun w'' => w''.cell? ⟨w.heap.size, 1, none⟩ = some (.slice A l.length c)) ((first | (with_reducible exact p1) | exact p1))
            ((first
              | (go_at_call 86; have hmark := b31; refine (L0 _ (B3.rd.on (below_drew (Below.refl _ _)))).mono ?_; rintro e w4 ⟨rfl, rfl⟩)
              | (go_at_call 86; refine (L1 _ (B3.rd.on (below_drew (Below.refl _ _)))).mono ?_; rintro e w4 ⟨rfl, rfl⟩; have b31 := trivial)))
          go_wp2_with fail
          have bw := b3.trans (below_drew (Below.refl _ w3) |>.mono b3.size)
          exact ret_cellS rfl Tryd.underlying68 small_size rfl rfl (heap_drew _ _ (set_blk (set_blk hq3.h 0 _) 1 _)) rfl ⟨rfl, below_drew (((hb.trans (b3.mono hb.size)).setCell (by dsimp only; omega) _).setCell (by dsimp only; omega) _)⟩
        · rw [if_pos rfl, if_neg (by omega)]
          have c1' : ¬ (v : Int) ≤ 9223372036854775808 := by omega
          clear hv2 hvb hl hpos hhib hlob
          (try clear hv0)
          go_enter Tryd.func51, Tryd.ntmps51
          go_wp2_with (go_at_call 16; refine hfo.mono ?_; rintro e w3 ⟨rfl, b3⟩; have B3 := B1.on b3; have p0 := cell_at B3.blk 0 _ rfl; have p1 := cell_at B3.blk 1 _ rfl; have hq3 := hR.on b3; have q2 := cell_at hq3.h 0 _ rfl; have q3 := cell_at hq3.h 1 _ rfl; have u2 := frozen_at hq3.h 0; have u3 := frozen_at hq3.h 1)
          go_region_held3 (fun w'' => w''.cell? ⟨w.heap.size, 1, none⟩ = some (.slice A l.length c)) ((first | (with_reducible exact p1) | exact p1))
            ((first
              | (go_at_call 86; have hmark := b31; refine (L0 _ (B3.rd.on (below_drew (Below.refl _ _)))).mono ?_; rintro e w4 ⟨rfl, rfl⟩)
              | (go_at_call 86; refine (L1 _ (B3.rd.on (below_drew (Below.refl _ _)))).mono ?_; rintro e w4 ⟨rfl, rfl⟩; have b31 := trivial)))
          go_wp2_with fail
          have bw := b3.trans (below_drew (Below.refl _ w3) |>.mono b3.size)
          exact ret_cellS rfl Tryd.underlying68 small_size rfl rfl (heap_drew _ _ (set_blk (set_blk hq3.h 0 _) 1 _)) rfl ⟨rfl, below_drew (((hb.trans (b3.mono hb.size)).setCell (by dsimp only; omega) _).setCell (by dsimp only; omega) _)⟩
    · rw [if_neg hl]
      have hlI : (2 : Int) < (l.length : Int) := by omega
      go_enter Tryd.func51, Tryd.ntmps51
      go_wp2_with (go_at_call 16; refine hfo.mono ?_; rintro e w3 ⟨rfl, b3⟩; have B3 := B1.on b3; have p0 := cell_at B3.blk 0 _ rfl; have p1 := cell_at B3.blk 1 _ rfl; have hq := hR.on b3; have q0 := cell_at hq.h 0 _ rfl; have q1 := cell_at hq.h 1 _ rfl; have u0 := frozen_at hq.h 0; have u1 := frozen_at hq.h 1)
      exact ret_cellS rfl Tryd.underlying68 small_size rfl rfl (set_blk (set_blk hq.h 0 _) 1 _) rfl ⟨rfl, ((hb.trans (b3.mono hb.size)).setCell (by dsimp only; omega) _).setCell (by dsimp only; omega) _⟩
  · rw [if_neg hok]
    rw [show okI n1 l = false by simpa using hok] at hfo
    clear hok
    go_enter Tryd.func51, Tryd.ntmps51
    go_wp2_with (go_at_call 16; refine hfo.mono ?_; rintro e w3 ⟨rfl, b3⟩; have hq := hR.on b3; have q0 := cell_at hq.h 0 _ rfl; have q1 := cell_at hq.h 1 _ rfl; have u0 := frozen_at hq.h 0; have u1 := frozen_at hq.h 1)
    exact ret_cellS rfl Tryd.underlying68 small_size rfl rfl (set_blk (set_blk hq.h 0 _) 1 _) rfl ⟨rfl, ((hb.trans (b3.mono hb.size)).setCell (by dsimp only; omega) _).setCell (by dsimp only; omega) _⟩

end Nm
end Go.Proofs.YtlhmbbpkhahbeaaDoor
namespace Go.Proofs.YtlhmbbpkhahbeaaDoor
namespace Nm
open Go.RowKit Go.Shelf Go.BigFrame
attribute [local go_sem] Oper.semAt_some

theorem to_bad (g1 : Nat) (n1 : Bool) (A1 : Option Addr) (c1 : Nat) (l1 : List Nat) (w : World) (h1 : IntBox w g1 n1 A1 c1 l1) (hok : okI n1 l1 = false) :
    Calls Tryd.prog 99 #[.pointer (some ⟨g1, 0, none⟩)] w fun e w' => e = .panicked (wrong 1) ∧ Below w.heap.size w w' := by
  have x0 := cell_at h1.blk 0 _ rfl
  have x1 := cell_at h1.blk 1 _ rfl
  have t1 := (Array.getElem?_eq_some_iff.1 h1.blk).1
  have hf := formed_one w.heap.size n1 A1 c1 l1 _ (World.alloc_heap_new w (.cells #[.bool n1, .slice A1 l1.length c1] 24)) (h1.rd.on (al1 _ _)) h1.cap
  go_enter Tryd.func99, Tryd.ntmps99
  go_wp2_with (go_at_call 55; refine hf.mono ?_; rintro e w' ⟨-, hp, hbl⟩; cases hp hok)
  exact ⟨rfl, rfl, (al1 _ _).trans (hbl.mono (al1 _ _).size)⟩

theorem to_long (g1 : Nat) (n1 : Bool) (A1 : Option Addr) (c1 : Nat) (l1 : List Nat) (w : World) (h1 : IntBox w g1 n1 A1 c1 l1) (hok : okI n1 l1 = true) (hl : 2 < l1.length) :
    Calls Tryd.prog 99 #[.pointer (some ⟨g1, 0, none⟩)] w fun e w' => e = .panicked (wrong 3) ∧ Below w.heap.size w w' := by
  have x0 := cell_at h1.blk 0 _ rfl
  have x1 := cell_at h1.blk 1 _ rfl
  have t1 := (Array.getElem?_eq_some_iff.1 h1.blk).1
  have hf := formed_one w.heap.size n1 A1 c1 l1 _ (World.alloc_heap_new w (.cells #[.bool n1, .slice A1 l1.length c1] 24)) (h1.rd.on (al1 _ _)) h1.cap
  have d1 : decide ((l1.length : Int) ≤ 2) = false := decide_eq_false (by omega)
  have d2 : decide (l1.length ≤ 2) = false := decide_eq_false (by omega)
  go_enter Tryd.func99, Tryd.ntmps99
  go_wp2_with first
    | (go_at_call 55; refine hf.mono ?_; rintro e w' ⟨hp, -, hbl⟩; cases hp hok; have hb3 := (al1 w (.cells #[.bool n1, .slice A1 l1.length c1] 24)).trans (hbl.mono (al1 _ _).size); have p1 := cell_at (h1.on hb3).blk 1 _ rfl)
    | (go_at_call 56; refine (must_no' 3 _).mono ?_; rintro e w5 ⟨rfl, rfl⟩)
  exact ⟨rfl, rfl, hb3⟩

theorem to_step {l : List Nat} {k cy x p : Nat} (hx : l.getD k 0 = x) (hp : p = x * 2 ^ (32 * k)) (h : cy = val (l.take k)) : cy + p = val (l.take (k + 1)) := by
  rw [val_take_succ l k x hx, h, hp, show (2 : Nat) ^ (32 * k) = BB ^ k from by rw [Nat.pow_mul], Nat.mul_comm x]

set_option maxRecDepth 100000 in
set_option maxHeartbeats 4000000 in
theorem to_go (g1 : Nat) (n1 : Bool) (A : Option Addr) (c : Nat) (l : List Nat) (w : World) (B1 : IntBox w g1 n1 A c l) (hok : okI n1 l = true) (hl : l.length ≤ 2) (z er : Int) (hz : toR n1 l = (z, er)) :
    Calls Tryd.prog 99 #[.pointer (some ⟨g1, 0, none⟩)] w (PostN z er w) := by
  refine (callsIn_wide (n := 5)).1 ?_
  refine callsIn_of_wp_marks Tryd.func99 rfl trivial ?_ rfl
  simp only [Tryd.ntmps99, List.size_toArray, List.length_cons, List.length_nil, Nat.reduceAdd, Nat.reduceSub, Array.replicate_succ, Array.replicate_zero, List.push_toArray, List.append_toArray, List.nil_append, List.cons_append]
  have x0 := cell_at B1.blk 0 _ rfl
  have x1 := cell_at B1.blk 1 _ rfl
  have tg := (Array.getElem?_eq_some_iff.1 B1.blk).1
  have hf := formed_one w.heap.size n1 A c l _ (World.alloc_heap_new w (.cells #[.bool n1, .slice A l.length c] 24)) (B1.rd.on (al1 _ _)) B1.cap
  have d1 : decide ((l.length : Int) ≤ 2) = true := decide_eq_true (by omega)
  have d2 : decide (l.length ≤ 2) = true := decide_eq_true (by omega)
  have h1 := B1.rd
  gi_wp2_with first
    | (refine ⟨trivial, ?_⟩; gi_at_call 100; refine (callsIn_wide.2 (limbs_calls _ _ _ _)).mono ?_; rintro e w2 ⟨rfl, rfl⟩)
    | (refine ⟨trivial, ?_⟩; gi_at_call 56; refine (callsIn_wide.2 (must_ok' 3 _)).mono ?_; rintro e w5 ⟨rfl, rfl⟩)
    | (refine ⟨trivial, ?_⟩; gi_at_call 55; refine (callsIn_wide.2 hf).mono ?_; rintro e w4 ⟨hp, -, hbl⟩; cases hp hok; have hb3 := (al1 w (.cells #[.bool n1, .slice A l.length c] 24)).trans (hbl.mono (al1 _ _).size); have p0 := cell_at (B1.on hb3).blk 0 _ rfl; have p1 := cell_at (B1.on hb3).blk 1 _ rfl; have B4 := (B1.on hb3).on (al1 w4 (.cells #[.int .u64 0] 102)); have p2 := cell_at B4.blk 0 _ rfl; have p3 := cell_at B4.blk 1 _ rfl)
  clear p0 p1 p2 p3 B4 x0 x1
  obtain ⟨w3, hw3⟩ : ∃ w3, allocs w4 [.cells #[.int .u64 0] 102, .cells #[.slice A l.length c] 79] = w3 := ⟨_, rfl⟩
  have hget := allocs_get w4 [.cells #[.int .u64 0] 102, .cells #[.slice A l.length c] 79]
  have hs3 := allocs_stp w4 [.cells #[.int .u64 0] 102, .cells #[.slice A l.length c] 79] (Nat.le_refl w4.heap.size)
  have hsz3 := allocs_size w4 [.cells #[.int .u64 0] 102, .cells #[.slice A l.length c] 79]
  rw [hw3] at hget hs3 hsz3
  simp only [allocs] at hw3
  rw [hw3]
  clear hw3
  replace hsz3 : w4.heap.size + 2 ≤ w3.heap.size := by rw [hsz3]; exact Nat.le_refl _
  have hB0 : Boxed w3 w4.heap.size 102 (.int .u64 0) := hget 0 (by simp)
  have hB1 : Boxed w3 (w4.heap.size + 1) 79 (.slice A l.length c) := hget 1 (by simp)
  clear hget
  have h4 := h1.on hb3
  have B4 := B1.on hb3
  have tg4 : g1 < w4.heap.size := Nat.lt_of_lt_of_le tg hb3.size
  refine wpIn_limbs_p (n₀ := w4.heap.size) (l := l) rfl (by omega) (gf := 122) (lb := #[.pointer (some ⟨w4.heap.size + 1, 0, none⟩)]) rfl trivial (enters_of Tryd.func122 (by kernel_rfl) rfl)
    (limbs1_in _ (w4.heap.size + 1) A c l w4.heap.size w3 hB1.cell (h4.below hs3.below rfl) (by omega) (rd_block h4)) (by omega) (Below.refl _ _) rfl
    (fun k W => ∃ cy : Nat, Boxed W w4.heap.size 102 (.int .u64 (cy : Int)) ∧ Below w4.heap.size w4 W ∧ Hid (cy = val (l.take k)))
    ?own ?start ?round ?done
  case own =>
    rintro k X Y row ⟨cy, a0, hbl, rest⟩ hg hr
    exact ⟨cy, boxed_ownF _ _ _ (fun _ => _) k X Y row a0 hg hr, ownFrom_below (Nat.le_refl _) (by omega) k X Y row hbl hg hr, rest⟩
  case start => exact ⟨0, hB0, hs3.below, by simp [Hid, val]⟩
  case round =>
    intro k W hk
    obtain ⟨x, hx, hxb⟩ : ∃ x, Hid (l.getD k 0 = x) ∧ x < 4294967296 := ⟨_, rfl, words_getD h1.words k⟩
    rw [hx.out]
    gi_wp2
    refine ⟨trivial, ?_⟩
    clear W
    rintro W ⟨cy, hbc, hbl, hval⟩
    have ghbc := hbc.cell
    have fhbc := hbc.frozen
    have thbc := hbc.lt
    obtain ⟨s, hs⟩ : ∃ s, 32 * k = s := ⟨_, rfl⟩
    have hs1 : (32 : Int) * (k : Int) = (s : Int) := by omega
    have hs2 : IntKind.i64.wrap ((32 : Int) * (k : Int)) = (s : Int) := by rw [IntKind.wrap_i64]; omega
    have hs3' : IntKind.i64.wrap (s : Int) = (s : Int) := by rw [IntKind.wrap_i64]; omega
    have hs64 : s < 64 := by omega
    have hbig : val (l.take (k + 1)) < 18446744073709551616 := by
      have h2 := val_lt (words_take h1.words (k + 1))
      refine Nat.lt_of_lt_of_le h2 ?_
      have h3 : (l.take (k + 1)).length ≤ 2 := by rw [List.length_take]; omega
      exact Nat.le_trans (Nat.pow_le_pow_right (by decide) h3) (by decide)
    have hst := to_step (l := l) (k := k) (cy := cy) (x := x) (p := x * 2 ^ (32 * k)) hx.out rfl hval.out
    rw [hs] at hst
    obtain ⟨p, hp⟩ : ∃ p, x * 2 ^ s = p := ⟨_, rfl⟩
    rw [hp] at hst
    have hpI : (x : Int) * 2 ^ s = (p : Int) := by rw [← hp]; simp
    have hp1 : IntKind.u64.wrap ((x : Int) * 2 ^ s) = (p : Int) := by rw [hpI]; exact wraps_u64 _ (by omega) (by omega)
    have hp2 : IntKind.u64.wrap (p : Int) = (p : Int) := wraps_u64 _ (by omega) (by omega)
    obtain ⟨t, ht⟩ : ∃ t, cy + p = t := ⟨_, rfl⟩
    rw [ht] at hst
    have htI : (cy : Int) + (p : Int) = (t : Int) := by omega
    have ht1 : IntKind.u64.wrap ((cy : Int) + (p : Int)) = (t : Int) := by rw [htI]; exact wraps_u64 _ (by omega) (by omega)
    have ht2 : IntKind.u64.wrap (t : Int) = (t : Int) := wraps_u64 _ (by omega) (by omega)
    have Hst := Lib.hid hst
    clear hs hp ht hst hbig
    gi_wp2
    have hwide : ∀ f, Fence.wide.fn f := fun _ => trivial
    refine wpIn_region_tail 7 (by kernel_rfl) (by kernel_rfl) (by kernel_rfl) ?_
    simp only [List.take_succ_cons, List.take_zero, List.drop_succ_cons, List.drop_zero]
    repeat (gi_big_quiet_step ((fail)))
    refine wpQuietIn_nil ?_
    intro m
    gi_wp2
    exact limb_end (((Stp.refl _ _).drewN _).set (by simp) _) (fun hst => ⟨t, boxed_set _ (HasBox.drewN (HasBox.of hbc) m), hbl.trans hst.below, Hst⟩)
  case done =>
    rintro D W hD ⟨cy, hbc, hbl, hval⟩ hK
    have ghbc := hbc.cell
    have fhbc := hbc.frozen
    have thbc := hbc.lt
    have B5 := B4.on hbl
    have y0 := cell_at B5.blk 0 _ rfl
    have y1 := cell_at B5.blk 1 _ rfl
    have hcv : cy = val l := by have := hval.out; rwa [List.take_length] at this
    have hbw : Below w.heap.size w (W.putObj D (.deferred none)) := hb3.trans ((hbl.trans (belowK_b (w := w4) (Nat.le_refl _) W D _ _ (by omega) hK rfl rfl)).mono hb3.size)
    have hpos : n1 = true → 0 < cy := fun e => by
      have k := okI_isInt h1.words hok
      rw [hcv]; exact val_pos_of_canon k.canon (k.sign e)
    unfold toR at hz
    rw [if_pos hok, if_pos hl, ← hcv] at hz
    clear hval hcv
    cases n1
    · rw [if_neg (by decide)] at hz
      rcases (show cy < 9223372036854775808 ∨ 9223372036854775808 ≤ cy by omega) with hv | hv
      · rw [if_pos hv] at hz
        cases hz
        have c1' : decide ((cy : Int) < 9223372036854775808) = true := decide_eq_true (by omega)
        have c2' : IntKind.i64.wrap (cy : Int) = (cy : Int) := by rw [IntKind.wrap_i64]; omega
        clear hv hpos
        gi_wp2_with (refine ⟨trivial, ?_⟩; gi_at_call 56; refine (callsIn_wide.2 (must_ok' 3 _)).mono ?_; rintro e w5 ⟨rfl, rfl⟩)
        refine ⟨by simp, .inl ⟨_, _, rfl, run_takeDeferred hK, ?_⟩⟩
        exact ⟨_, results_tmp rfl _ _ _, fun _ => ⟨rfl, hbw⟩, fun h => absurd rfl h⟩
      · rw [if_neg (by omega)] at hz
        cases hz
        have c1' : decide ((cy : Int) < 9223372036854775808) = false := decide_eq_false (by omega)
        clear hv hpos
        gi_wp2_with (refine ⟨trivial, ?_⟩; gi_at_call 56; refine (callsIn_wide.2 (must_no' 3 _)).mono ?_; rintro e w5 ⟨rfl, rfl⟩)
        refine ⟨by simp, .inl ⟨_, _, rfl, run_takeDeferred hK, ?_⟩⟩
        exact ⟨fun h => absurd h (by decide), fun _ => ⟨rfl, rfl, hbw⟩⟩
    · rw [if_pos rfl] at hz
      have hp0 := hpos rfl
      rcases (show cy ≤ 9223372036854775808 ∨ 9223372036854775808 < cy by omega) with hv | hv
      · rw [if_pos hv] at hz
        cases hz
        have c1' : decide ((cy : Int) ≤ 9223372036854775808) = true := decide_eq_true (by omega)
        obtain ⟨m, hm⟩ : ∃ m : Nat, 18446744073709551616 - cy = m := ⟨_, rfl⟩
        have c4' : IntKind.u64.wrap (-(cy : Int)) = (m : Int) := by simp [IntKind.wrap, IntKind.bits, IntKind.signed]; omega
        have c5' : IntKind.u64.wrap (0 - (cy : Int)) = (m : Int) := by simp [IntKind.wrap, IntKind.bits, IntKind.signed]; omega
        have c3' : IntKind.i64.wrap (m : Int) = -(cy : Int) := by rw [IntKind.wrap_i64]; omega
        clear hm hv hpos hp0
        gi_wp2_with (refine ⟨trivial, ?_⟩; gi_at_call 56; refine (callsIn_wide.2 (must_ok' 3 _)).mono ?_; rintro e w5 ⟨rfl, rfl⟩)
        refine ⟨by simp, .inl ⟨_, _, rfl, run_takeDeferred hK, ?_⟩⟩
        exact ⟨_, results_tmp rfl _ _ _, fun _ => ⟨rfl, hbw⟩, fun h => absurd rfl h⟩
      · rw [if_neg (by omega)] at hz
        cases hz
        have c1' : decide ((cy : Int) ≤ 9223372036854775808) = false := decide_eq_false (by omega)
        clear hv hpos hp0
        gi_wp2_with (refine ⟨trivial, ?_⟩; gi_at_call 56; refine (callsIn_wide.2 (must_no' 3 _)).mono ?_; rintro e w5 ⟨rfl, rfl⟩)
        refine ⟨by simp, .inl ⟨_, _, rfl, run_takeDeferred hK, ?_⟩⟩
        exact ⟨fun h => absurd h (by decide), fun _ => ⟨rfl, rfl, hbw⟩⟩

end Nm
end Go.Proofs.YtlhmbbpkhahbeaaDoor
namespace Go.Proofs.YtlhmbbpkhahbeaaDoor
namespace Nm
open Go.RowKit Go.Shelf Go.BigFrame
attribute [local go_sem] Oper.semAt_some

theorem toR_zero (n1 : Bool) (l1 : List Nat) : (toR n1 l1).2 ≠ 0 → (toR n1 l1).1 = 0 := by
  unfold toR
  split
  · split
    · split
      · split <;> simp
      · split <;> simp
    · simp
  · simp

theorem to1_calls (g1 : Nat) (n1 : Bool) (A1 : Option Addr) (c1 : Nat) (l1 : List Nat) (w : World) (h1 : IntBox w g1 n1 A1 c1 l1) :
    Calls Tryd.prog 99 #[.pointer (some ⟨g1, 0, none⟩)] w (PostN (toR n1 l1).1 (toR n1 l1).2 w) := by
  by_cases hok : okI n1 l1 = true
  · by_cases hl : l1.length ≤ 2
    · exact to_go g1 n1 A1 c1 l1 w h1 hok hl _ _ rfl
    · have e : toR n1 l1 = (0, 3) := by unfold toR; rw [if_pos hok, if_neg hl]
      rw [e]
      exact (to_long g1 n1 A1 c1 l1 w h1 hok (by omega)).mono fun e w' h => ⟨fun h => absurd h (by decide), fun _ => ⟨h.1, rfl, h.2⟩⟩
  · have e : toR n1 l1 = (0, 1) := by unfold toR; rw [if_neg hok]
    rw [e]
    exact (to_bad g1 n1 A1 c1 l1 w h1 (by simpa using hok)).mono fun e w' h => ⟨fun h => absurd h (by decide), fun _ => ⟨h.1, rfl, h.2⟩⟩

set_option maxRecDepth 100000 in
set_option maxHeartbeats 2000000 in
theorem To_calls (n1 : Bool) (A1 : Option Addr) (c1 : Nat) (l1 : List Nat) (w : World) (h1 : Rd w A1 l1) (hc1 : l1.length ≤ c1) :
    Calls Tryd.prog 50 #[iv n1 A1 l1.length c1] w (RetNE (toR n1 l1).1 (toR n1 l1).2 w) := by
  have hmf : ∀ (fn : Fn) (first cap : Array Value) (w : World), (Instr.makeFunc fn first cap).run Tryd.prog w = .ok (.func fn first cap) w := fun _ _ _ _ => rfl
  obtain ⟨W1, hW1⟩ : ∃ W1, w.alloc (.cells #[.bool n1, .slice A1 l1.length c1] 24) = W1 := ⟨_, rfl⟩
  have hb1 : Below w.heap.size w W1 := by rw [← hW1]; exact (Below.refl _ w).alloc (Nat.le_refl _) _
  have B1 : IntBox W1 w.heap.size n1 A1 c1 l1 := ⟨by rw [← hW1]; exact World.alloc_heap_new w _, h1.on hb1, hc1⟩
  have hB4 : ∀ o o', Below W1.heap.size W1 ((W1.alloc o).alloc o') := fun o o' => ((Below.refl _ W1).alloc (Nat.le_refl _) _).alloc (by simp) _
  have ht := try_num 99 #[.pointer (some ⟨w.heap.size, 0, none⟩)] (enters_of Tryd.func99 (by kernel_rfl) rfl) W1 _ _ (to1_calls _ n1 A1 c1 l1 _ (B1.on (hB4 _ _))) (toR_zero n1 l1)
  generalize (toR n1 l1).1 = z at *
  generalize (toR n1 l1).2 = er at *
  go_enter Tryd.func50, Tryd.ntmps50
  go_wp2_with (go_at_call 92; refine ht.mono ?_; rintro e w' ⟨rfl, hb⟩)
  go_ret2
  exact ⟨rfl, hb1.trans (hb.mono hb1.size)⟩

end Nm
end Go.Proofs.YtlhmbbpkhahbeaaDoor
namespace Go.Proofs.YtlhmbbpkhahbeaaDoor
namespace Nm
open Go.RowKit Go.Shelf Go.BigFrame
attribute [local go_sem] Oper.semAt_some

theorem Check_yes (n : Bool) (A : Option Addr) (c : Nat) (l : List Nat) (w : World) (hA : Rd w A l) (hc : l.length ≤ c) (h : okI n l = true) :
    Calls Tryd.prog 48 #[iv n A l.length c] w fun e w' => e = .returned (.int .i64 0) ∧ Below w.heap.size w w' := by
  have := Check_calls n A c l w hA hc
  rwa [h, if_pos rfl] at this
theorem Check_no (n : Bool) (A : Option Addr) (c : Nat) (l : List Nat) (w : World) (hA : Rd w A l) (hc : l.length ≤ c) (h : okI n l = false) :
    Calls Tryd.prog 48 #[iv n A l.length c] w fun e w' => e = .returned (.int .i64 1) ∧ Below w.heap.size w w' := by
  have := Check_calls n A c l w hA hc
  rwa [h, if_neg (by decide)] at this
theorem Compare_v (n1 n2 : Bool) (A1 A2 : Option Addr) (c1 c2 : Nat) (l1 l2 : List Nat) (w : World) (h1 : Rd w A1 l1) (h2 : Rd w A2 l2) (hc1 : l1.length ≤ c1) (hc2 : l2.length ≤ c2) (v : Int) (hv : cmpR n1 l1 n2 l2 = v) :
    Calls Tryd.prog 47 #[iv n1 A1 l1.length c1, iv n2 A2 l2.length c2] w fun e w' => e = .returned (.int .i64 v) ∧ Below w.heap.size w w' := by
  have := Compare_calls n1 n2 A1 A2 c1 c2 l1 l2 w h1 h2 hc1 hc2
  rwa [hv] at this

set_option maxRecDepth 100000 in
set_option maxHeartbeats 16000000 in
theorem NumTells_calls (s1 s2 : Bool) (A1 A2 : Option Addr) (c1 c2 : Nat) (l1 l2 : List Nat) (n : Int) (w : World) (h1 : Rd w A1 l1) (h2 : Rd w A2 l2) (hc1 : l1.length ≤ c1) (hc2 : l2.length ≤ c2) (hn1 : -9223372036854775808 ≤ n) (hn2 : n < 9223372036854775808) (hd : DigW w) :
    Calls Tryd.prog 14 #[iv s1 A1 l1.length c1, iv s2 A2 l2.length c2, .int .i64 n] w fun e w' => e = .returned (.bool true) ∧ Below w.heap.size w w' := by
  obtain ⟨hbw, B1, B2⟩ := two_boxes w s1 s2 A1 A2 c1 c2 l1 l2 h1 h2 hc1 hc2
  obtain ⟨W, hW⟩ : ∃ W, (w.alloc (.cells #[.bool s1, .slice A1 l1.length c1] 24)).alloc (.cells #[.bool s2, .slice A2 l2.length c2] 24) = W := ⟨_, rfl⟩
  rw [hW] at hbw B1 B2
  have hsz1 : w.heap.size + 1 < W.heap.size := by rw [← hW]; simp
  have hsz0 : w.heap.size < W.heap.size := by omega
  have x0 := cell_at B1.blk 0 _ rfl
  have x1 := cell_at B1.blk 1 _ rfl
  have x2 := cell_at B2.blk 0 _ rfl
  have x3 := cell_at B2.blk 1 _ rfl
  have hal : ∀ o, Below W.heap.size W (W.alloc o) := fun o => (Below.refl _ W).alloc (Nat.le_refl _) _
  obtain ⟨b8, h8⟩ : ∃ b, (decide (l1.length ≤ 400) && decide (l2.length ≤ 400)) = b := ⟨_, rfl⟩
  obtain ⟨o1, ho1⟩ : ∃ b, okI s1 l1 = b := ⟨_, rfl⟩
  obtain ⟨o2, ho2⟩ : ∃ b, okI s2 l2 = b := ⟨_, rfl⟩
  have f8 := few_two 400 W.heap.size s1 s2 A1 A2 c1 c2 l1 l2 _ (args_blk W s1 s2 A1 A2 c1 c2 l1 l2) (B1.rd.on (hal _)) (B2.rd.on (hal _)) hc1 hc2 _ h8
  have F1 := fun W' h => Formed_is s1 A1 c1 l1 W' h hc1 _ ho1
  have F2 := fun W' h => Formed_is s2 A2 c2 l2 W' h hc2 _ ho2
  have KB := fun W' h => Bits_calls s1 A1 c1 l1 W' h hc1
  have RB := fun W' h => RBits_calls s1 A1 c1 l1 W' h hc1
  have KT := fun W' h => To_calls s1 A1 c1 l1 W' h hc1
  have RT := fun W' h => RTo_calls s1 A1 c1 l1 W' h hc1
  obtain ⟨⟨k, ek⟩, hk⟩ : ∃ P, bitsR s1 l1 = P := ⟨_, rfl⟩
  obtain ⟨⟨m, em⟩, hm⟩ : ∃ P, toR s1 l1 = P := ⟨_, rfl⟩
  rw [hk] at KB RB
  rw [hm] at KT RT
  have hdW := hd.on hbw
  have Ho1 := Lib.hid ho1
  have Ho2 := Lib.hid ho2
  have hw1 := h1.words
  have hw2 := h2.words
  clear h8 ho1 ho2 hk hm
  cases b8
  · go_enter Tryd.func14, Tryd.ntmps14
    go_wp2_with first
      | (go_at_call 17; have hmark := by9; refine (sane_calls _ (hdW.on by9)).mono ?_; rintro e w10 ⟨rfl, b10⟩; have by10 := by9.trans (b10.mono by9.size); replace B1 := B1.on b10; replace B2 := B2.on b10; clear b10)
      | (go_at_call 15; refine f8.mono ?_; rintro e w4 ⟨rfl, rfl⟩; have by9 := hal (.cells #[.bool s1, .slice A1 l1.length c1, .bool s2, .slice A2 l2.length c2] 24); replace B1 := B1.on by9; replace B2 := B2.on by9)
    go_ret
    exact ⟨rfl, hbw.trans (by10.mono hbw.size)⟩
  · cases o1
    · have hcv : Hid (cmpR s1 l1 s2 l2 = 0) := by show _ = _; unfold cmpR; rw [Ho1.out, Bool.false_and, if_neg (by decide)]
      go_enter Tryd.func14, Tryd.ntmps14
      go_wp2_with first
        | (go_at_call 20; have hmark := by21; refine (Same_d s20 s21 A20 A21 c20 c21 l20 l21 _ _ _ r20 r21 n20 n21 z20 z21 true (decide_eq_true rfl)).mono ?_; rintro e w22 ⟨rfl, b22⟩; have by22 := by21.trans (b22.mono by21.size); replace B1 := B1.on b22; replace B2 := B2.on b22; replace B12 := B12.on b22; replace B15 := B15.on b22; clear b22)
        | (go_at_call 40; have hmark := by20; refine (ROf_calls n _ hn1 hn2).mono ?_; rintro e w21 ⟨s21, A21, c21, l21, rfl, z21, n21, r21, b21⟩; replace r20 := r20.on b21; have by21 := by20.trans (b21.mono by20.size); replace B1 := B1.on b21; replace B2 := B2.on b21; replace B12 := B12.on b21; replace B15 := B15.on b21; clear b21)
        | (go_at_call 52; have hmark := by19; refine (Of_calls n _ hn1 hn2).mono ?_; rintro e w20 ⟨s20, A20, c20, l20, rfl, z20, n20, r20, b20⟩; have by20 := by19.trans (b20.mono by19.size); replace B1 := B1.on b20; replace B2 := B2.on b20; replace B12 := B12.on b20; replace B15 := B15.on b20; clear b20)
        | (go_at_call 48; have hmark := by18; refine (Check_no s1 A1 c1 l1 _ B1.rd hc1 Ho1.out).mono ?_; rintro e w19 ⟨rfl, b19⟩; have by19 := by18.trans (b19.mono by18.size); replace B1 := B1.on b19; replace B2 := B2.on b19; replace B12 := B12.on b19; replace B15 := B15.on b19; clear b19; have g0 := cell_at B12.h 0 _ rfl; have g1 := cell_at B12.h 1 _ rfl; have g2 := cell_at B15.h 0 _ rfl; have g3 := cell_at B15.h 1 _ rfl; clear u1a u1b)
        | (go_at_call 16; have hmark := by17; refine (F1 _ B1.rd).mono ?_; rintro e w18 ⟨rfl, b18⟩; have by18 := by17.trans (b18.mono by17.size); replace B1 := B1.on b18; replace B2 := B2.on b18; replace B12 := B12.on b18; replace B15 := B15.on b18; clear b18; clear u1a u1b; have u1a := cell_at B1.blk 0 _ rfl; have u1b := cell_at B1.blk 1 _ rfl)
        | (go_at_call 17; have hmark := by16; refine (sane_calls _ (hdW.on by16)).mono ?_; rintro e w17 ⟨rfl, b17⟩; have by17 := by16.trans (b17.mono by16.size); replace B1 := B1.on b17; replace B2 := B2.on b17; replace B12 := B12.on b17; replace B15 := B15.on b17; clear b17; have u1a := cell_at B1.blk 0 _ rfl; have u1b := cell_at B1.blk 1 _ rfl)
        | (go_at_call 51; have hmark := by15; refine (RT _ B1.rd).mono ?_; rintro e w16 ⟨rfl, b16⟩; have B15 : Blk (w16.alloc (.cells #[.int .i64 m, .int .i64 em] 68)) w16.heap.size #[.int .i64 m, .int .i64 em] 68 := ⟨World.alloc_heap_new w16 _⟩; replace b16 := b16.trans ((al1 w16 (.cells #[.int .i64 m, .int .i64 em] 68)).mono b16.size); have by16 := by15.trans (b16.mono by15.size); replace B1 := B1.on b16; replace B2 := B2.on b16; replace B12 := B12.on b16; clear b16; clear u1a u1b)
        | (go_at_call 50; have hmark := by14; refine (KT _ B1.rd).mono ?_; rintro e w15 ⟨rfl, b15⟩; have by15 := by14.trans (b15.mono by14.size); replace B1 := B1.on b15; replace B2 := B2.on b15; replace B12 := B12.on b15; clear b15; clear u1a u1b; have u1a := cell_at B1.blk 0 _ rfl; have u1b := cell_at B1.blk 1 _ rfl)
        | (go_at_call 49; have hmark := by13; refine (RB _ B1.rd).mono ?_; rintro e w14 ⟨rfl, b14⟩; have B12 : Blk (w14.alloc (.cells #[.int .i64 k, .int .i64 ek] 68)) w14.heap.size #[.int .i64 k, .int .i64 ek] 68 := ⟨World.alloc_heap_new w14 _⟩; replace b14 := b14.trans ((al1 w14 (.cells #[.int .i64 k, .int .i64 ek] 68)).mono b14.size); have by14 := by13.trans (b14.mono by13.size); replace B1 := B1.on b14; replace B2 := B2.on b14; clear b14; clear u1a u1b; have u1a := cell_at B1.blk 0 _ rfl; have u1b := cell_at B1.blk 1 _ rfl)
        | (go_at_call 41; have hmark := by12; refine (KB _ B1.rd).mono ?_; rintro e w13 ⟨rfl, b13⟩; have by13 := by12.trans (b13.mono by12.size); replace B1 := B1.on b13; replace B2 := B2.on b13; clear b13; clear u1a u1b; have u1a := cell_at B1.blk 0 _ rfl; have u1b := cell_at B1.blk 1 _ rfl)
        | (go_at_call 16; have hmark := by11; refine (F1 _ B1.rd).mono ?_; rintro e w12 ⟨rfl, b12⟩; have by12 := by11.trans (b12.mono by11.size); replace B1 := B1.on b12; replace B2 := B2.on b12; clear b12; clear u1a u1b; have u1a := cell_at B1.blk 0 _ rfl; have u1b := cell_at B1.blk 1 _ rfl)
        | (go_at_call 47; have hmark := by10; refine (Compare_v s1 s2 A1 A2 c1 c2 l1 l2 _ B1.rd B2.rd hc1 hc2 0 hcv.out).mono ?_; rintro e w11 ⟨rfl, b11⟩; have by11 := by10.trans (b11.mono by10.size); replace B1 := B1.on b11; replace B2 := B2.on b11; clear b11; clear u1a u1b; clear u2a u2b; have u1a := cell_at B1.blk 0 _ rfl; have u1b := cell_at B1.blk 1 _ rfl)
        | (go_at_call 48; have hmark := by9; refine (Check_no s1 A1 c1 l1 _ B1.rd hc1 Ho1.out).mono ?_; rintro e w10 ⟨rfl, b10⟩; have by10 := by9.trans (b10.mono by9.size); replace B1 := B1.on b10; replace B2 := B2.on b10; clear b10; clear u1a u1b; have u1a := cell_at B1.blk 0 _ rfl; have u1b := cell_at B1.blk 1 _ rfl; have u2a := cell_at B2.blk 0 _ rfl; have u2b := cell_at B2.blk 1 _ rfl)
        | (go_at_call 15; refine f8.mono ?_; rintro e w4 ⟨rfl, rfl⟩; have by9 := hal (.cells #[.bool s1, .slice A1 l1.length c1, .bool s2, .slice A2 l2.length c2] 24); replace B1 := B1.on by9; replace B2 := B2.on by9; have u1a := cell_at B1.blk 0 _ rfl; have u1b := cell_at B1.blk 1 _ rfl)
      go_ret
      exact ⟨rfl, hbw.trans (by22.mono hbw.size)⟩
    · cases o2
      · have hcv : Hid (cmpR s1 l1 s2 l2 = 0) := by show _ = _; unfold cmpR; rw [Ho1.out, Ho2.out, Bool.and_false, if_neg (by decide)]
        go_enter Tryd.func14, Tryd.ntmps14
        go_wp2_with first
          | (go_at_call 20; have hmark := by21; refine (Same_d s20 s21 A20 A21 c20 c21 l20 l21 _ _ _ r20 r21 n20 n21 z20 z21 true (decide_eq_true rfl)).mono ?_; rintro e w22 ⟨rfl, b22⟩; have by22 := by21.trans (b22.mono by21.size); replace B1 := B1.on b22; replace B2 := B2.on b22; replace B12 := B12.on b22; replace B15 := B15.on b22; clear b22)
          | (go_at_call 40; have hmark := by20; refine (ROf_calls n _ hn1 hn2).mono ?_; rintro e w21 ⟨s21, A21, c21, l21, rfl, z21, n21, r21, b21⟩; replace r20 := r20.on b21; have by21 := by20.trans (b21.mono by20.size); replace B1 := B1.on b21; replace B2 := B2.on b21; replace B12 := B12.on b21; replace B15 := B15.on b21; clear b21)
          | (go_at_call 52; have hmark := by19; refine (Of_calls n _ hn1 hn2).mono ?_; rintro e w20 ⟨s20, A20, c20, l20, rfl, z20, n20, r20, b20⟩; have by20 := by19.trans (b20.mono by19.size); replace B1 := B1.on b20; replace B2 := B2.on b20; replace B12 := B12.on b20; replace B15 := B15.on b20; clear b20)
          | (go_at_call 16; have hmark := by18; refine (F1 _ B1.rd).mono ?_; rintro e w19 ⟨rfl, b19⟩; have by19 := by18.trans (b19.mono by18.size); replace B1 := B1.on b19; replace B2 := B2.on b19; replace B12 := B12.on b19; replace B15 := B15.on b19; clear b19; have g0 := cell_at B12.h 0 _ rfl; have g1 := cell_at B12.h 1 _ rfl; have g2 := cell_at B15.h 0 _ rfl; have g3 := cell_at B15.h 1 _ rfl; clear u1a u1b)
          | (go_at_call 17; have hmark := by17; refine (sane_calls _ (hdW.on by17)).mono ?_; rintro e w18 ⟨rfl, b18⟩; have by18 := by17.trans (b18.mono by17.size); replace B1 := B1.on b18; replace B2 := B2.on b18; replace B12 := B12.on b18; replace B15 := B15.on b18; clear b18; have u1a := cell_at B1.blk 0 _ rfl; have u1b := cell_at B1.blk 1 _ rfl)
          | (go_at_call 51; have hmark := by16; refine (RT _ B1.rd).mono ?_; rintro e w17 ⟨rfl, b17⟩; have B15 : Blk (w17.alloc (.cells #[.int .i64 m, .int .i64 em] 68)) w17.heap.size #[.int .i64 m, .int .i64 em] 68 := ⟨World.alloc_heap_new w17 _⟩; replace b17 := b17.trans ((al1 w17 (.cells #[.int .i64 m, .int .i64 em] 68)).mono b17.size); have by17 := by16.trans (b17.mono by16.size); replace B1 := B1.on b17; replace B2 := B2.on b17; replace B12 := B12.on b17; clear b17; clear u1a u1b)
          | (go_at_call 50; have hmark := by15; refine (KT _ B1.rd).mono ?_; rintro e w16 ⟨rfl, b16⟩; have by16 := by15.trans (b16.mono by15.size); replace B1 := B1.on b16; replace B2 := B2.on b16; replace B12 := B12.on b16; clear b16; clear u1a u1b; have u1a := cell_at B1.blk 0 _ rfl; have u1b := cell_at B1.blk 1 _ rfl)
          | (go_at_call 49; have hmark := by14; refine (RB _ B1.rd).mono ?_; rintro e w15 ⟨rfl, b15⟩; have B12 : Blk (w15.alloc (.cells #[.int .i64 k, .int .i64 ek] 68)) w15.heap.size #[.int .i64 k, .int .i64 ek] 68 := ⟨World.alloc_heap_new w15 _⟩; replace b15 := b15.trans ((al1 w15 (.cells #[.int .i64 k, .int .i64 ek] 68)).mono b15.size); have by15 := by14.trans (b15.mono by14.size); replace B1 := B1.on b15; replace B2 := B2.on b15; clear b15; clear u1a u1b; have u1a := cell_at B1.blk 0 _ rfl; have u1b := cell_at B1.blk 1 _ rfl)
          | (go_at_call 41; have hmark := by13; refine (KB _ B1.rd).mono ?_; rintro e w14 ⟨rfl, b14⟩; have by14 := by13.trans (b14.mono by13.size); replace B1 := B1.on b14; replace B2 := B2.on b14; clear b14; clear u1a u1b; have u1a := cell_at B1.blk 0 _ rfl; have u1b := cell_at B1.blk 1 _ rfl)
          | (go_at_call 16; have hmark := by12; refine (F2 _ B2.rd).mono ?_; rintro e w13 ⟨rfl, b13⟩; have by13 := by12.trans (b13.mono by12.size); replace B1 := B1.on b13; replace B2 := B2.on b13; clear b13; clear u2a u2b; have u1a := cell_at B1.blk 0 _ rfl; have u1b := cell_at B1.blk 1 _ rfl)
          | (go_at_call 16; have hmark := by11; refine (F1 _ B1.rd).mono ?_; rintro e w12 ⟨rfl, b12⟩; have by12 := by11.trans (b12.mono by11.size); replace B1 := B1.on b12; replace B2 := B2.on b12; clear b12; clear u1a u1b; have u2a := cell_at B2.blk 0 _ rfl; have u2b := cell_at B2.blk 1 _ rfl)
          | (go_at_call 47; have hmark := by10; refine (Compare_v s1 s2 A1 A2 c1 c2 l1 l2 _ B1.rd B2.rd hc1 hc2 0 hcv.out).mono ?_; rintro e w11 ⟨rfl, b11⟩; have by11 := by10.trans (b11.mono by10.size); replace B1 := B1.on b11; replace B2 := B2.on b11; clear b11; clear u1a u1b; clear u2a u2b; have u1a := cell_at B1.blk 0 _ rfl; have u1b := cell_at B1.blk 1 _ rfl)
          | (go_at_call 48; have hmark := by9; refine (Check_yes s1 A1 c1 l1 _ B1.rd hc1 Ho1.out).mono ?_; rintro e w10 ⟨rfl, b10⟩; have by10 := by9.trans (b10.mono by9.size); replace B1 := B1.on b10; replace B2 := B2.on b10; clear b10; clear u1a u1b; have u1a := cell_at B1.blk 0 _ rfl; have u1b := cell_at B1.blk 1 _ rfl; have u2a := cell_at B2.blk 0 _ rfl; have u2b := cell_at B2.blk 1 _ rfl)
          | (go_at_call 15; refine f8.mono ?_; rintro e w4 ⟨rfl, rfl⟩; have by9 := hal (.cells #[.bool s1, .slice A1 l1.length c1, .bool s2, .slice A2 l2.length c2] 24); replace B1 := B1.on by9; replace B2 := B2.on by9; have u1a := cell_at B1.blk 0 _ rfl; have u1b := cell_at B1.blk 1 _ rfl)
        go_ret
        exact ⟨rfl, hbw.trans (by22.mono hbw.size)⟩
      · have z1 := okZ_of hw1 Ho1.out
        have z2 := okZ_of hw2 Ho2.out
        obtain ⟨v, hv⟩ : ∃ v, cmpZ (toZ s1 l1) (toZ s2 l2) = v := ⟨_, rfl⟩
        have hcv : Hid (cmpR s1 l1 s2 l2 = v) := by show _ = _; unfold cmpR; rw [Ho1.out, Ho2.out, Bool.and_self, if_pos rfl, hv]
        have KR := fun W' h1 h2 => RCompare_calls s1 s2 A1 A2 c1 c2 l1 l2 _ _ W' h1 h2 hc1 hc2 z1.isZ z2.isZ
        rw [hv] at KR
        clear hv z1 z2
        go_enter Tryd.func14, Tryd.ntmps14
        go_wp2_with first
          | (go_at_call 20; have hmark := by22; refine (Same_d s20 s21 A20 A21 c20 c21 l20 l21 _ _ _ r20 r21 n20 n21 z20 z21 true (decide_eq_true rfl)).mono ?_; rintro e w23 ⟨rfl, b23⟩; have by23 := by22.trans (b23.mono by22.size); replace B1 := B1.on b23; replace B2 := B2.on b23; replace B12 := B12.on b23; replace B15 := B15.on b23; clear b23)
          | (go_at_call 40; have hmark := by21; refine (ROf_calls n _ hn1 hn2).mono ?_; rintro e w22 ⟨s21, A21, c21, l21, rfl, z21, n21, r21, b22⟩; replace r20 := r20.on b22; have by22 := by21.trans (b22.mono by21.size); replace B1 := B1.on b22; replace B2 := B2.on b22; replace B12 := B12.on b22; replace B15 := B15.on b22; clear b22)
          | (go_at_call 52; have hmark := by20; refine (Of_calls n _ hn1 hn2).mono ?_; rintro e w21 ⟨s20, A20, c20, l20, rfl, z20, n20, r20, b21⟩; have by21 := by20.trans (b21.mono by20.size); replace B1 := B1.on b21; replace B2 := B2.on b21; replace B12 := B12.on b21; replace B15 := B15.on b21; clear b21)
          | (go_at_call 16; have hmark := by19; refine (F1 _ B1.rd).mono ?_; rintro e w20 ⟨rfl, b20⟩; have by20 := by19.trans (b20.mono by19.size); replace B1 := B1.on b20; replace B2 := B2.on b20; replace B12 := B12.on b20; replace B15 := B15.on b20; clear b20; have g0 := cell_at B12.h 0 _ rfl; have g1 := cell_at B12.h 1 _ rfl; have g2 := cell_at B15.h 0 _ rfl; have g3 := cell_at B15.h 1 _ rfl; clear u1a u1b)
          | (go_at_call 17; have hmark := by18; refine (sane_calls _ (hdW.on by18)).mono ?_; rintro e w19 ⟨rfl, b19⟩; have by19 := by18.trans (b19.mono by18.size); replace B1 := B1.on b19; replace B2 := B2.on b19; replace B12 := B12.on b19; replace B15 := B15.on b19; clear b19; have u1a := cell_at B1.blk 0 _ rfl; have u1b := cell_at B1.blk 1 _ rfl)
          | (go_at_call 51; have hmark := by17; refine (RT _ B1.rd).mono ?_; rintro e w18 ⟨rfl, b18⟩; have B15 : Blk (w18.alloc (.cells #[.int .i64 m, .int .i64 em] 68)) w18.heap.size #[.int .i64 m, .int .i64 em] 68 := ⟨World.alloc_heap_new w18 _⟩; replace b18 := b18.trans ((al1 w18 (.cells #[.int .i64 m, .int .i64 em] 68)).mono b18.size); have by18 := by17.trans (b18.mono by17.size); replace B1 := B1.on b18; replace B2 := B2.on b18; replace B12 := B12.on b18; clear b18; clear u1a u1b)
          | (go_at_call 50; have hmark := by16; refine (KT _ B1.rd).mono ?_; rintro e w17 ⟨rfl, b17⟩; have by17 := by16.trans (b17.mono by16.size); replace B1 := B1.on b17; replace B2 := B2.on b17; replace B12 := B12.on b17; clear b17; clear u1a u1b; have u1a := cell_at B1.blk 0 _ rfl; have u1b := cell_at B1.blk 1 _ rfl)
          | (go_at_call 49; have hmark := by15; refine (RB _ B1.rd).mono ?_; rintro e w16 ⟨rfl, b16⟩; have B12 : Blk (w16.alloc (.cells #[.int .i64 k, .int .i64 ek] 68)) w16.heap.size #[.int .i64 k, .int .i64 ek] 68 := ⟨World.alloc_heap_new w16 _⟩; replace b16 := b16.trans ((al1 w16 (.cells #[.int .i64 k, .int .i64 ek] 68)).mono b16.size); have by16 := by15.trans (b16.mono by15.size); replace B1 := B1.on b16; replace B2 := B2.on b16; clear b16; clear u1a u1b; have u1a := cell_at B1.blk 0 _ rfl; have u1b := cell_at B1.blk 1 _ rfl)
          | (go_at_call 41; have hmark := by14; refine (KB _ B1.rd).mono ?_; rintro e w15 ⟨rfl, b15⟩; have by15 := by14.trans (b15.mono by14.size); replace B1 := B1.on b15; replace B2 := B2.on b15; clear b15; clear u1a u1b; have u1a := cell_at B1.blk 0 _ rfl; have u1b := cell_at B1.blk 1 _ rfl)
          | (go_at_call 37; have hmark := by13; refine (KR _ B1.rd B2.rd).mono ?_; rintro e w14 ⟨rfl, b14⟩; have by14 := by13.trans (b14.mono by13.size); replace B1 := B1.on b14; replace B2 := B2.on b14; clear b14; clear u1a u1b; clear u2a u2b; have u1a := cell_at B1.blk 0 _ rfl; have u1b := cell_at B1.blk 1 _ rfl)
          | (go_at_call 16; have hmark := by12; refine (F2 _ B2.rd).mono ?_; rintro e w13 ⟨rfl, b13⟩; have by13 := by12.trans (b13.mono by12.size); replace B1 := B1.on b13; replace B2 := B2.on b13; clear b13; clear u2a u2b; have u1a := cell_at B1.blk 0 _ rfl; have u1b := cell_at B1.blk 1 _ rfl; have u2a := cell_at B2.blk 0 _ rfl; have u2b := cell_at B2.blk 1 _ rfl)
          | (go_at_call 16; have hmark := by11; refine (F1 _ B1.rd).mono ?_; rintro e w12 ⟨rfl, b12⟩; have by12 := by11.trans (b12.mono by11.size); replace B1 := B1.on b12; replace B2 := B2.on b12; clear b12; clear u1a u1b; have u2a := cell_at B2.blk 0 _ rfl; have u2b := cell_at B2.blk 1 _ rfl)
          | (go_at_call 47; have hmark := by10; refine (Compare_v s1 s2 A1 A2 c1 c2 l1 l2 _ B1.rd B2.rd hc1 hc2 v hcv.out).mono ?_; rintro e w11 ⟨rfl, b11⟩; have by11 := by10.trans (b11.mono by10.size); replace B1 := B1.on b11; replace B2 := B2.on b11; clear b11; clear u1a u1b; clear u2a u2b; have u1a := cell_at B1.blk 0 _ rfl; have u1b := cell_at B1.blk 1 _ rfl)
          | (go_at_call 48; have hmark := by9; refine (Check_yes s1 A1 c1 l1 _ B1.rd hc1 Ho1.out).mono ?_; rintro e w10 ⟨rfl, b10⟩; have by10 := by9.trans (b10.mono by9.size); replace B1 := B1.on b10; replace B2 := B2.on b10; clear b10; clear u1a u1b; have u1a := cell_at B1.blk 0 _ rfl; have u1b := cell_at B1.blk 1 _ rfl; have u2a := cell_at B2.blk 0 _ rfl; have u2b := cell_at B2.blk 1 _ rfl)
          | (go_at_call 15; refine f8.mono ?_; rintro e w4 ⟨rfl, rfl⟩; have by9 := hal (.cells #[.bool s1, .slice A1 l1.length c1, .bool s2, .slice A2 l2.length c2] 24); replace B1 := B1.on by9; replace B2 := B2.on by9; have u1a := cell_at B1.blk 0 _ rfl; have u1b := cell_at B1.blk 1 _ rfl)
        go_ret
        exact ⟨rfl, hbw.trans (by23.mono hbw.size)⟩

end Nm
end Go.Proofs.YtlhmbbpkhahbeaaDoor
namespace Go.Proofs.YtlhmbbpkhahbeaaDoor
namespace Nm
open Go.ChangeShapes Go.WideShapes Go.ChangeAt Go.WideMaps Go.WideElems Go.RowKit

set_option maxRecDepth 100000 in
theorem numTells_lifted (os : Os) (started : os.Started) (H : Type) (enc : TypeId × Value → H) :
    ReturnsInHanded {} Tryd.checked os 14 .any (fun w args => (Rows.numTellsSpec.pre enc Tryd.prog Tryd.f14 [] false w args ∧ laidMetH Tryd.prog laidL w) ∧ sizedMet enc Tryd.prog Tryd.f14 (OpenSpec.ofChange Rows.numTellsSpec) false w args)
      (Rows.numTellsSpec.post enc Tryd.prog Tryd.f14 false true false false) := by
  refine returnsInHanded_of_change_and (C := Tryd.checked) (X := fun w _ => laidMetH Tryd.prog laidL w) (fun _ _ _ hh h => h.of_heap hh) own started (by kernel_rfl) Tryd.func14
    (ChangeSpec.witness_shaped (enc := enc) (C := Tryd.checked) (os := os) (X := fun w _ => laidMetH Tryd.prog laidL w) false (World.doorLaid Tryd.prog 14 os) #[.agg #[.bool false, .slice none 0 0], .agg #[.bool false, .slice none 0 0], .int .i64 0] 8 rfl (World.shaped_of_RefB (by kernel_rfl) (by kernel_rfl)) (by kernel_rfl) (by kernel_rfl) (by kernel_rfl) (door_met os _)) ?_
  intro W base args ds gs before hval0 hW _ hsz0 hL _
  have hval : ∀ (j : Nat) t v, Tryd.f14.params[j]? = some t → args[j]? = some v → Value.okWide Tryd.prog W .any base t v := hval0
  have hsz : (DataW.weightsEach Tryd.prog (Tryd.f14.params.toList ++ Rows.numTellsSpec.plain.varTypes Tryd.prog) (ds ++ gs)).all (· ≤ reachBytes) = true := hsz0
  have hW' := hW
  obtain ⟨p, q, hA0, hV, rfl, hfz, hnd⟩ := hW
  have hA : DataW.TrodAll enc Tryd.prog W 0 (fun _ => true) true Tryd.f14.params.toList args.toList ds p := hA0
  rw [Tryd.params14] at hA hval hsz
  obtain ⟨v0, v1, v2, d0, d1, d2, p0, p1, p2, rfl, rfl, rfl, h0, h1, h2⟩ := trodAll_three hA
  obtain ⟨rfl, rfl⟩ := trodVars_none hV
  have hw0 : ∀ n ∈ d0.weights Tryd.prog 24, n ≤ reachBytes := fun n hn => by simpa using List.all_eq_true.1 hsz n (DataW.weights_mem_each (j := 0) rfl rfl n hn)
  obtain ⟨n1, A1, c1, l1, rfl, r1, k1⟩ := open_intZ (hval 0 _ v0 rfl rfl) h0 hw0
  have hw1 : ∀ n ∈ d1.weights Tryd.prog 24, n ≤ reachBytes := fun n hn => by simpa using List.all_eq_true.1 hsz n (DataW.weights_mem_each (j := 1) rfl rfl n hn)
  obtain ⟨n2, A2, c2, l2, rfl, r2, k2⟩ := open_intZ (hval 1 _ v1 rfl rfl) h1 hw1
  obtain ⟨x3, rfl, rfl, rfl, wf3⟩ := open_int Tryd.underlying3 (hval 2 _ v2 rfl rfl) h2
  have bd3 : -9223372036854775808 ≤ x3 ∧ x3 < 9223372036854775808 := by have h := wf3; simp [Lit.wf, IntKind.min, IntKind.max, IntKind.signed, IntKind.bits] at h; omega
  have hd := dig_of_laid hL
  clear hA0 hval0
  try simp only [List.append_nil] at hW'
  have hlt : ∀ x ∈ p0 ++ p1, x.block < W.heap.size := fun x hx => hW'.lt x (by simpa using hx)
  refine (NumTells_calls n1 n2 A1 A2 c1 c2 l1 l2 x3 W r1 r2 k1 k2 bd3.1 bd3.2 hd).mono fun e W' ⟨he, hb⟩ => ?_
  subst he
  refine ⟨_, rfl, _, _, _, [], _, [], hW', trodAll_mk1 (shut_bool uBool true), trodAll_mk3 (Below.trod laidOut (by kernel_rfl) (of_decide_eq_true (by kernel_rfl)) h0 hb (fun x hx => hlt x (by simp [hx]))) (Below.trod laidOut (by kernel_rfl) (of_decide_eq_true (by kernel_rfl)) h1 hb (fun x hx => hlt x (by simp [hx]))) (shut_int Tryd.underlying3 wf3), rfl, hb.frame _, fun h => by cases h⟩

theorem numTells_holds : Rows.NumTellsSaid :=
  OpenClaim.holds_of_wide 14 Tryd.f14 rfl rfl rfl rfl rfl rfl rfl ⟨rfl, rfl, rfl, rfl, rfl⟩ rfl rfl rfl rfl rfl (by kernel_rfl) Tryd.func14 (by kernel_rfl)
    (of_decide_eq_true (by kernel_rfl)) (by unfold Func.isWrapper; first | (rw [if_pos (by decide +kernel)]; kernel_rfl) | (rw [if_neg (by decide +kernel)]; exact ⟨rfl, rfl⟩))
    (fun os started H enc _ => numTells_lifted os started H enc)

theorem numTells_card : Rows.NumTellsCardSaid :=
  Claim7.holds_tied_plain_at .later [] [.data] true (true, "81631b405a98d3f071c31393904156c9da5fef14bbd5c556ce9417642a36c1bb") true
    numTells_holds (fun _ h => by cases h) (by kernel_rfl) (fun _ h => by cases h) numTells_row_tie rfl ⟨rfl, rfl⟩ (by kernel_rfl) rfl
    (fun f fn hf hfn => by
      obtain rfl : f = 14 := Option.some.inj ((show Tryd.prog.funcNamed "zermelo/zermelolaw01.NumTells" = some 14 by kernel_rfl).symm.trans hf) |>.symm
      obtain rfl : fn = Tryd.f14 := (Option.some.inj (Tryd.func14.symm.trans hfn)).symm
      exact ⟨by kernel_rfl, fun j t ht => by
        have hp := Tryd.params14
        rw [hp] at ht
        have hall : (Tryd.f14.params.toList.all fun u => !Tryd.prog.wantsStandIn u) = true := by kernel_rfl
        rw [hp] at hall
        have hm := Array.mem_toList_iff.2 (Array.mem_of_getElem? ht)
        exact (show Tryd.prog.wantsStandIn t = false by simpa using List.all_eq_true.1 hall t hm)⟩)
    (by kernel_rfl)

end Nm
end Go.Proofs.YtlhmbbpkhahbeaaDoor
