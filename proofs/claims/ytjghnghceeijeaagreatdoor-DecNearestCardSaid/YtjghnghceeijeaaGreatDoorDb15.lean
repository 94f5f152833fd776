/-
  Contracts of the walks below.
-/
import Derived.Test.YtjghnghceeijeaaGreatDoorDb14
import Derived.Laws.CopyOwn
set_option maxRecDepth 100000
set_option maxHeartbeats 4000000
set_option linter.unusedVariables false
set_option linter.unusedSimpArgs false
namespace Go.Proofs.YtjghnghceeijeaaGreatDoor
namespace Nm
open Go.RowKit Go.Shelf Go.BigFrame
attribute [local go_sem] Oper.semAt_some
def rootTo (a n : Nat) : Nat → Nat
 | 0 => 0
 | k + 1 => if (k + 1) ^ n ≤ a then k + 1 else rootTo a n k
def rootN (a n : Nat) : Nat := rootTo a n a
def ceilN (a n : Nat) : Nat := if rootN a n ^ n < a then rootN a n + 1 else rootN a n
theorem rootTo_of {a n x : Nat} (hx : IsRoot a n x) : ∀ k, x ≤ k → rootTo a n k = x := by
 intro k
 induction k with
 | zero => intro h; simp [rootTo]; omega
 | succ k ih =>
  intro h
  unfold rootTo
  split
  · rename_i h1
    have := hx.2 _ h1
    omega
  · rename_i h1
    refine ih ?_
    rcases Nat.lt_or_ge k x with h2 | h2
    · obtain rfl : x = k + 1 := by omega
      exact absurd hx.1 h1
    · exact h2
theorem le_pow_self (x : Nat) {n : Nat} (hn : 1 ≤ n) : x ≤ x ^ n := by
 rcases Nat.eq_zero_or_pos x with h | h
 · rw [h]; exact Nat.zero_le _
 · have := Nat.pow_le_pow_right h hn
   rwa [Nat.pow_one] at this
theorem rootN_of {a n x : Nat} (hn : 1 ≤ n) (hx : IsRoot a n x) : rootN a n = x :=
 rootTo_of hx a (Nat.le_trans (le_pow_self x hn) hx.1)
def rootR (n1 : Bool) (l1 : List Nat) (n : Int) : Int × Int :=
 if okI n1 l1 = true then (if 1 ≤ n ∧ n ≤ 100 then (if (!n1 || (n % 2 == 1)) = true then (if n1 = true then -(ceilN (val l1) n.toNat : Int) else (rootN (val l1) n.toNat : Int), 0) else (0, 5)) else (0, 1)) else (0, 1)
theorem rootR_zero (n1 : Bool) (l1 : List Nat) (n : Int) : (rootR n1 l1 n).2 ≠ 0 → (rootR n1 l1 n).1 = 0 := by
 unfold rootR
 split
 · split
   · split <;> simp
   · simp
 · simp
theorem root1_bad (g1 g2 : Nat) (n1 : Bool) (n : Int) (A1 : Option Addr) (c1 : Nat) (l1 : List Nat) (w : World) (h1 : IntBox w g1 n1 A1 c1 l1) (h2 : Blk w g2 #[.int .i64 n] 3) (hbad : okI n1 l1 = false) :
 Calls Tryz.prog 156 #[.pointer (some ⟨g1, 0, none⟩), .pointer (some ⟨g2, 0, none⟩)] w fun e w' => e = .panicked (wrong 1) ∧ Below w.heap.size w w' := by
 obtain ⟨x0, x1⟩ := cL2 h1.blk
 have y0 := cell_at h2.h 0 _ rfl
 have t1 := (Array.getElem?_eq_some_iff.1 h1.blk).1
 have t2 := (Array.getElem?_eq_some_iff.1 h2.h).1
 have hb2 : ∀ a b, Below w.heap.size w ((w.alloc a).alloc b) := fun a b => ((Below.refl _ w).alloc (Nat.le_refl _) _).alloc (by simp) _
 have hf := fun a => formed_one (w.heap.size + 1) n1 A1 c1 l1 _ (two_blk w a (.cells #[.bool n1, .slice A1 l1.length c1] 24)) (h1.rd.on (hb2 _ _)) h1.cap
 go_enter Tryz.func156, Tryz.ntmps156
 go_wp2_with (go_at_call 146; refine (hf _).mono ?_; rintro e w' ⟨-, hp, hbl⟩; cases hp hbad)
 exact ⟨rfl, rfl, (hb2 _ _).trans (hbl.mono (hb2 _ _).size)⟩
theorem root1_range (g1 g2 : Nat) (n1 : Bool) (n : Int) (A1 : Option Addr) (c1 : Nat) (l1 : List Nat) (w : World) (h1 : IntBox w g1 n1 A1 c1 l1) (h2 : Blk w g2 #[.int .i64 n] 3) (hok : okI n1 l1 = true) (h0 : ¬ (1 ≤ n ∧ n ≤ 100)) :
 Calls Tryz.prog 156 #[.pointer (some ⟨g1, 0, none⟩), .pointer (some ⟨g2, 0, none⟩)] w fun e w' => e = .panicked (wrong 1) ∧ Below w.heap.size w w' := by
 obtain ⟨x0, x1⟩ := cL2 h1.blk
 have y0 := cell_at h2.h 0 _ rfl
 have t1 := (Array.getElem?_eq_some_iff.1 h1.blk).1
 have t2 := (Array.getElem?_eq_some_iff.1 h2.h).1
 have hb2 : ∀ a b, Below w.heap.size w ((w.alloc a).alloc b) := fun a b => ((Below.refl _ w).alloc (Nat.le_refl _) _).alloc (by simp) _
 have hf := fun a => formed_one (w.heap.size + 1) n1 A1 c1 l1 _ (two_blk w a (.cells #[.bool n1, .slice A1 l1.length c1] 24)) (h1.rd.on (hb2 _ _)) h1.cap
 by_cases hn : 1 ≤ n
 · have hn2 : decide (n ≤ 100) = false := decide_eq_false fun h => h0 ⟨hn, h⟩
   clear h0
   go_enter Tryz.func156, Tryz.ntmps156
   go_wp2_with first
    | (go_at_call 146; refine (hf _).mono ?_; rintro e w' ⟨hp, -, hbl⟩; cases hp hok; have hb3 := (hb2 _ _).trans (hbl.mono (hb2 _ _).size); obtain ⟨p0, p1⟩ := cL2 (h1.on hb3).blk; have p2 := cell_at (h2.on hb3).h 0 _ rfl)
    | (go_at_call 152; refine (must_no 1 _).mono ?_; rintro e w5 ⟨rfl, rfl⟩)
   exact ⟨rfl, rfl, hb3⟩
 · clear h0
   go_enter Tryz.func156, Tryz.ntmps156
   go_wp2_with first
    | (go_at_call 146; refine (hf _).mono ?_; rintro e w' ⟨hp, -, hbl⟩; cases hp hok; have hb3 := (hb2 _ _).trans (hbl.mono (hb2 _ _).size); obtain ⟨p0, p1⟩ := cL2 (h1.on hb3).blk; have p2 := cell_at (h2.on hb3).h 0 _ rfl)
    | (go_at_call 152; refine (must_no 1 _).mono ?_; rintro e w5 ⟨rfl, rfl⟩)
   exact ⟨rfl, rfl, hb3⟩
theorem root1_none (g1 g2 : Nat) (m : Nat) (A1 : Option Addr) (c1 : Nat) (l1 : List Nat) (w : World) (h1 : IntBox w g1 true A1 c1 l1) (h2 : Blk w g2 #[.int .i64 (m : Int)] 3) (hok : okI true l1 = true) (hm1 : 1 ≤ m) (hm2 : m ≤ 100) (hpar : ((m : Int) % 2 == 1) = false) :
 Calls Tryz.prog 156 #[.pointer (some ⟨g1, 0, none⟩), .pointer (some ⟨g2, 0, none⟩)] w fun e w' => e = .panicked (wrong 5) ∧ Below w.heap.size w w' := by
 obtain ⟨x0, x1⟩ := cL2 h1.blk
 have y0 := cell_at h2.h 0 _ rfl
 have t1 := (Array.getElem?_eq_some_iff.1 h1.blk).1
 have t2 := (Array.getElem?_eq_some_iff.1 h2.h).1
 have hb2 : ∀ a b, Below w.heap.size w ((w.alloc a).alloc b) := fun a b => ((Below.refl _ w).alloc (Nat.le_refl _) _).alloc (by simp) _
 have hf := fun a => formed_one (w.heap.size + 1) true A1 c1 l1 _ (two_blk w a (.cells #[.bool true, .slice A1 l1.length c1] 24)) (h1.rd.on (hb2 _ _)) h1.cap
 have hd1 : decide ((1 : Int) ≤ (m : Int)) = true := decide_eq_true (by omega)
 have hd2 : decide (1 ≤ m) = true := decide_eq_true (by omega)
 have hd3 : decide ((m : Int) ≤ 100) = true := decide_eq_true (by omega)
 have hd4 : decide (m ≤ 100) = true := decide_eq_true (by omega)
 go_enter Tryz.func156, Tryz.ntmps156
 go_wp2_with first
  | (go_at_call 146; refine (hf _).mono ?_; rintro e w' ⟨hp, -, hbl⟩; cases hp hok; have hb3 := (hb2 _ _).trans (hbl.mono (hb2 _ _).size); obtain ⟨p0, p1⟩ := cL2 (h1.on hb3).blk; have p2 := cell_at (h2.on hb3).h 0 _ rfl)
  | (go_at_call 152; have hmark := m5; refine (must_no 5 _).mono ?_; rintro e w5 ⟨rfl, rfl⟩)
  | (go_at_call 152; refine (must_ok 1 _).mono ?_; rintro e w4 ⟨rfl, rfl⟩; have m5 : True := trivial)
 exact ⟨rfl, rfl, hb3⟩
theorem root1_pos (g1 g2 : Nat) (m : Nat) (A1 : Option Addr) (c1 : Nat) (l1 : List Nat) (w : World) (h1 : IntBox w g1 false A1 c1 l1) (h2 : Blk w g2 #[.int .i64 (m : Int)] 3) (k1 : IsInt false l1) (hok : okI false l1 = true) (hm1 : 1 ≤ m) (hm2 : m ≤ 100) :
 Calls Tryz.prog 156 #[.pointer (some ⟨g1, 0, none⟩), .pointer (some ⟨g2, 0, none⟩)] w (RetZ (rootN (val l1) m : Int) w) := by
 obtain ⟨x0, x1⟩ := cL2 h1.blk
 have y0 := cell_at h2.h 0 _ rfl
 have t1 := (Array.getElem?_eq_some_iff.1 h1.blk).1
 have t2 := (Array.getElem?_eq_some_iff.1 h2.h).1
 have hb2 : ∀ a b, Below w.heap.size w ((w.alloc a).alloc b) := fun a b => ((Below.refl _ w).alloc (Nat.le_refl _) _).alloc (by simp) _
 have hf := fun a => formed_one (w.heap.size + 1) false A1 c1 l1 _ (two_blk w a (.cells #[.bool false, .slice A1 l1.length c1] 24)) (h1.rd.on (hb2 _ _)) h1.cap
 have hd1 : decide ((1 : Int) ≤ (m : Int)) = true := decide_eq_true (by omega)
 have hd2 : decide (1 ≤ m) = true := decide_eq_true (by omega)
 have hd3 : decide ((m : Int) ≤ 100) = true := decide_eq_true (by omega)
 have hd4 : decide (m ≤ 100) = true := decide_eq_true (by omega)
 have hro := fun W (hW : Below w.heap.size w W) => root_calls A1 c1 (val l1) m W (by rw [lim_val k1.canon]; exact h1.rd.on hW) (by rw [lim_val k1.canon]; exact h1.cap) (by rw [lim_val k1.canon]; exact k1.small) hm1 hm2
 rw [lim_val k1.canon] at hro
 have hsm : (lim (val l1)).length ≤ 300 := by rw [lim_val k1.canon]; exact k1.small
 have hqx := two_old w (.cells #[.bool false, .slice none 0 0] 24) (.cells #[.bool false, .slice A1 l1.length c1] 24) rfl
 go_enter Tryz.func156, Tryz.ntmps156
 go_wp2_with first
  | (go_at_call 146; refine (hf _).mono ?_; rintro e w' ⟨hp, -, hbl⟩; cases hp hok; have hb3 := (hb2 _ _).trans (hbl.mono (hb2 _ _).size); obtain ⟨p0, p1⟩ := cL2 (h1.on hb3).blk; have p2 := cell_at (h2.on hb3).h 0 _ rfl)
  | (go_at_call 152; have hmark := m5; refine (must_ok 5 _).mono ?_; rintro e w5 ⟨rfl, rfl⟩)
  | (go_at_call 152; refine (must_ok 1 _).mono ?_; rintro e w4 ⟨rfl, rfl⟩; have m5 : True := trivial)
  | (go_at_call 157; refine (hro _ hb3).mono ?_; rintro e w6 ⟨x, hx, A6, c6, rfl, n6, r6, b6⟩; have hx6 : (lim x).length ≤ 300 := Nat.le_trans (length_mono (Nat.le_trans (le_pow_self x hm1) hx.1)) hsm; have hb6 := hb3.trans (b6.mono hb3.size); obtain ⟨i0, i1⟩ := cL2 (h1.on hb6).blk; have i2 := cell_at (h2.on hb6).h 0 _ rfl)
  | (go_at_call 147; refine (whole_z false x hx6 A6 c6 _ r6 n6).mono ?_; rintro e w7 ⟨s7, A7, c7, l7, rfl, z7, n7, r7, b7⟩; have hb7 := hb6.trans (b7.mono hb6.size); have hq7 := ((hqx.on hbl).on b6).on b7; obtain ⟨z0, z1⟩ := cL2 hq7.h; obtain ⟨u0, u1⟩ := fZ2 hq7.h)
 exact ret_cell rfl rfl rfl (set_blk (set_blk hq7.h 0 _) 1 _) ⟨s7, A7, c7, l7, rfl, z7.cast (by rw [rootN_of hm1 hx]; rfl), n7, rd_sets r7 hq7 _ _, (hb7.setCell (Nat.le_refl _) _).setCell (Nat.le_refl _) _⟩
theorem root1_neg (g1 g2 : Nat) (m : Nat) (A1 : Option Addr) (c1 : Nat) (l1 : List Nat) (w : World) (h1 : IntBox w g1 true A1 c1 l1) (h2 : Blk w g2 #[.int .i64 (m : Int)] 3) (k1 : IsInt true l1) (hok : okI true l1 = true) (hm1 : 1 ≤ m) (hm2 : m ≤ 100) (hpar : ((m : Int) % 2 == 1) = true) :
 Calls Tryz.prog 156 #[.pointer (some ⟨g1, 0, none⟩), .pointer (some ⟨g2, 0, none⟩)] w (RetZ (-(ceilN (val l1) m : Int)) w) := by
 obtain ⟨x0, x1⟩ := cL2 h1.blk
 have y0 := cell_at h2.h 0 _ rfl
 have t1 := (Array.getElem?_eq_some_iff.1 h1.blk).1
 have t2 := (Array.getElem?_eq_some_iff.1 h2.h).1
 have hb2 : ∀ a b, Below w.heap.size w ((w.alloc a).alloc b) := fun a b => ((Below.refl _ w).alloc (Nat.le_refl _) _).alloc (by simp) _
 have hf := fun a => formed_one (w.heap.size + 1) true A1 c1 l1 _ (two_blk w a (.cells #[.bool true, .slice A1 l1.length c1] 24)) (h1.rd.on (hb2 _ _)) h1.cap
 have hd1 : decide ((1 : Int) ≤ (m : Int)) = true := decide_eq_true (by omega)
 have hd2 : decide (1 ≤ m) = true := decide_eq_true (by omega)
 have hd3 : decide ((m : Int) ≤ 100) = true := decide_eq_true (by omega)
 have hd4 : decide (m ≤ 100) = true := decide_eq_true (by omega)
 have hro := fun W (hW : Below w.heap.size w W) => root_calls A1 c1 (val l1) m W (by rw [lim_val k1.canon]; exact h1.rd.on hW) (by rw [lim_val k1.canon]; exact h1.cap) (by rw [lim_val k1.canon]; exact k1.small) hm1 hm2
 rw [lim_val k1.canon] at hro
 have hsm : (lim (val l1)).length ≤ 300 := by rw [lim_val k1.canon]; exact k1.small
 have hqx := two_old w (.cells #[.bool false, .slice none 0 0] 24) (.cells #[.bool true, .slice A1 l1.length c1] 24) rfl
 go_enter Tryz.func156, Tryz.ntmps156
 go_wp2_with first
  | (go_at_call 146; refine (hf _).mono ?_; rintro e w' ⟨hp, -, hbl⟩; cases hp hok; have hb3 := (hb2 _ _).trans (hbl.mono (hb2 _ _).size); obtain ⟨p0, p1⟩ := cL2 (h1.on hb3).blk; have p2 := cell_at (h2.on hb3).h 0 _ rfl)
  | (go_at_call 152; have hmark := m5; refine (must_ok 5 _).mono ?_; rintro e w5 ⟨rfl, rfl⟩)
  | (go_at_call 152; refine (must_ok 1 _).mono ?_; rintro e w4 ⟨rfl, rfl⟩; have m5 : True := trivial)
  | (go_at_call 157; refine (hro _ hb3).mono ?_; rintro e w6 ⟨x, hx, A6, c6, rfl, n6, r6, b6⟩; have hb6 := hb3.trans (b6.mono hb3.size); obtain ⟨i0, i1⟩ := cL2 (h1.on hb6).blk; have i2 := cell_at (h2.on hb6).h 0 _ rfl; have w6a : ∀ o, (w6.alloc o).cell? ⟨g2, 0, none⟩ = some (.int .i64 (m : Int)) := (fun o => cell_at ((h2.on hb6).on ((Below.refl _ w6).alloc (Nat.le_refl _) o)).h 0 _ rfl))
 have hpl : ∀ i, i ≤ m → (lim (x ^ i)).length ≤ 300 := fun i hi => by
  rcases Nat.eq_zero_or_pos x with h | h
  · rw [h]
    rcases Nat.eq_zero_or_pos i with h' | h'
    · rw [h', Nat.pow_zero, one_word (by decide) (by decide)]; simp
    · rw [Nat.zero_pow h', lim_zero]; simp
  · exact Nat.le_trans (length_mono (Nat.le_trans (Nat.pow_le_pow_right h hi) hx.1)) hsm
 have hx6 : (lim x).length ≤ 300 := Nat.le_trans (length_mono (Nat.le_trans (le_pow_self x hm1) hx.1)) hsm
 have Hpl := Lib.hid hpl
 have hq6 := (hqx.on hbl).on b6
 have hW6 : ∀ o, Below w6.heap.size w6 (w6.alloc o) := fun o => (Below.refl _ _).alloc (Nat.le_refl _) _
 have hmul : ∀ W p A' d', Below w6.heap.size w6 W → Rd W A' (lim p) → (lim p).length ≤ d' → (lim p).length ≤ 300 → Calls Tryz.prog 158 #[.slice A' (lim p).length d', .slice A6 (lim x).length c6] W (RetNat (p * x) W) := by
  intro W p A' d' hW h1 h2 h3
  have := mul_calls A' A6 d' c6 (lim p) (lim x) W h1 (r6.on hW) h2 n6 (canon_lim _) (canon_lim _) (by omega)
  rwa [val_lim, val_lim] at this
 clear hpl hro hf x0 x1 y0 p0 p1 p2
 go_loopw [4, 32] (fun p i W => ∃ (k : Nat) (A' : Option Addr) (d' : Nat), i = .int .i64 (k : Int) ∧ k ≤ m ∧ p = .slice A' (lim (x ^ k)).length d' ∧ (lim (x ^ k)).length ≤ d' ∧ Rd W A' (lim (x ^ k)) ∧ Below w6.heap.size w6 W) (fun _ i _ => m - (intOf i).toNat)
 case atStart =>
  refine ⟨0, some ⟨w6.heap.size, 0, none⟩, 1, rfl, Nat.zero_le _, ?_, ?_, ?_, hW6 _⟩
  · rw [Nat.pow_zero, one_word (by decide) (by decide)]; rfl
  · rw [Nat.pow_zero, one_word (by decide) (by decide)]; simp
  · rw [Nat.pow_zero]; exact rd_word w6 (n := 1) (by decide) (by decide)
 case round =>
  obtain ⟨k, A', d', rfl, hk, rfl, hd', hr', hbl'⟩ := hrel
  obtain ⟨e0, e1⟩ := cL2 (h1.on (hb6.trans (hbl'.mono hb6.size))).blk
  by_cases hkm : k < m
  · have hm2' := hmul wr (x ^ k) A' d' hbl' hr' hd' (Hpl.out k (by omega))
    rw [← Nat.pow_succ] at hm2'
    obtain ⟨pk, hpk⟩ : ∃ q, x ^ k = q := ⟨_, rfl⟩
    obtain ⟨pk1, hpk1⟩ : ∃ q, x ^ (k + 1) = q := ⟨_, rfl⟩
    rw [hpk] at hm2' ⊢
    rw [hpk1] at hm2'
    have Hpk1 := Lib.hid hpk1
    clear hpk hpk1 hmul
    go_wp2_with (go_at_call 158; refine hm2'.mono ?_; rintro e w5 ⟨B2, d2, rfl, n2, r2, x2⟩)
    refine ⟨⟨k + 1, B2, d2, by simp, by omega, by rw [Hpk1.out], by rw [Hpk1.out]; exact n2, by rw [Hpk1.out]; exact r2, hbl'.trans (x2.mono hbl'.size)⟩, by simp only [intOf]; omega⟩
  · obtain rfl : k = m := by omega
    have hbw := hb6.trans (hbl'.mono hb6.size)
    have hcp := compare_calls A' A1 d' c1 (lim (x ^ k)) l1 wr hr' (h1.rd.on hbw) hd' h1.cap (canon_lim _) k1.canon
    rw [val_lim] at hcp
    have hxk := hx.1
    have hrn := rootN_of hm1 hx
    have hq8 := hq6.on hbl'
    have r6' := r6.on hbl'
    obtain ⟨pk, hpk⟩ : ∃ q, x ^ k = q := ⟨_, rfl⟩
    rw [hpk] at hcp hr' hd' hxk ⊢
    clear hmul hkm
    by_cases hlt : pk < val l1
    · rw [show cmpZ (pk : Int) (val l1 : Int) = -1 from if_pos (by omega)] at hcp
      obtain ⟨x1, hx1⟩ : ∃ x1, x + 1 = x1 := ⟨_, rfl⟩
      have hx1l : (lim x1).length ≤ 300 := Nat.le_trans (length_mono (show x1 ≤ val l1 by have := le_pow_self x hm1; rw [hpk] at this; omega)) hsm
      have hcl : -((ceilN (val l1) k : Nat) : Int) = -(x1 : Int) := by unfold ceilN; rw [hrn, if_pos (by rw [hpk]; exact hlt), hx1]
      have Hcl := Lib.hid hcl
      have Hx1 := Lib.hid hx1
      clear hcl hx1 hpk hlt hrn hx hxk
      go_wp2_with first
       | (go_at_call 159; refine hcp.mono ?_; rintro e w7 ⟨rfl, nn, rfl⟩)
       | (go_at_call 160; refine (add_one A6 c6 x x1 _ _ Hx1.out (r6'.on ((below_drewN (Below.refl _ wr) nn).alloc (Nat.le_refl _) _)) n6 (by omega) (rd_one _)).mono ?_; rintro e w8 ⟨A8, c8, rfl, n8, r8, b8⟩; have b78 := ((below_drewN (Below.refl _ wr) nn).alloc (Nat.le_refl _) (.cells #[.int .u32 1] 127)).trans (b8.mono (by simp)); have hb8 := hbw.trans (b78.mono hbw.size); have f0 := cell_at (h1.on hb8).blk 0 _ rfl; have hq9 := hq8.on b78)
       | (go_at_call 147; refine (whole_z true x1 hx1l A8 c8 _ r8 n8).mono ?_; rintro e w9 ⟨s7, A7, c7, l7, rfl, z7, n7, r7, b7⟩; have hb9 := hb8.trans (b7.mono hb8.size); have hq7 := hq9.on b7; obtain ⟨z0, z1⟩ := cL2 hq7.h; obtain ⟨u0, u1⟩ := fZ2 hq7.h)
      exact ret_cell rfl rfl rfl (set_blk (set_blk hq7.h 0 _) 1 _) ⟨s7, A7, c7, l7, rfl, z7.cast (by rw [Hcl.out]; simp), n7, rd_sets r7 hq7 _ _, (hb9.setCell (Nat.le_refl _) _).setCell (Nat.le_refl _) _⟩
    · rw [show cmpZ (pk : Int) (val l1 : Int) = 0 from by unfold cmpZ; rw [if_neg (by omega), if_neg (by omega)]] at hcp
      have hcl : -((ceilN (val l1) k : Nat) : Int) = -(x : Int) := by unfold ceilN; rw [hrn, if_neg (by rw [hpk]; exact hlt)]
      have Hcl := Lib.hid hcl
      clear hcl hpk hlt hrn hx hxk
      go_wp2_with first
       | (go_at_call 159; refine hcp.mono ?_; rintro e w7 ⟨rfl, nn, rfl⟩)
       | (go_at_call 147; refine (whole_z true x hx6 A6 c6 _ (r6'.on (below_drewN (Below.refl _ wr) nn)) n6).mono ?_; rintro e w9 ⟨s7, A7, c7, l7, rfl, z7, n7, r7, b7⟩; have b79 := (below_drewN (Below.refl _ wr) nn).trans b7; have hb9 := hbw.trans (b79.mono hbw.size); have hq7 := hq8.on b79; obtain ⟨z0, z1⟩ := cL2 hq7.h; obtain ⟨u0, u1⟩ := fZ2 hq7.h)
      exact ret_cell rfl rfl rfl (set_blk (set_blk hq7.h 0 _) 1 _) ⟨s7, A7, c7, l7, rfl, z7.cast (by rw [Hcl.out]; simp), n7, rd_sets r7 hq7 _ _, (hb9.setCell (Nat.le_refl _) _).setCell (Nat.le_refl _) _⟩
theorem root1_calls (g1 g2 : Nat) (n1 : Bool) (n : Int) (A1 : Option Addr) (c1 : Nat) (l1 : List Nat) (w : World) (h1 : IntBox w g1 n1 A1 c1 l1) (h2 : Blk w g2 #[.int .i64 n] 3) :
 Calls Tryz.prog 156 #[.pointer (some ⟨g1, 0, none⟩), .pointer (some ⟨g2, 0, none⟩)] w (PostZE (rootR n1 l1 n).1 (rootR n1 l1 n).2 w) := by
 unfold rootR
 by_cases hok : okI n1 l1 = true
 · rw [if_pos hok]
   have k1 := okI_isInt h1.rd.words hok
   by_cases hn : 1 ≤ n ∧ n ≤ 100
   · rw [if_pos hn]
     obtain ⟨m, rfl⟩ : ∃ m : Nat, n = (m : Int) := ⟨n.toNat, by omega⟩
     rw [Int.toNat_natCast]
     cases n1
     · rw [if_pos (by simp)]
       exact (root1_pos g1 g2 m A1 c1 l1 w h1 h2 k1 hok (by omega) (by omega)).mono fun e w' h => .ok h
     · by_cases hp : ((m : Int) % 2 == 1) = true
       · rw [if_pos (by rw [hp]; rfl)]
         exact (root1_neg g1 g2 m A1 c1 l1 w h1 h2 k1 hok (by omega) (by omega) hp).mono fun e w' h => .ok h
       · have hp' : ((m : Int) % 2 == 1) = false := by simpa using hp
         rw [if_neg (by rw [hp']; simp)]
         exact (root1_none g1 g2 m A1 c1 l1 w h1 h2 hok (by omega) (by omega) hp').mono fun e w' h => .no h (by decide)
   · rw [if_neg hn]
     exact (root1_range g1 g2 n1 n A1 c1 l1 w h1 h2 hok hn).mono fun e w' h => .no h (by decide)
 · rw [if_neg hok]
   exact (root1_bad g1 g2 n1 n A1 c1 l1 w h1 h2 (by simpa using hok)).mono fun e w' h => .no h (by decide)
theorem Root_calls (n1 : Bool) (n : Int) (A1 : Option Addr) (c1 : Nat) (l1 : List Nat) (w : World) (h1 : Rd w A1 l1) (hc1 : l1.length ≤ c1) :
 Calls Tryz.prog 88 #[iv n1 A1 l1.length c1, .int .i64 n] w (RetZE (rootR n1 l1 n).1 (rootR n1 l1 n).2 w) := by
 have hmf := mkf
 obtain ⟨W3, hW3, hb3, B1, B2, hR, hsz⟩ := boxesN w n1 n A1 c1 l1 h1 hc1 #[.bool false, .slice none 0 0] 24
 have hB4 : ∀ o o', Below W3.heap.size W3 ((W3.alloc o).alloc o') := fun o o' => ((Below.refl _ W3).alloc (Nat.le_refl _) _).alloc (by simp) _
 have ht := try_int 156 #[.pointer (some ⟨w.heap.size, 0, none⟩), .pointer (some ⟨w.heap.size + 1, 0, none⟩)] (enters_of Tryz.func156 (by kernel_rfl) rfl) W3 _ _ (root1_calls _ _ n1 n A1 c1 l1 _ (B1.on (hB4 _ _)) (B2.on (hB4 _ _))) (rootR_zero n1 l1 n)
 generalize (rootR n1 l1 n).1 = z at *
 generalize (rootR n1 l1 n).2 = er at *
 clear hsz
 go_enter Tryz.func88, Tryz.ntmps88
 go_wp2_with (go_at_call 144; refine ht.mono ?_; rintro e w' ⟨s, A, c, l, rfl, hz, hc, hr, hb⟩; have hq := hR.on hb; obtain ⟨z0, z1⟩ := cL2 hq.h; obtain ⟨u0, u1⟩ := fZ2 hq.h)
 exact ret_cell_tmp (x := .bool s) (y := .slice A l.length c) rfl rfl rfl (set_blk (set_blk hq.h 0 _) 1 _) ⟨s, A, c, l, rfl, hz, hc, rd_sets hr hq _ _, ((hb3.trans (hb.mono hb3.size)).setCell (by dsimp only; omega) _).setCell (by dsimp only; omega) _⟩
structure Euc (a b : Nat) (odd : Bool) (r0 r1 s0 s1 t0 t1 : Nat) : Prop where
 gcd : Nat.gcd r0 r1 = Nat.gcd a b
 e0 : (r0 : Int) = if odd then (t0 : Int) * b - s0 * a else (s0 : Int) * a - t0 * b
 e1 : (r1 : Int) = if odd then (s1 : Int) * a - t1 * b else (t1 : Int) * b - s1 * a
 hb : s1 * r0 + s0 * r1 = b
 ha : t1 * r0 + t0 * r1 = a
 ls0 : s0 ≤ max 1 b
 lt0 : t0 ≤ max 1 a
 ls1 : s1 ≤ max 1 b
 lt1 : t1 ≤ max 1 a
 lr0 : r0 ≤ max a b
 lr1 : r1 ≤ max a b
theorem Euc.start (a b : Nat) : Euc a b false a b 1 0 0 1 := by
 refine ⟨rfl, by simp, by simp, by simp, by simp, ?_, ?_, ?_, ?_, ?_, ?_⟩ <;> omega
structure GcdOf (a b : Int) (g x y : Int) : Prop where
 gcd : g = Int.gcd a b
 sum : a * x + b * y = g
 x : x.natAbs ≤ max 1 b.natAbs
 y : y.natAbs ≤ max 1 a.natAbs
def digV (m c : Nat) : Nat := if 65 ≤ c ∧ c ≤ 90 then c - 55 else if 97 ≤ c ∧ c ≤ 122 then c - 87 else if 48 ≤ c ∧ c ≤ 57 then c - 48 else m
theorem value_calls (c : Nat) (hc : c < 256) (w : World) :
 Calls Tryz.prog 192 #[.int .u8 (c : Int)] w fun e w' => e = .returned (.int .i64 (digV 36 c : Nat)) ∧ w = w' := by
 by_cases h1 : 65 ≤ c ∧ c ≤ 90
 · have hd : ((digV 36 c : Nat) : Int) = (c : Int) + 32 - 97 + 10 := by unfold digV; rw [if_pos h1]; omega
   rw [hd]
   obtain ⟨a1, a2⟩ := h1
   have a3 : (65 : Int) ≤ (c : Int) := by omega
   have a4 : (c : Int) ≤ 90 := by omega
   clear hd
   go_enter Tryz.func192, Tryz.ntmps192
   go_wp2
   go_ret
   exact ⟨rfl, rfl⟩
 · by_cases h2 : 97 ≤ c ∧ c ≤ 122
   · have hd : ((digV 36 c : Nat) : Int) = (c : Int) - 97 + 10 := by unfold digV; rw [if_neg h1, if_pos h2]; omega
     rw [hd]
     obtain ⟨a1, a2⟩ := h2
     have a3 : ¬ c ≤ 90 := by omega
     have a4 : 65 ≤ c := by omega
     have a5 : ¬ (c : Int) ≤ 90 := by omega
     clear hd h1
     go_enter Tryz.func192, Tryz.ntmps192
     go_wp2
     go_ret
     exact ⟨rfl, rfl⟩
   · by_cases h3 : 48 ≤ c ∧ c ≤ 57
     · have hd : ((digV 36 c : Nat) : Int) = (c : Int) - 48 := by unfold digV; rw [if_neg h1, if_neg h2, if_pos h3]; omega
       rw [hd]
       obtain ⟨a1, a2⟩ := h3
       have a3 : ¬ 65 ≤ c := by omega
       have a4 : ¬ 97 ≤ c := by omega
       clear hd h1 h2
       go_enter Tryz.func192, Tryz.ntmps192
       go_wp2
       go_ret
       exact ⟨rfl, rfl⟩
     · have hd : digV 36 c = 36 := by unfold digV; rw [if_neg h1, if_neg h2, if_neg h3]
       rw [hd]
       clear hd
       have k1 : (decide (65 ≤ c) && decide (c ≤ 90)) = false := by rw [← Bool.not_eq_true]; simpa using h1
       have k2 : (decide (97 ≤ c) && decide (c ≤ 122)) = false := by rw [← Bool.not_eq_true]; simpa using h2
       have k3 : (decide (48 ≤ c) && decide (c ≤ 57)) = false := by rw [← Bool.not_eq_true]; simpa using h3
       rcases (show c < 48 ∨ (58 ≤ c ∧ c < 65) ∨ (90 < c ∧ c < 97) ∨ 122 < c by omega) with h | ⟨h, h'⟩ | ⟨h, h'⟩ | h
       · have b1 : ¬ 65 ≤ c := by omega
         have b2 : ¬ 97 ≤ c := by omega
         have b3 : ¬ 48 ≤ c := by omega
         clear h1 h2 h3 k1 k2 k3 h
         go_enter Tryz.func192, Tryz.ntmps192
         go_wp2
         go_ret
         exact ⟨rfl, rfl⟩
       · have b1 : ¬ 65 ≤ c := by omega
         have b2 : ¬ 97 ≤ c := by omega
         have b3 : 48 ≤ c := by omega
         have b4 : ¬ c ≤ 57 := by omega
         clear h1 h2 h3 k1 k2 k3 h h'
         go_enter Tryz.func192, Tryz.ntmps192
         go_wp2
         go_ret
         exact ⟨rfl, rfl⟩
       · have b1 : 65 ≤ c := by omega
         have b2 : ¬ 97 ≤ c := by omega
         have b3 : 48 ≤ c := by omega
         have b4 : ¬ c ≤ 57 := by omega
         have b5 : ¬ c ≤ 90 := by omega
         clear h1 h2 h3 k1 k2 k3 h h'
         go_enter Tryz.func192, Tryz.ntmps192
         go_wp2
         go_ret
         exact ⟨rfl, rfl⟩
       · have b1 : 65 ≤ c := by omega
         have b2 : 97 ≤ c := by omega
         have b3 : 48 ≤ c := by omega
         have b4 : ¬ c ≤ 57 := by omega
         have b5 : ¬ c ≤ 90 := by omega
         have b6 : ¬ c ≤ 122 := by omega
         clear h1 h2 h3 k1 k2 k3 h
         go_enter Tryz.func192, Tryz.ntmps192
         go_wp2
         go_ret
         exact ⟨rfl, rfl⟩
def many : Nat → Nat
 | 2 => 31
 | 3 => 20
 | 4 => 15
 | 5 => 13
 | 6 => 12
 | 7 => 11
 | 8 => 10
 | 9 => 10
 | 10 => 9
 | 11 => 9
 | 12 => 8
 | 13 => 8
 | 14 => 8
 | 15 => 8
 | 16 => 7
 | 17 => 7
 | 18 => 7
 | 19 => 7
 | 20 => 7
 | 21 => 7
 | 22 => 7
 | 23 => 7
 | _ => 6
theorem many_lt : ∀ b, 2 ≤ b → b ≤ 36 → b ^ many b < 4294967296 ∧ 4294967296 ≤ b ^ (many b + 1) ∧ 1 ≤ many b ∧ many b ≤ 31 := by
 intro b h1 h2
 have : ∀ b : Fin 37, 2 ≤ b.val → b.val ^ many b.val < 4294967296 ∧ 4294967296 ≤ b.val ^ (many b.val + 1) ∧ 1 ≤ many b.val ∧ many b.val ≤ 31 := by decide
 exact this ⟨b, by omega⟩ h1
theorem chunk_calls (b : Nat) (h1 : 2 ≤ b) (h2 : b ≤ 36) (w : World) :
 Calls Tryz.prog 172 #[.int .i64 (b : Int)] w fun e w' => e = .returned (.tuple #[.int .i64 (many b : Nat), .int .u32 (b ^ many b : Nat)]) ∧ w = w' := by
 obtain ⟨m1, m2, m3, m4⟩ := many_lt b h1 h2
 generalize many b = M at *
 have M2 := Lib.hid m2
 have M1 := Lib.hid m1
 clear m1 m2
 go_enter Tryz.func172, Tryz.ntmps172
 go_wp2
 go_loop [4, 5] (fun m u => ∃ k : Nat, 1 ≤ k ∧ k ≤ M ∧ m = .int .i64 (k : Int) ∧ u = .int .i64 ((b ^ k : Nat) : Int)) (fun m _ => M - (intOf m).toNat)
 case atStart => exact ⟨1, Nat.le_refl _, m3, rfl, by rw [Nat.pow_one]⟩
 case round =>
  obtain ⟨k, hk1, hk, rfl, rfl⟩ := hrel
  have hmono := Nat.pow_le_pow_right (show 0 < b by omega) hk
  obtain ⟨p, hp⟩ : ∃ p, b ^ k = p := ⟨_, rfl⟩
  obtain ⟨q, hq⟩ : ∃ q, p * b = q := ⟨_, rfl⟩
  have hpq : b ^ (k + 1) = q := by rw [Nat.pow_succ, hp, hq]
  have hpb : (p : Int) * (b : Int) = (q : Int) := by rw [← hq]; simp
  have hpl : p < 4294967296 := by rw [← hp]; have := M1.out; omega
  have hql : q < 154618822656 := by
   rw [← hq]
   exact Nat.lt_of_le_of_lt (Nat.mul_le_mul (show p ≤ 4294967295 by omega) h2) (by decide)
  rw [hp]
  have Hpq := Lib.hid hpq
  have Hp := Lib.hid hp
  by_cases hkm : k < M
  · have hlt : q < 4294967296 := by rw [← hpq]; exact Nat.lt_of_le_of_lt (Nat.pow_le_pow_right (by omega) hkm) M1.out
    have hlti : (q : Int) < 4294967296 := by omega
    clear hp hq hpq hmono
    go_wp2
    go_round
    case rel => exact ⟨k + 1, by omega, by omega, rfl, by rw [Hpq.out]⟩
    case measure => simp only [intOf]; omega
  · obtain rfl : k = M := by omega
    have hlt : ¬ q < 4294967296 := by rw [← hpq]; have := M2.out; omega
    have hlti : ¬ (q : Int) < 4294967296 := by omega
    clear hp hq hpq hmono hkm hk
    go_wp2
    go_ret2
    exact ⟨by show Ending.returned (.tuple #[.int .i64 (k : Int), .int .u32 (p : Int)]) = _; rw [← Hp.out, Int.natCast_pow], rfl⟩
theorem parts_size : (Tryz.prog.info? 111).map (·.size) = some 4 := by kernel_rfl
theorem short_calls (A : Option Addr) (c b : Nat) (l : List Nat) (w : World) (h1 : Rd w A l) (_hc1 : l.length ≤ c) (hb0 : 0 < b) (hb : b < 4294967296) (hsm : l.length ≤ 1048576) :
 Calls Tryz.prog 182 #[.slice A l.length c, .int .u32 (b : Int)] w (RetQR ((val l / b : Nat) : Int) ((val l % b : Nat) : Int) w) := by
 have hs1 := h1.small
 obtain ⟨W1, hW1⟩ : ∃ W1, w.alloc (.cells #[.bool false, .slice none 0 0, .bool false, .slice none 0 0] 111) = W1 := ⟨_, rfl⟩
 have hb1 : Below w.heap.size w W1 := by rw [← hW1]; exact (Below.refl _ w).alloc (Nat.le_refl _) _
 have hR : Blk W1 w.heap.size #[.bool false, .slice none 0 0, .bool false, .slice none 0 0] 111 := ⟨by rw [← hW1]; exact World.alloc_heap_new w _⟩
 have hmk := make_u32 (l.length : Int) (l.length : Int) l.length l.length rfl rfl (by omega) (by omega) W1
 obtain ⟨g, hg⟩ : ∃ g, W1.heap.size = g := ⟨_, rfl⟩
 have hgs : g = w.heap.size + 1 := by rw [← hg, ← hW1]; simp
 have Hgs := Lib.hid hgs
 have Hg := Lib.hid hg
 have r1 := h1.on hb1
 obtain ⟨Q, hQ⟩ : ∃ Q, val l / b = Q := ⟨_, rfl⟩
 obtain ⟨R, hRr⟩ : ∃ R, val l % b = R := ⟨_, rfl⟩
 have HQ := Lib.hid hQ
 have HR := Lib.hid hRr
 rw [hQ, hRr]
 clear hgs hQ hRr
 have hb4 : Below W1.heap.size W1 (W1.alloc (.cells (warr (List.replicate l.length 0)) 127)) := (Below.refl _ _).alloc (Nat.le_refl _) _
 have har : Arr (W1.alloc (.cells (warr (List.replicate l.length 0)) 127)) g (List.replicate l.length 0) := by rw [← hg]; exact arr_new _ _
 go_enter Tryz.func182, Tryz.ntmps182
 go_wp2_with fail
 clear hW1 hmk hg
 generalize (W1.alloc (.cells (warr (List.replicate l.length 0)) 127)) = W2 at *
 go_loopw [6, 7] (fun r i W => ∃ (k rest : Nat) (qs : List Nat), k ≤ l.length ∧ rest < b ∧ r = .int .u64 (rest : Int) ∧ i = .int .i64 ((k : Int) - 1) ∧ Hid (qs.length + k = l.length) ∧ Words qs ∧ Arr W g (List.replicate k 0 ++ qs) ∧ Below W1.heap.size W1 W ∧ Hid (val (l.drop k) = b * val qs + rest)) (fun _ i _ => (intOf i + 1).toNat)
 case atStart => exact ⟨l.length, 0, [], Nat.le_refl _, hb0, rfl, rfl, Nat.zero_add _, words_nil, by rw [List.append_nil]; exact har, hb4, by simp [Hid, val]⟩
 case round =>
  clear har hb4
  obtain ⟨k, rest, qs, hk, hrb, rfl, rfl, hql, hqw, harr, hbl, hval⟩ := hrel
  by_cases h0 : 0 < k
  · obtain ⟨k, rfl⟩ : ∃ j, k = j + 1 := ⟨k - 1, by omega⟩
    obtain ⟨bb, o, x, rfl, hcx, hx, hxb⟩ := r1.get k (by omega)
    have hbb := World.block_lt_of_cell? W1 _ hcx
    replace hcx := (hbl.cell (p := ⟨bb, o + k, none⟩) hbb).trans hcx
    obtain ⟨u, g4⟩ : ∃ u : Nat, wr.cell? ⟨g, k, none⟩ = some (.int .u32 (u : Int)) := ⟨_, arr_cell harr k (by simp; omega)⟩
    have f4 := arr_frozen harr k
    rw [show ((k + 1 : Nat) : Int) - 1 = (k : Int) by omega]
    clear h0
    obtain ⟨p, hp, hp2⟩ : ∃ p : Nat, (rest : Int) * 4294967296 = (p : Int) ∧ Hid (p = rest * 4294967296) := ⟨rest * 4294967296, by omega, rfl⟩
    have hpl : p < 18446744069414584321 := by have := hp2.out; omega
    obtain ⟨t, t1, t2, t3⟩ : ∃ t : Nat, (p : Int) + (x : Int) = (t : Int) ∧ Hid (t = rest * BB + x) ∧ t < 18446744073709551616 := ⟨p + x, by omega, by rw [hp2.out]; rfl, by omega⟩
    obtain ⟨z, z1, z2, z3⟩ : ∃ z : Nat, (t : Int) / (b : Int) = (z : Int) ∧ Hid (z = (rest * BB + x) / b) ∧ z < 4294967296 := ⟨t / b, by simp, by rw [← t2.out]; rfl, by rw [t2.out]; exact small_bound hrb hxb⟩
    obtain ⟨r, rr1, r2, r3⟩ : ∃ r : Nat, (t : Int) % (b : Int) = (r : Int) ∧ Hid (r = (rest * BB + x) % b) ∧ r < b := ⟨t % b, by simp, by rw [← t2.out]; rfl, Nat.mod_lt _ hb0⟩
    go_wp2_with fail
    rw [rr1]
    refine ⟨⟨k, r, z :: qs, by omega, r3, rfl, rfl, by have := hql.out; show (z :: qs).length + k = l.length; simp; omega, words_cons.2 ⟨z3, hqw⟩, ?_, hbl.setCell (by have := Hg.out; dsimp only; omega) _, small_step (by omega) hx.out hval.out z2.out r2.out⟩, by simp [intOf]⟩
    rw [← set_front]
    exact arr_set harr k z
  · obtain rfl : k = 0 := by omega
    have hlen : qs.length = l.length := by have := hql.out; omega
    have hrd := arr_rd (by simpa using harr : Arr wr g qs) hqw (by omega)
    have hv : val l = b * val qs + rest := by have := hval.out; rwa [List.drop_zero] at this
    have hq : val qs = Q := by rw [← HQ.out, hv, Nat.add_comm, Nat.add_mul_div_left _ _ hb0, Nat.div_eq_of_lt hrb, Nat.zero_add]
    have hr : rest = R := by rw [← HR.out, hv, Nat.mul_add_mod, Nat.mod_eq_of_lt hrb]
    have hm1 := made_calls false (some ⟨g, 0, none⟩) l.length qs wr hrd (by omega)
    rw [hq, hlen] at hm1
    simp only [Bool.false_eq_true, if_false] at hm1
    have hrest : rest < 4294967296 := by omega
    have hm2 : ∀ W ad, Rd W (some ad) [rest] → Calls Tryz.prog 118 #[.bool false, .slice (some ad) 1 1] W (RetZ (R : Int) W) := fun W ad h => by
     have := made_calls false (some ad) 1 [rest] W h (Nat.le_refl _)
     rwa [show val [rest] = R from by rw [← hr]; show rest + 4294967296 * 0 = rest; omega, if_neg (by decide)] at this
    have hwd : Words [rest] := words_cons.2 ⟨hrest, words_nil⟩
    clear hval hv hq hlen harr hr h0
    go_wp2_with first
     | (go_at_call 118; have hmark := mk1; refine (hm2 _ _ (arr_rd (arr_new w3 [rest]) hwd (by simp))).mono ?_; rintro e w5 ⟨s5, A5, c5, l5, rfl, z5, n5, f5, b5⟩; have b34 := ((Below.refl _ w3).alloc (Nat.le_refl _) (.cells (warr [rest]) 127)).trans (b5.mono (by simp)); have bb5 := (hbl.trans (b3.mono hbl.size)).trans (b34.mono (Nat.le_trans hbl.size b3.size)); have f3' := f3.on b34; have hq5 := hR.on bb5; obtain ⟨e0, e1, e2, e3⟩ := cL4 hq5.h; obtain ⟨u0, u1, u2, u3⟩ := fZ4 hq5.h)
     | (go_at_call 118; refine hm1.mono ?_; rintro e w3 ⟨s3, A3, c3, l3, rfl, z3, n3, f3, b3⟩; have mk1 : True := trivial)
    have nw1 := f3'.ne hq5.h (by intro i x h; rcases i with _ | _ | _ | _ | i <;> simp at h)
    have nw2 := f5.ne hq5.h (by intro i x h; rcases i with _ | _ | _ | _ | i <;> simp at h)
    have bw := hb1.trans (bb5.mono hb1.size)
    exact ret_cellS rfl Tryz.underlying111 parts_size rfl rfl (set4 hq5.h _ _ _ _) rfl ⟨s3, A3, c3, l3, s5, A5, c5, l5, rfl, z3, z5, n3, n5, (((f3'.setNe nw1).setNe nw1).setNe nw1).setNe nw1, (((f5.setNe nw2).setNe nw2).setNe nw2).setNe nw2, (((bw.setCell (Nat.le_refl _) _).setCell (Nat.le_refl _) _).setCell (Nat.le_refl _) _).setCell (Nat.le_refl _) _⟩
theorem val_div_pow {l : List Nat} (hw : Words l) : ∀ j, val l / BB ^ j = val (l.drop j) := by
 intro j
 induction j generalizing l with
 | zero => simp
 | succ j ih =>
  cases l with
  | nil => simp [val]
  | cons x t =>
   have hx := (words_cons.1 hw).1
   have ht := (words_cons.1 hw).2
   rw [List.drop_succ_cons, ← ih ht, Nat.pow_succ, Nat.mul_comm, ← Nat.div_div_eq_div_mul]
   congr 1
   show (x + BB * val t) / BB = val t
   rw [Nat.add_mul_div_left _ _ (by decide), Nat.div_eq_of_lt hx, Nat.zero_add]
theorem bit_of {l : List Nat} (hw : Words l) {at_ j i x : Nat} (hj : j = at_ / 32) (hi : i = at_ % 32) (hx : l.getD j 0 = x) (hjl : j < l.length) : val l / 2 ^ at_ % 2 = x / 2 ^ i % 2 := by
 have e : 2 ^ at_ = BB ^ j * 2 ^ i := by
  rw [show BB = 2 ^ 32 from rfl, ← Nat.pow_mul, ← Nat.pow_add]; congr 1; omega
 rw [e, ← Nat.div_div_eq_div_mul, val_div_pow hw]
 have hd : l.drop j = x :: l.drop (j + 1) := by
  rw [List.drop_eq_getElem_cons hjl]
  rw [List.getD_eq_getElem?_getD, List.getElem?_eq_getElem hjl] at hx
  rw [show l[j] = x by simpa using hx]
 rw [hd]
 show (x + BB * val (l.drop (j + 1))) / 2 ^ i % 2 = _
 have hi32 : i < 32 := by omega
 have e2 : BB = 2 ^ i * (2 * 2 ^ (31 - i)) := by
  rw [show BB = 2 ^ 32 from rfl, ← Nat.pow_succ', ← Nat.pow_add]; congr 1; omega
 rw [e2, Nat.mul_assoc, Nat.add_mul_div_left _ _ (Nat.two_pow_pos i), Nat.mul_assoc, Nat.add_mul_mod_self_left]
theorem bit_calls (A : Option Addr) (c at_ : Nat) (l : List Nat) (w : World) (h1 : Rd w A l) (_hc1 : l.length ≤ c) (hat : at_ < 32 * l.length) (hsm : l.length ≤ 1048576) :
 Calls Tryz.prog 216 #[.slice A l.length c, .int .i64 (at_ : Int)] w fun e w' => e = .returned (.int .u32 ((val l / 2 ^ at_ % 2 : Nat) : Int)) ∧ w' = w.drew := by
 obtain ⟨j, j1, j2, j3⟩ : ∃ j : Nat, (at_ : Int) / 32 = (j : Int) ∧ Hid (j = at_ / 32) ∧ j < l.length := ⟨at_ / 32, by omega, rfl, by omega⟩
 obtain ⟨i, i1, i2, i3⟩ : ∃ i : Nat, (at_ : Int) % 32 = (i : Int) ∧ Hid (i = at_ % 32) ∧ i < 32 := ⟨at_ % 32, by omega, rfl, by omega⟩
 have j4 : (at_ : Int).tdiv 32 = (j : Int) := by rw [Int.tdiv_eq_ediv_of_nonneg (by omega)]; exact j1
 have i4 : (at_ : Int).tmod 32 = (i : Int) := by rw [Int.tmod_eq_emod_of_nonneg (by omega)]; exact i1
 obtain ⟨b, o, x, rfl, hcx, hx, hxb⟩ := h1.get j j3
 have hp2 : 2 ^ i < 4294967296 := Nat.lt_of_lt_of_le (Nat.pow_lt_pow_right (by decide) i3) (by decide)
 have hp0 : 0 < 2 ^ i := Nat.two_pow_pos i
 obtain ⟨P, hP⟩ : ∃ P : Nat, 2 ^ i = P := ⟨_, rfl⟩
 have hPz : ((2 : Int) ^ i) = (P : Int) := by rw [← hP]; simp
 rw [hP] at hp2 hp0
 obtain ⟨p, p1, p2, p3, p4⟩ : ∃ p : Nat, (2 : Int) ^ i % 4294967296 = (p : Int) ∧ Hid (p = 2 ^ i) ∧ 0 < p ∧ p < 4294967296 := ⟨P, by rw [hPz]; omega, hP.symm, hp0, hp2⟩
 clear hP hPz hp0
 obtain ⟨q, q1, q2, q3⟩ : ∃ q : Nat, (x : Int) / (p : Int) = (q : Int) ∧ Hid (q = x / p) ∧ q ≤ x := ⟨x / p, by simp, rfl, Nat.div_le_self _ _⟩
 have q4 : (x : Int).tdiv (p : Int) = (q : Int) := by rw [Int.tdiv_eq_ediv_of_nonneg (by omega)]; exact q1
 obtain ⟨r, r1, r2, r3⟩ : ∃ r : Nat, (q : Int) % 2 = (r : Int) ∧ Hid (r = q % 2) ∧ r < 2 := ⟨q % 2, by omega, rfl, by omega⟩
 have r4 : (q : Int).tmod 2 = (r : Int) := by rw [Int.tmod_eq_emod_of_nonneg (by omega)]; exact r1
 have hpz : ¬ (p : Int) = 0 := by omega
 have hpb : ((p : Int) == 0) = false := by rw [beq_eq_false_iff_ne]; omega
 have hfin : val l / 2 ^ at_ % 2 = r := by rw [bit_of h1.words j2.out i2.out hx.out j3, r2.out, q2.out, p2.out]
 have Hfin := Lib.hid hfin
 clear hp2 hfin
 go_enter Tryz.func216, Tryz.ntmps216
 go_wp2
 go_region
 go_wp2
 go_ret
 exact ⟨by rw [Hfin.out]; rfl, rfl⟩
structure HoldsZ (W : World) (g : Nat) (s : Bool) (A : Option Addr) (c : Nat) (l : List Nat) (z : Int) : Prop where
 blk : Blk W g #[.bool s, .slice A l.length c] 24
 isz : IsZ s l z
 rd : Rd W A l
 cap : l.length ≤ c
theorem noword2 {v1 v2 : Value} (h1 : ∀ x : Int, v1 ≠ .int .u32 x) (h2 : ∀ x : Int, v2 ≠ .int .u32 x) : ∀ (i : Nat) (x : Int), (#[v1, v2] : Array Value)[i]? = some (.int .u32 x) → False := by
 intro i x h
 rcases i with _ | _ | i <;> simp at h
 · exact h1 _ h
 · exact h2 _ h
theorem holds_set {W : World} {g : Nat} {x y : Value} (hq : Blk W g #[x, y] 24) (h1 : ∀ z : Int, x ≠ .int .u32 z) (h2 : ∀ z : Int, y ≠ .int .u32 z) {s : Bool} {A : Option Addr} {c : Nat} {l : List Nat} {z : Int} (hz : IsZ s l z) (hr : Rd W A l) (hc : l.length ≤ c) :
 HoldsZ ((W.setCell ⟨g, 0, none⟩ (.bool s)).setCell ⟨g, 1, none⟩ (.slice A l.length c)) g s A c l z :=
 have hne := hr.ne hq.h (noword2 h1 h2)
 ⟨⟨set_blk (set_blk hq.h 0 _) 1 _⟩, hz, (hr.setNe hne).setNe hne, hc⟩
end Nm
end Go.Proofs.YtjghnghceeijeaaGreatDoor
namespace Go.Proofs.YtjghnghceeijeaaGreatDoor
namespace Nm
open Go.RowKit Go.Shelf Go.BigFrame
theorem val_set {l : List Nat} {j x p : Nat} (hj : j < l.length) (hx : l.getD j 0 = x) : val (l.set j (x + p)) = val l + BB ^ j * p := by
 induction l generalizing j with
 | nil => exact absurd hj (by simp)
 | cons y t ih =>
  cases j with
  | zero =>
   have hx' : y = x := by simpa using hx
   show (x + p) + BB * val t = y + BB * val t + BB ^ 0 * p
   rw [hx']; simp; omega
  | succ j =>
   have := ih (j := j) (by simpa using hj) (by simpa using hx)
   show y + BB * val (t.set j (x + p)) = y + BB * val t + BB ^ (j + 1) * p
   rw [this, Nat.mul_add, Nat.pow_succ, Nat.mul_comm (BB ^ j) BB, Nat.mul_assoc]; omega
theorem word_room {l : List Nat} (hw : Words l) {k j i x Y : Nat} (hj : j = k / 32) (hi : i = k % 32) (hjl : j < l.length) (hx : l.getD j 0 = x) (hv : val l = 2 ^ (k + 1) * Y) : x + 2 ^ i < 4294967296 := by
 have h1 : val l / BB ^ j = 2 ^ (i + 1) * Y := by
  rw [hv, show (2 : Nat) ^ (k + 1) = BB ^ j * 2 ^ (i + 1) from by rw [show BB = 2 ^ 32 from rfl, ← Nat.pow_mul, ← Nat.pow_add]; congr 1; omega, Nat.mul_assoc, Nat.mul_div_cancel_left _ (Nat.pow_pos (by decide))]
 rw [val_div_pow hw] at h1
 have hd : l.drop j = x :: l.drop (j + 1) := by
  rw [List.drop_eq_getElem_cons hjl]
  rw [List.getD_eq_getElem?_getD, List.getElem?_eq_getElem hjl] at hx
  rw [show l[j] = x by simpa using hx]
 rw [hd] at h1
 have h2 : x + 4294967296 * val (l.drop (j + 1)) = 2 ^ (i + 1) * Y := h1
 have hxw : x < 4294967296 := by rw [← hx]; exact words_getD hw j
 have hi32 : i < 32 := by omega
 have e2 : 4294967296 = 2 ^ (i + 1) * 2 ^ (31 - i) := by
  rw [← Nat.pow_add, show i + 1 + (31 - i) = 32 by omega]
 have hdv : 2 ^ (i + 1) ∣ x := by
  have a1 : 2 ^ (i + 1) ∣ x + 4294967296 * val (l.drop (j + 1)) := ⟨Y, h2⟩
  have a2 : 2 ^ (i + 1) ∣ 4294967296 * val (l.drop (j + 1)) := Nat.dvd_trans ⟨2 ^ (31 - i), e2⟩ (Nat.dvd_mul_right _ _)
  exact (Nat.dvd_add_left a2).1 a1
 obtain ⟨z, hz⟩ := hdv
 have hlt : z < 2 ^ (31 - i) := by
  rw [hz, e2] at hxw
  exact Nat.lt_of_mul_lt_mul_left hxw
 have hle : 2 ^ (i + 1) * (z + 1) ≤ 2 ^ (i + 1) * 2 ^ (31 - i) := Nat.mul_le_mul_left _ hlt
 rw [← e2, Nat.mul_add, ← hz, Nat.pow_succ] at hle
 have := Nat.two_pow_pos i
 omega
theorem split_step {a b k d ρ : Nat} (hb : 0 < b) (hd : a / 2 ^ k % 2 = d) (hr : a / 2 ^ (k + 1) % b = ρ) :
 (b ≤ ρ + ρ + d → a / 2 ^ k % b = ρ + ρ + d - b ∧ a / 2 ^ k / b = 2 * (a / 2 ^ (k + 1) / b) + 1) ∧
 (ρ + ρ + d < b → a / 2 ^ k % b = ρ + ρ + d ∧ a / 2 ^ k / b = 2 * (a / 2 ^ (k + 1) / b)) := by
 have e : a / 2 ^ (k + 1) = a / 2 ^ k / 2 := by rw [Nat.pow_succ, Nat.div_div_eq_div_mul]
 rw [e] at hr ⊢
 generalize a / 2 ^ k = X at *
 have h1 := Nat.div_add_mod X 2
 have h2 := Nat.div_add_mod (X / 2) b
 have h3 := Nat.mod_lt (X / 2) hb
 rw [hr] at h2 h3
 rw [hd] at h1
 obtain ⟨q, hq⟩ : ∃ q, X / 2 / b = q := ⟨_, rfl⟩
 rw [hq] at h2 ⊢
 have hd2 : d < 2 := by rw [← hd]; exact Nat.mod_lt _ (by decide)
 constructor
 · intro h
   have hX : X = (ρ + ρ + d - b) + b * (2 * q + 1) := by
    have : b * (2 * q + 1) = 2 * (b * q) + b := by rw [Nat.mul_add, Nat.mul_one, Nat.mul_left_comm]
    omega
   constructor
   · rw [hX, Nat.add_mul_mod_self_left, Nat.mod_eq_of_lt (by omega)]
   · rw [hX, Nat.add_mul_div_left _ _ hb, Nat.div_eq_of_lt (by omega), Nat.zero_add]
 · intro h
   have hX : X = (ρ + ρ + d) + b * (2 * q) := by
    have : b * (2 * q) = 2 * (b * q) := Nat.mul_left_comm _ _ _
    omega
   constructor
   · rw [hX, Nat.add_mul_mod_self_left, Nat.mod_eq_of_lt (by omega)]
   · rw [hX, Nat.add_mul_div_left _ _ hb, Nat.div_eq_of_lt (by omega), Nat.zero_add]
end Nm
end Go.Proofs.YtjghnghceeijeaaGreatDoor
