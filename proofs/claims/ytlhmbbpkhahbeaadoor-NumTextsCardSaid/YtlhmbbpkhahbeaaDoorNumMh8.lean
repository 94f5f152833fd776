/-
  Gcd: the closure.
  Gcd, exported.
  Root.
  The law's few; the contracts in whole numbers.
  The law's sane.
  The law NumDivides: the walk.
  From the rows' words to the walks: an integer that came in; the digits' table; the witness.
  The law's formed and got.
-/
import Derived.Test.YtlhmbbpkhahbeaaDoorNumMh7
import Derived.Laws.CopyOwn
import Derived.Test.YtlhmbbpkhahbeaaDoorRows
import Derived.ProofKit
import Derived.LaidMore
import Derived.OpenShut
import Derived.Stop.Joined
import Derived.Carry
import Derived.Lib.LaidTab
namespace Go.Proofs.YtlhmbbpkhahbeaaDoor
namespace Nm
open Go.RowKit Go.Shelf Go.BigFrame
attribute [local go_sem] Oper.semAt_some

/-- a step of Euclid: the numbers r0 = s0 a - t0 b (or the other way round) -/
structure Euc (a b : Nat) (odd : Bool) (r0 r1 s0 s1 t0 t1 : Nat) : Prop where
  gcd : Nat.gcd r0 r1 = Nat.gcd a b
  e0 : (r0 : Int) = if odd then (t0 : Int) * b - s0 * a else (s0 : Int) * a - t0 * b
  e1 : (r1 : Int) = if odd then (s1 : Int) * a - t1 * b else (t1 : Int) * b - s1 * a
  hb : s1 * r0 + s0 * r1 = b
  ha : t1 * r0 + t0 * r1 = a
  ls0 : s0 ≤ max 1 b
  lt0 : t0 ≤ max 1 a
  ls1 : s1 ≤ max 1 b
  lt1 : t1 ≤ max 1 a
  lr0 : r0 ≤ max a b
  lr1 : r1 ≤ max a b

theorem Euc.start (a b : Nat) : Euc a b false a b 1 0 0 1 := by
  refine ⟨rfl, by simp, by simp, by simp, by simp, ?_, ?_, ?_, ?_, ?_, ?_⟩ <;> omega

theorem Euc.next {a b : Nat} {odd : Bool} {r0 r1 s0 s1 t0 t1 : Nat} (h : Euc a b odd r0 r1 s0 s1 t0 t1) (hr : 0 < r1) : Euc a b (!odd) r1 (r0 % r1) s1 (s0 + r0 / r1 * s1) t1 (t0 + r0 / r1 * t1) := by
  have hd := Nat.div_add_mod r0 r1
  obtain ⟨q, hq⟩ : ∃ q, r0 / r1 = q := ⟨_, rfl⟩
  obtain ⟨r, hr2⟩ : ∃ r, r0 % r1 = r := ⟨_, rfl⟩
  have hlt : r < r1 := by rw [← hr2]; exact Nat.mod_lt _ hr
  rw [hq, hr2] at hd
  rw [hq, hr2]
  have hdz : (r1 : Int) * q + r = r0 := by exact_mod_cast hd
  have hb' : (s0 + q * s1) * r1 + s1 * r = b := by
    rw [← h.hb, ← hd, Nat.add_mul, Nat.mul_add]
    have : q * s1 * r1 = s1 * (r1 * q) := by rw [Nat.mul_comm q s1, Nat.mul_assoc, Nat.mul_comm q r1]
    omega
  have ha' : (t0 + q * t1) * r1 + t1 * r = a := by
    rw [← h.ha, ← hd, Nat.add_mul, Nat.mul_add]
    have : q * t1 * r1 = t1 * (r1 * q) := by rw [Nat.mul_comm q t1, Nat.mul_assoc, Nat.mul_comm q r1]
    omega
  have e0 := h.e0
  have e1 := h.e1
  refine ⟨?_, ?_, ?_, hb', ha', h.ls1, h.lt1, ?_, ?_, h.lr1, Nat.le_trans (Nat.le_of_lt hlt) h.lr1⟩
  · rw [← h.gcd, ← hr2, Nat.gcd_comm r1, ← Nat.gcd_rec, Nat.gcd_comm]
  · rw [e1]; cases odd <;> simp
  · have hr' : (r : Int) = r0 - r1 * q := by omega
    rw [hr', e0, e1]
    cases odd
    · simp only [Bool.false_eq_true, if_false, Bool.not_false, if_true, Int.natCast_add, Int.natCast_mul, Int.add_mul, Int.sub_mul]
      have a1 : (q : Int) * s1 * a = s1 * a * q := by rw [Int.mul_assoc, Int.mul_comm]
      have a2 : (q : Int) * t1 * b = t1 * b * q := by rw [Int.mul_assoc, Int.mul_comm]
      omega
    · simp only [Bool.false_eq_true, if_false, Bool.not_true, if_true, Int.natCast_add, Int.natCast_mul, Int.add_mul, Int.sub_mul]
      have a1 : (q : Int) * s1 * a = s1 * a * q := by rw [Int.mul_assoc, Int.mul_comm]
      have a2 : (q : Int) * t1 * b = t1 * b * q := by rw [Int.mul_assoc, Int.mul_comm]
      omega
  · have : (s0 + q * s1) * 1 ≤ (s0 + q * s1) * r1 := Nat.mul_le_mul_left _ hr
    omega
  · have : (t0 + q * t1) * 1 ≤ (t0 + q * t1) * r1 := Nat.mul_le_mul_left _ hr
    omega

/-- a slice that reads as the limbs of n -/
def Sl (W : World) (v : Value) (n : Nat) : Prop := ∃ A c, v = .slice A (lim n).length c ∧ (lim n).length ≤ c ∧ Rd W A (lim n)
theorem keep6 {w : World} {g B i : Nat} {v v0 v1 v2 v3 v4 v5 : Value} (hne : ¬ B = g) (h : w.cell? ⟨g, i, none⟩ = some v) :
    ((((((w.setCell ⟨B, 0, none⟩ v0).setCell ⟨B, 1, none⟩ v1).setCell ⟨B, 2, none⟩ v2).setCell ⟨B, 3, none⟩ v3).setCell ⟨B, 4, none⟩ v4).setCell ⟨B, 5, none⟩ v5).cell? ⟨g, i, none⟩ = some v := by
  have k : ∀ (W : World) (j : Nat) (u : Value), W.cell? ⟨g, i, none⟩ = some v → (W.setCell ⟨B, j, none⟩ u).cell? ⟨g, i, none⟩ = some v := fun W j u h => (World.cell?_setCell_other W _ _ u (by intro e; cases e; exact hne rfl)).trans h
  exact k _ _ _ (k _ _ _ (k _ _ _ (k _ _ _ (k _ _ _ (k _ _ _ h)))))

theorem shr_size : (Tryd.prog.info? 97).map (·.size) = some 6 := by kernel_rfl

/-- what Gcd hands back: the divisor, and factors -/
structure GcdOf (a b : Int) (g x y : Int) : Prop where
  gcd : g = Int.gcd a b
  sum : a * x + b * y = g
  x : x.natAbs ≤ max 1 b.natAbs
  y : y.natAbs ≤ max 1 a.natAbs

def RetThree (g x y : Int) (w : World) (e : Ending) (w' : World) : Prop :=
  ∃ s1 A1 c1 l1 s2 A2 c2 l2 s3 A3 c3 l3, e = .returned (.agg #[.bool s1, .slice A1 l1.length c1, .bool s2, .slice A2 l2.length c2, .bool s3, .slice A3 l3.length c3]) ∧ IsZ s1 l1 g ∧ IsZ s2 l2 x ∧ IsZ s3 l3 y ∧
    l1.length ≤ c1 ∧ l2.length ≤ c2 ∧ l3.length ≤ c3 ∧ Rd w' A1 l1 ∧ Rd w' A2 l2 ∧ Rd w' A3 l3 ∧ Below w.heap.size w w'

theorem euc_end {a b : Nat} {odd : Bool} {r0 s0 s1 t0 t1 : Nat} (h : Euc a b odd r0 0 s0 s1 t0 t1) (n1 n2 : Bool) :
    GcdOf (if n1 then -(a : Int) else a) (if n2 then -(b : Int) else b) r0 (if !(odd == n1) then -(s0 : Int) else s0) (if odd == n2 then -(t0 : Int) else t0) := by
  have hg : r0 = Nat.gcd a b := by have := h.gcd; rwa [Nat.gcd_zero_right] at this
  have e0 := h.e0
  have l1 := h.ls0
  have l2 := h.lt0
  have m1 := Int.mul_comm (a : Int) s0
  have m2 := Int.mul_comm (b : Int) t0
  refine ⟨?_, ?_, ?_, ?_⟩
  · rw [hg]; unfold Int.gcd; cases n1 <;> cases n2 <;> simp
  · rw [e0]; cases odd <;> cases n1 <;> cases n2 <;> simp [Int.neg_mul, Int.mul_neg] <;> omega
  · cases odd <;> cases n1 <;> cases n2 <;> simp <;> omega
  · cases odd <;> cases n1 <;> cases n2 <;> simp <;> omega

set_option maxRecDepth 100000 in
set_option maxHeartbeats 8000000 in
theorem gcd1_bad (g1 g2 : Nat) (n1 n2 : Bool) (A1 A2 : Option Addr) (c1 c2 : Nat) (l1 l2 : List Nat) (w : World) (h1 : IntBox w g1 n1 A1 c1 l1) (h2 : IntBox w g2 n2 A2 c2 l2) (hbad : (okI n1 l1 && okI n2 l2) = false) :
    Calls Tryd.prog 77 #[.pointer (some ⟨g1, 0, none⟩), .pointer (some ⟨g2, 0, none⟩)] w fun e w' => e = .panicked (wrong 1) ∧ Below w.heap.size w w' := by
  have x0 := cell_at h1.blk 0 _ rfl
  have x1 := cell_at h1.blk 1 _ rfl
  have y0 := cell_at h2.blk 0 _ rfl
  have y1 := cell_at h2.blk 1 _ rfl
  have t1 := (Array.getElem?_eq_some_iff.1 h1.blk).1
  have t2 := (Array.getElem?_eq_some_iff.1 h2.blk).1
  have hb2 : ∀ a b, Below w.heap.size w ((w.alloc a).alloc b) := fun a b => ((Below.refl _ w).alloc (Nat.le_refl _) _).alloc (by simp) _
  have hf := fun a => formed_two (w.heap.size + 1) n1 n2 A1 A2 c1 c2 l1 l2 _ (two_blk w a (.cells #[.bool n1, .slice A1 l1.length c1, .bool n2, .slice A2 l2.length c2] 24)) (h1.rd.on (hb2 _ _)) (h2.rd.on (hb2 _ _)) h1.cap h2.cap
  go_enter Tryd.func77, Tryd.ntmps77
  go_wp2_with (go_at_call 55; refine (hf _).mono ?_; rintro e w' ⟨-, hp, hbl⟩; cases hp hbad)
  exact ⟨rfl, rfl, (hb2 _ _).trans (hbl.mono (hb2 _ _).size)⟩

set_option maxRecDepth 100000 in
set_option maxHeartbeats 8000000 in
theorem gcd1_ok (g1 g2 : Nat) (n1 n2 : Bool) (A1 A2 : Option Addr) (c1 c2 : Nat) (l1 l2 : List Nat) (w : World) (h1 : IntBox w g1 n1 A1 c1 l1) (h2 : IntBox w g2 n2 A2 c2 l2) (k1 : IsInt n1 l1) (k2 : IsInt n2 l2) (hok : (okI n1 l1 && okI n2 l2) = true) :
    Calls Tryd.prog 77 #[.pointer (some ⟨g1, 0, none⟩), .pointer (some ⟨g2, 0, none⟩)] w fun e w' => ∃ g x y, GcdOf (toZ n1 l1) (toZ n2 l2) g x y ∧ RetThree g x y w e w' := by
  have x0 := cell_at h1.blk 0 _ rfl
  have x1 := cell_at h1.blk 1 _ rfl
  have y0 := cell_at h2.blk 0 _ rfl
  have y1 := cell_at h2.blk 1 _ rfl
  have t1 := (Array.getElem?_eq_some_iff.1 h1.blk).1
  have t2 := (Array.getElem?_eq_some_iff.1 h2.blk).1
  have hb2 : ∀ a b, Below w.heap.size w ((w.alloc a).alloc b) := fun a b => ((Below.refl _ w).alloc (Nat.le_refl _) _).alloc (by simp) _
  have hf := fun a => formed_two (w.heap.size + 1) n1 n2 A1 A2 c1 c2 l1 l2 _ (two_blk w a (.cells #[.bool n1, .slice A1 l1.length c1, .bool n2, .slice A2 l2.length c2] 24)) (h1.rd.on (hb2 _ _)) (h2.rd.on (hb2 _ _)) h1.cap h2.cap
  have d1 : ¬ g1 = w.heap.size := by omega
  have d2 : ¬ g2 = w.heap.size := by omega
  have d3 : ¬ w.heap.size = g1 := by omega
  have d4 : ¬ w.heap.size = g2 := by omega
  have hqx := two_old w (.cells #[.bool false, .slice none 0 0, .bool false, .slice none 0 0, .bool false, .slice none 0 0] 97) (.cells #[.bool n1, .slice A1 l1.length c1, .bool n2, .slice A2 l2.length c2] 24) rfl
  have hM : Hid (∀ n : Nat, n ≤ max (val l1) (val l2) → (lim n).length ≤ 300) := fun n hn => by
    rcases Nat.le_total (val l1) (val l2) with h | h
    · rw [Nat.max_eq_right h] at hn
      exact Nat.le_trans (length_mono hn) (by rw [lim_val k2.canon]; exact k2.small)
    · rw [Nat.max_eq_left h] at hn
      exact Nat.le_trans (length_mono hn) (by rw [lim_val k1.canon]; exact k1.small)
  have hone : Hid (∀ n m : Nat, n ≤ max 1 m → (lim m).length ≤ 300 → (lim n).length ≤ 300) := fun n m h h2 => by
    rcases Nat.le_total 1 m with h1 | h1
    · rw [Nat.max_eq_right h1] at h; exact Nat.le_trans (length_mono h) h2
    · rw [Nat.max_eq_left h1] at h
      exact Nat.le_trans (length_mono h) (by rw [one_word (by decide) (by decide)]; simp)
  have hl1 : Hid ((lim (val l1)).length ≤ 300) := by show _ ≤ _; rw [lim_val k1.canon]; exact k1.small
  have hl2 : Hid ((lim (val l2)).length ≤ 300) := by show _ ≤ _; rw [lim_val k2.canon]; exact k2.small
  have hz1 : Hid (toZ n1 l1 = if n1 then -(val l1 : Int) else val l1) := rfl
  have hz2 : Hid (toZ n2 l2 = if n2 then -(val l2 : Int) else val l2) := rfl
  have e1 := Lib.hid (lim_val k1.canon)
  have e2 := Lib.hid (lim_val k2.canon)
  obtain ⟨a, ha⟩ : ∃ a, val l1 = a := ⟨_, rfl⟩
  obtain ⟨b, hb⟩ : ∃ b, val l2 = b := ⟨_, rfl⟩
  rw [ha] at hM hl1 hz1 e1
  rw [hb] at hM hl2 hz2 e2
  clear ha hb
  go_enter Tryd.func77, Tryd.ntmps77
  go_wp2_with first
    | (go_at_call 55; refine (hf _).mono ?_; rintro e w' ⟨hp, -, hbl⟩; cases hp hok; have hb3 := (hb2 _ _).trans (hbl.mono (hb2 _ _).size); have p0 := cell_at (h1.on hb3).blk 0 _ rfl; have p1 := cell_at (h1.on hb3).blk 1 _ rfl; have p2 := cell_at (h2.on hb3).blk 0 _ rfl; have p3 := cell_at (h2.on hb3).blk 1 _ rfl)
  go_quiet (fail)
  go_wp2_with fail
  have hq1 := hqx.on hbl
  obtain ⟨W0, hW0⟩ : ∃ W0, (((((w'.drewN nq).alloc (.cells #[.int .u32 1] 72)).alloc (.cells #[] 72)).alloc (.cells #[] 72)).alloc (.cells #[.int .u32 1] 72)) = W0 := ⟨_, rfl⟩
  have hw0 : Below w'.heap.size w' W0 := by rw [← hW0]; exact (((((below_drewN (Below.refl _ w') nq).alloc (Nat.le_refl _) _).alloc (by simp) _).alloc (by simp; omega) _).alloc (by simp; omega) _)
  have v0 : Rd W0 (some ⟨w'.heap.size, 0, none⟩) (lim 1) := by
    rw [← hW0]
    exact (rd_word (w'.drewN nq) (n := 1) (by decide) (by decide)).on ((((Below.refl _ _).alloc (Nat.le_refl _) _).alloc (by simp) _).alloc (by simp <;> omega) _)
  have v1 : Rd W0 (some ⟨w'.heap.size + 1 + 1 + 1, 0, none⟩) (lim 1) := by
    rw [← hW0]
    have := rd_word ((((w'.drewN nq).alloc (.cells #[.int .u32 1] 72)).alloc (.cells #[] 72)).alloc (.cells #[] 72)) (n := 1) (by decide) (by decide)
    simpa using this
  rw [hW0]
  clear hW0
  have one1 : (lim 1).length = 1 := by rw [one_word (by decide) (by decide)]; rfl
  have hb0 := hb3.trans (hw0.mono hb3.size)
  have hq0 := hq1.on hw0
  have ra := h1.rd.on hb0
  have rb := h2.rd.on hb0
  have hc1 := h1.cap
  have hc2 := h2.cap
  have One1 := Lib.hid one1
  clear x0 x1 y0 y1 p0 p1 p2 p3 hf hqx hq1 hw0 one1
  go_loopw [3, 4, 5, 6, 7, 8, 9] (fun q3 q4 q5 q6 q7 q8 q9 W => ∃ (odd : Bool) (r0 r1 s0 s1 t0 t1 : Nat), q9 = .bool odd ∧ Sl W q3 r0 ∧ Sl W q4 r1 ∧ Sl W q5 s0 ∧ Sl W q6 s1 ∧ Sl W q7 t0 ∧ Sl W q8 t1 ∧ Hid (Euc a b odd r0 r1 s0 s1 t0 t1) ∧ Below W0.heap.size W0 W) (fun _ q4 _ _ _ _ _ W => slotVal q4 W)
  case atStart =>
    refine ⟨false, a, b, 1, 0, 0, 1, rfl, ⟨A1, c1, ?_, ?_, ?_⟩, ⟨A2, c2, ?_, ?_, ?_⟩, ⟨_, 1, ?_, ?_, v0⟩, ⟨some ⟨w'.heap.size + 1, 0, none⟩, 0, ?_, ?_, ?_⟩, ⟨some ⟨w'.heap.size + 1 + 1, 0, none⟩, 0, ?_, ?_, ?_⟩, ⟨_, 1, ?_, ?_, v1⟩, Euc.start a b, Below.refl _ _⟩
    · rw [e1.out]
    · rw [e1.out]; exact hc1
    · rw [e1.out]; exact ra
    · rw [e2.out]
    · rw [e2.out]; exact hc2
    · rw [e2.out]; exact rb
    · rw [One1.out]
    · rw [One1.out]; exact Nat.le_refl _
    · rw [lim_zero]; rfl
    · rw [lim_zero]; exact Nat.le_refl _
    · rw [lim_zero]; exact Rd.nil _ _
    · rw [lim_zero]; rfl
    · rw [lim_zero]; exact Nat.le_refl _
    · rw [lim_zero]; exact Rd.nil _ _
    · rw [One1.out]
    · rw [One1.out]; exact Nat.le_refl _
  case round =>
    clear v0 v1 ra rb hc1 hc2
    obtain ⟨odd, r0, r1, s0, s1, t0, t1', rfl, ⟨Ar0, cr0, rfl, nr0, rr0⟩, ⟨Ar1, cr1, rfl, nr1, rr1⟩, ⟨As0, cs0, rfl, ns0, rs0⟩, ⟨As1, cs1, rfl, ns1, rs1⟩, ⟨At0, ct0, rfl, nt0, rt0⟩, ⟨At1, ct1, rfl, nt1, rt1⟩, heuc, hbl'⟩ := hrel
    have hE := heuc.out
    have lr0 := hM.out r0 hE.lr0
    have lr1 := hM.out r1 hE.lr1
    have ls0 := hone.out s0 b hE.ls0 hl2.out
    have ls1 := hone.out s1 b hE.ls1 hl2.out
    have lt0 := hone.out t0 a hE.lt0 hl1.out
    have lt1 := hone.out t1' a hE.lt1 hl1.out
    by_cases hr : 0 < r1
    · have hrl : 0 < (lim r1).length := lim_length_pos hr
      have hnx := hE.next hr
      obtain ⟨Q, hQ⟩ : ∃ Q, r0 / r1 = Q := ⟨_, rfl⟩
      obtain ⟨R, hR⟩ : ∃ R, r0 % r1 = R := ⟨_, rfl⟩
      obtain ⟨P1, hP1⟩ : ∃ P, Q * s1 = P := ⟨_, rfl⟩
      obtain ⟨P2, hP2⟩ : ∃ P, Q * t1' = P := ⟨_, rfl⟩
      obtain ⟨S2, hS2⟩ : ∃ P, s0 + P1 = P := ⟨_, rfl⟩
      obtain ⟨T2, hT2⟩ : ∃ P, t0 + P2 = P := ⟨_, rfl⟩
      rw [hQ, hR, hP1, hP2, hS2, hT2] at hnx
      have Hnx := Lib.hid hnx
      have hdv := div_calls Ar0 Ar1 cr0 cr1 (lim r0) (lim r1) wr rr0 rr1 nr0 nr1 (canon_lim _) (canon_lim _) (by rw [val_lim]; exact hr) (by omega)
      rw [val_lim, val_lim, hQ, hR] at hdv
      have lQ : (lim Q).length ≤ 300 := Nat.le_trans (length_mono (by rw [← hQ]; exact Nat.div_le_self _ _)) lr0
      have lP1 : (lim P1).length ≤ 600 := by have := prod_length lQ ls1; rw [hP1] at this; omega
      have lP2 : (lim P2).length ≤ 600 := by have := prod_length lQ lt1; rw [hP2] at this; omega
      have hm1 : ∀ W A c, Below wr.heap.size wr W → Rd W A (lim Q) → (lim Q).length ≤ c → Calls Tryd.prog 68 #[.slice A (lim Q).length c, .slice As1 (lim s1).length cs1] W (RetNat P1 W) := fun W A c hW h hc => by
        have := mul_calls A As1 c cs1 (lim Q) (lim s1) W h (rs1.on hW) hc ns1 (canon_lim _) (canon_lim _) (by omega)
        rwa [val_lim, val_lim, hP1] at this
      have hm2 : ∀ W A c, Below wr.heap.size wr W → Rd W A (lim Q) → (lim Q).length ≤ c → Calls Tryd.prog 68 #[.slice A (lim Q).length c, .slice At1 (lim t1').length ct1] W (RetNat P2 W) := fun W A c hW h hc => by
        have := mul_calls A At1 c ct1 (lim Q) (lim t1') W h (rt1.on hW) hc nt1 (canon_lim _) (canon_lim _) (by omega)
        rwa [val_lim, val_lim, hP2] at this
      have ha1 : ∀ W A c, Below wr.heap.size wr W → Rd W A (lim P1) → (lim P1).length ≤ c → Calls Tryd.prog 58 #[.slice As0 (lim s0).length cs0, .slice A (lim P1).length c] W (RetNat S2 W) := fun W A c hW h hc => by
        have := add_calls As0 A cs0 c (lim s0) (lim P1) W (rs0.on hW) h ns0 hc (by omega) (by omega)
        rwa [val_lim, val_lim, hS2] at this
      have ha2 : ∀ W A c, Below wr.heap.size wr W → Rd W A (lim P2) → (lim P2).length ≤ c → Calls Tryd.prog 58 #[.slice At0 (lim t0).length ct0, .slice A (lim P2).length c] W (RetNat T2 W) := fun W A c hW h hc => by
        have := add_calls At0 A ct0 c (lim t0) (lim P2) W (rt0.on hW) h nt0 hc (by omega) (by omega)
        rwa [val_lim, val_lim, hT2] at this
      have hRlt := Lib.hid (show R < r1 by rw [← hR]; exact Nat.mod_lt _ hr)
      clear hQ hR hP1 hP2 hS2 hT2 hE lQ lP1 lP2 hnx
      go_wp2_with first
        | (go_at_call 57; refine hdv.mono ?_; rintro e w1 ⟨Aq, cq, Ar, cr, rfl, nq', nrr, rq, rr, b1⟩)
        | (go_at_call_of 68 (Value.slice As1 (lim s1).length cs1); refine (hm1 _ Aq cq b1 rq nq').mono ?_; rintro e w2 ⟨Ap, cp, rfl, np, rp, b2⟩; have b12 := b1.trans (b2.mono b1.size))
        | (go_at_call_of 58 (Value.slice As0 (lim s0).length cs0); refine (ha1 _ Ap cp b12 rp np).mono ?_; rintro e w3 ⟨Ax, cx, rfl, nx, rx, b3⟩; have b13 := b12.trans (b3.mono b12.size))
        | (go_at_call_of 68 (Value.slice At1 (lim t1').length ct1); refine (hm2 _ Aq cq b13 ((rq.on b2).on b3) nq').mono ?_; rintro e w4 ⟨Ap', cp', rfl, np', rp', b4⟩; have b14 := b13.trans (b4.mono b13.size))
        | (go_at_call_of 58 (Value.slice At0 (lim t0).length ct0); refine (ha2 _ Ap' cp' b14 rp' np').mono ?_; rintro e w5 ⟨Ay, cy, rfl, ny, ry, b5⟩; have b15 := b14.trans (b5.mono b14.size))
      refine ⟨⟨!odd, r1, R, s1, S2, t1', T2, rfl, ⟨Ar1, cr1, rfl, nr1, rr1.on b15⟩, ⟨Ar, cr, rfl, nrr, (((rr.on b2).on b3).on b4).on b5⟩, ⟨As1, cs1, rfl, ns1, rs1.on b15⟩, ⟨Ax, cx, rfl, nx, (rx.on b4).on b5⟩, ⟨At1, ct1, rfl, nt1, rt1.on b15⟩, ⟨Ay, cy, rfl, ny, ry⟩, Hnx, hbl'.trans (b15.mono hbl'.size)⟩, ?_⟩
      rw [slotVal_eq ((((rr.on b2).on b3).on b4).on b5), slotVal_eq rr1, val_lim, val_lim]
      exact hRlt.out
    · obtain rfl : r1 = 0 := by omega
      rw [lim_zero]
      clear lr1 nr1 rr1
      have hbw := hb0.trans (hbl'.mono hb0.size)
      have hq2 := hq0.on hbl'
      have hend := euc_end hE n1 n2
      rw [← hz1.out, ← hz2.out] at hend
      have Hend := Lib.hid hend
      by_cases h00 : r0 = 0
      · subst h00
        rw [lim_zero]
        have hga : Nat.gcd a b = 0 := by have := hE.gcd; rw [← this]; rfl
        have HG := Lib.hid hga
        have z0 := cell_at hq2.h 0 _ rfl
        have zf0 := frozen_at hq2.h 0
        have z1 := cell_at hq2.h 1 _ rfl
        have zf1 := frozen_at hq2.h 1
        have z2 := cell_at hq2.h 2 _ rfl
        have zf2 := frozen_at hq2.h 2
        have z3 := cell_at hq2.h 3 _ rfl
        have zf3 := frozen_at hq2.h 3
        have z4 := cell_at hq2.h 4 _ rfl
        have zf4 := frozen_at hq2.h 4
        have z5 := cell_at hq2.h 5 _ rfl
        have zf5 := frozen_at hq2.h 5
        clear hend hga hE hr lr0 nr0 rr0
        go_wp2_with fail
        refine ret_cellS rfl Tryd.underlying97 shr_size rfl rfl (set6 hq2.h _ _ _ _ _ _) rfl ⟨0, 0, 0, ⟨?_, by simp, by simp, by simp⟩, false, none, 0, [], false, none, 0, [], false, none, 0, [], rfl, isZ_zero, isZ_zero, isZ_zero, Nat.le_refl _, Nat.le_refl _, Nat.le_refl _, Rd.nil _ _, Rd.nil _ _, Rd.nil _ _, ((((((hbw.setCell (Nat.le_refl _) _).setCell (Nat.le_refl _) _).setCell (Nat.le_refl _) _).setCell (Nat.le_refl _) _).setCell (Nat.le_refl _) _).setCell (Nat.le_refl _) _)⟩
        rw [hz1.out, hz2.out]
        have h := HG.out
        unfold Int.gcd
        cases n1 <;> cases n2 <;> simp [h]
      · have hr0l : 0 < (lim r0).length := lim_length_pos (by omega)
        have hr0b : ((lim r0).length == 0) = false := by rw [beq_eq_false_iff_ne]; omega
        have hr0i : (((lim r0).length : Int) == 0) = false := by rw [beq_eq_false_iff_ne]; omega
        generalize hu1 : (odd == n1) = u1 at hend
        generalize hu2 : (odd == n2) = u2 at hend
        have hE2 := Lib.hid hend
        have x0 := cell_at (h1.on hbw).blk 0 _ rfl
        have x1 := cell_at (h1.on hbw).blk 1 _ rfl
        have y0 := cell_at (h2.on hbw).blk 0 _ rfl
        have y1 := cell_at (h2.on hbw).blk 1 _ rfl
        clear hend hE hr h00
        go_wp2_with fail
        clear hM hone hl1 hl2 hz1 hz2 e1 e2 heuc Hend One1 hbl hb2 hok
        go_region_held3 (fun w'' => w''.cell? ⟨g1, 0, none⟩ = some (.bool n1) ∧ w''.cell? ⟨g1, 1, none⟩ = some (.slice A1 l1.length c1) ∧ w''.cell? ⟨g2, 0, none⟩ = some (.bool n2) ∧ w''.cell? ⟨g2, 1, none⟩ = some (.slice A2 l2.length c2)) ((first | (with_reducible exact ⟨keep6 d3 kk0, keep6 d3 kk1, keep6 d4 kk2, keep6 d4 kk3⟩) | (with_reducible exact ⟨kk0, kk1, kk2, kk3⟩) | (with_reducible exact ⟨jj0, jj1, jj2, jj3⟩) | (with_reducible exact ⟨ii0, ii1, ii2, ii3⟩) | exact ⟨x0, x1, y0, y1⟩))
          ((first
            | (go_at_call_of 60 (Value.slice Ar0 (lim r0).length cr0); refine (whole_z false r0 lr0 Ar0 cr0 _ (rr0.on (below_drew (Below.refl _ _))) nr0).mono ?_; rintro e w1 ⟨q1, B1, d1', m1, rfl, z1, k1', f1, b1⟩; replace b1 := (below_drew (Below.refl _ wr)).trans b1; have bb1 := hbw.trans (b1.mono hbw.size); have ii0 : w1.cell? ⟨g1, 0, none⟩ = some (.bool n1) := cell_at (h1.on bb1).blk 0 _ rfl; have ii1 : w1.cell? ⟨g1, 1, none⟩ = some (.slice A1 l1.length c1) := cell_at (h1.on bb1).blk 1 _ rfl; have ii2 : w1.cell? ⟨g2, 0, none⟩ = some (.bool n2) := cell_at (h2.on bb1).blk 0 _ rfl; have ii3 : w1.cell? ⟨g2, 1, none⟩ = some (.slice A2 l2.length c2) := cell_at (h2.on bb1).blk 1 _ rfl)
            | (go_at_call_of 60 (Value.slice As0 (lim s0).length cs0); refine (whole_z (!u1) s0 ls0 As0 cs0 _ (rs0.on b1) ns0).mono ?_; rintro e w2 ⟨q2, B2, d2', m2, rfl, z2, k2', f2, b2⟩; have b12 := b1.trans (b2.mono b1.size); have bb2 := hbw.trans (b12.mono hbw.size); have jj0 : w2.cell? ⟨g1, 0, none⟩ = some (.bool n1) := cell_at (h1.on bb2).blk 0 _ rfl; have jj1 : w2.cell? ⟨g1, 1, none⟩ = some (.slice A1 l1.length c1) := cell_at (h1.on bb2).blk 1 _ rfl; have jj2 : w2.cell? ⟨g2, 0, none⟩ = some (.bool n2) := cell_at (h2.on bb2).blk 0 _ rfl; have jj3 : w2.cell? ⟨g2, 1, none⟩ = some (.slice A2 l2.length c2) := cell_at (h2.on bb2).blk 1 _ rfl)
            | (go_at_call_of 60 (Value.slice At0 (lim t0).length ct0); refine (whole_z u2 t0 lt0 At0 ct0 _ (rt0.on b12) nt0).mono ?_; rintro e w3 ⟨q3, B3, d3', m3, rfl, z3, k3', f3, b3⟩; have b13 := b12.trans (b3.mono b12.size); have bb3 := hbw.trans (b13.mono hbw.size); have kk0 : w3.cell? ⟨g1, 0, none⟩ = some (.bool n1) := cell_at (h1.on bb3).blk 0 _ rfl; have kk1 : w3.cell? ⟨g1, 1, none⟩ = some (.slice A1 l1.length c1) := cell_at (h1.on bb3).blk 1 _ rfl; have kk2 : w3.cell? ⟨g2, 0, none⟩ = some (.bool n2) := cell_at (h2.on bb3).blk 0 _ rfl; have kk3 : w3.cell? ⟨g2, 1, none⟩ = some (.slice A2 l2.length c2) := cell_at (h2.on bb3).blk 1 _ rfl; have hq5 := hq2.on b13; have f1' := (f1.on b2).on b3; have f2' := f2.on b3; have v0 : w3.cell? ⟨w.heap.size, 0, none⟩ = some (.bool false) := cell_at hq5.h 0 _ rfl; have vf0 := frozen_at hq5.h 0; have v1 : w3.cell? ⟨w.heap.size, 1, none⟩ = some (.slice none 0 0) := cell_at hq5.h 1 _ rfl; have vf1 := frozen_at hq5.h 1; have v2 : w3.cell? ⟨w.heap.size, 2, none⟩ = some (.bool false) := cell_at hq5.h 2 _ rfl; have vf2 := frozen_at hq5.h 2; have v3 : w3.cell? ⟨w.heap.size, 3, none⟩ = some (.slice none 0 0) := cell_at hq5.h 3 _ rfl; have vf3 := frozen_at hq5.h 3; have v4 : w3.cell? ⟨w.heap.size, 4, none⟩ = some (.bool false) := cell_at hq5.h 4 _ rfl; have vf4 := frozen_at hq5.h 4; have v5 : w3.cell? ⟨w.heap.size, 5, none⟩ = some (.slice none 0 0) := cell_at hq5.h 5 _ rfl; have vf5 := frozen_at hq5.h 5; have PK := Lib.hid (And.intro hq5 (And.intro bb3 (And.intro z1 (And.intro z2 (And.intro z3 (And.intro k1' (And.intro k2' (And.intro k3' (And.intro f1' (And.intro f2' (And.intro f3 hE2))))))))))); clear hq5 hq2 b1 b2 b3 b12 b13 bb1 bb2 bb3 z1 z2 z3 lr0 ls0 lt0 ls1 lt1 ii0 ii1 ii2 ii3 jj0 jj1 jj2 jj3 f1 f2 f3 f1' f2' hE2)))
        go_wp2_with fail
        obtain ⟨hq5, bb3, z1, z2, z3, k1', k2', k3', f1', f2', f3, hE2⟩ := PK.out
        have nw1 := f1'.ne hq5.h (by intro i x h; rcases i with _ | _ | _ | _ | _ | _ | i <;> simp at h)
        have nw2 := f2'.ne hq5.h (by intro i x h; rcases i with _ | _ | _ | _ | _ | _ | i <;> simp at h)
        have nw3 := f3.ne hq5.h (by intro i x h; rcases i with _ | _ | _ | _ | _ | _ | i <;> simp at h)
        have r1 := fun v0 v1 v2 v3 v4 v5 => ((((((f1'.setNe nw1 (v := v0) (i := 0)).setNe nw1 (v := v1) (i := 1)).setNe nw1 (v := v2) (i := 2)).setNe nw1 (v := v3) (i := 3)).setNe nw1 (v := v4) (i := 4)).setNe nw1 (v := v5) (i := 5))
        have r2 := fun v0 v1 v2 v3 v4 v5 => ((((((f2'.setNe nw2 (v := v0) (i := 0)).setNe nw2 (v := v1) (i := 1)).setNe nw2 (v := v2) (i := 2)).setNe nw2 (v := v3) (i := 3)).setNe nw2 (v := v4) (i := 4)).setNe nw2 (v := v5) (i := 5))
        have r3 := fun v0 v1 v2 v3 v4 v5 => ((((((f3.setNe nw3 (v := v0) (i := 0)).setNe nw3 (v := v1) (i := 1)).setNe nw3 (v := v2) (i := 2)).setNe nw3 (v := v3) (i := 3)).setNe nw3 (v := v4) (i := 4)).setNe nw3 (v := v5) (i := 5))
        exact ret_cellS rfl Tryd.underlying97 shr_size rfl rfl (set6 hq5.h _ _ _ _ _ _) rfl ⟨_, _, _, hE2.out, q1, B1, d1', m1, q2, B2, d2', m2, q3, B3, d3', m3, rfl, z1, z2, z3, k1', k2', k3', r1 _ _ _ _ _ _, r2 _ _ _ _ _ _, r3 _ _ _ _ _ _, ((((((bb3.setCell (Nat.le_refl _) _).setCell (Nat.le_refl _) _).setCell (Nat.le_refl _) _).setCell (Nat.le_refl _) _).setCell (Nat.le_refl _) _).setCell (Nat.le_refl _) _)⟩

end Nm
end Go.Proofs.YtlhmbbpkhahbeaaDoor
namespace Go.Proofs.YtlhmbbpkhahbeaaDoor
namespace Nm
open Go.RowKit Go.Shelf Go.BigFrame
attribute [local go_sem] Oper.semAt_some

/-- what Gcd returns: a divisor and factors, or an error -/
def GcdIs (ok : Bool) (a b g x y er : Int) : Prop := (ok = true → er = 0 ∧ GcdOf a b g x y) ∧ (ok = false → er = 1 ∧ g = 0 ∧ x = 0 ∧ y = 0)

def RetT3 (ok : Bool) (a b : Int) (w : World) (e : Ending) (w' : World) : Prop :=
  ∃ g x y er s1 A1 c1 l1 s2 A2 c2 l2 s3 A3 c3 l3, GcdIs ok a b g x y er ∧ e = .returned (.tuple #[.agg #[.bool s1, .slice A1 l1.length c1, .bool s2, .slice A2 l2.length c2, .bool s3, .slice A3 l3.length c3], .int .i64 er]) ∧ IsZ s1 l1 g ∧ IsZ s2 l2 x ∧ IsZ s3 l3 y ∧
    l1.length ≤ c1 ∧ l2.length ≤ c2 ∧ l3.length ≤ c3 ∧ Rd w' A1 l1 ∧ Rd w' A2 l2 ∧ Rd w' A3 l3 ∧ Below w.heap.size w w'

def Ret3E (ok : Bool) (a b : Int) (w : World) (e : Ending) (w' : World) : Prop :=
  ∃ g x y er s1 A1 c1 l1 s2 A2 c2 l2 s3 A3 c3 l3, GcdIs ok a b g x y er ∧ e = .returned (.tuple #[iv s1 A1 l1.length c1, iv s2 A2 l2.length c2, iv s3 A3 l3.length c3, .int .i64 er]) ∧ IsZ s1 l1 g ∧ IsZ s2 l2 x ∧ IsZ s3 l3 y ∧
    l1.length ≤ c1 ∧ l2.length ≤ c2 ∧ l3.length ≤ c3 ∧ Rd w' A1 l1 ∧ Rd w' A2 l2 ∧ Rd w' A3 l3 ∧ Below w.heap.size w w'

theorem try_gcd (g1 g2 : Nat) (n1 n2 : Bool) (A1 A2 : Option Addr) (c1 c2 : Nat) (l1 l2 : List Nat) (w : World) (h1 : IntBox w g1 n1 A1 c1 l1) (h2 : IntBox w g2 n2 A2 c2 l2) :
    Calls Tryd.prog 76 #[.func (.func 77) #[] #[.pointer (some ⟨g1, 0, none⟩), .pointer (some ⟨g2, 0, none⟩)]] w (RetT3 (okI n1 l1 && okI n2 l2) (toZ n1 l1) (toZ n2 l2) w) := by
  have hB : ∀ o o', Below w.heap.size w ((w.alloc o).alloc o') := fun o o' => ((Below.refl _ w).alloc (Nat.le_refl _) _).alloc (by simp) _
  by_cases hok : (okI n1 l1 && okI n2 l2) = true
  · have hok' := hok
    rw [Bool.and_eq_true] at hok'
    have k1 := okI_isInt h1.rd.words hok'.1
    have k2 := okI_isInt h2.rd.words hok'.2
    refine (try_shr_ok 77 _ (enters_of Tryd.func77 (by kernel_rfl) rfl) w _ rfl (fun s1 A1 m1 c1 s2 A2 m2 c2 s3 A3 m3 c3 w1 => ∃ g x y l1' l2' l3', GcdOf (toZ n1 l1) (toZ n2 l2) g x y ∧ m1 = l1'.length ∧ m2 = l2'.length ∧ m3 = l3'.length ∧ IsZ s1 l1' g ∧ IsZ s2 l2' x ∧ IsZ s3 l3' y ∧ l1'.length ≤ c1 ∧ l2'.length ≤ c2 ∧ l3'.length ≤ c3 ∧ Rd w1 A1 l1' ∧ Rd w1 A2 l2' ∧ Rd w1 A3 l3')
      ((gcd1_ok g1 g2 n1 n2 A1 A2 c1 c2 l1 l2 _ (h1.on (hB _ _)) (h2.on (hB _ _)) k1 k2 hok).mono ?_)).mono ?_
    · rintro e w' ⟨g, x, y, hg, s1, B1, d1, m1, s2, B2, d2, m2, s3, B3, d3, m3, rfl, z1, z2, z3, e1, e2, e3, f1, f2, f3, b⟩
      exact ⟨s1, B1, _, d1, s2, B2, _, d2, s3, B3, _, d3, rfl, ⟨g, x, y, m1, m2, m3, hg, rfl, rfl, rfl, z1, z2, z3, e1, e2, e3, f1, f2, f3⟩, b⟩
    · rintro e w' ⟨s1, B1, _, d1, s2, B2, _, d2, s3, B3, _, d3, w1, ⟨g, x, y, m1, m2, m3, hg, rfl, rfl, rfl, z1, z2, z3, e1, e2, e3, f1, f2, f3⟩, b, hr, rfl⟩
      exact ⟨g, x, y, 0, s1, B1, d1, m1, s2, B2, d2, m2, s3, B3, d3, m3, ⟨fun _ => ⟨rfl, hg⟩, fun h => by rw [hok] at h; cases h⟩, rfl, z1, z2, z3, e1, e2, e3, hr _ _ f1, hr _ _ f2, hr _ _ f3, b⟩
  · refine (try_shr_wrong 77 _ (enters_of Tryd.func77 (by kernel_rfl) rfl) w _ rfl 1 (gcd1_bad g1 g2 n1 n2 A1 A2 c1 c2 l1 l2 _ (h1.on (hB _ _)) (h2.on (hB _ _)) (by simpa using hok))).mono ?_
    rintro e w' ⟨b, rfl⟩
    exact ⟨0, 0, 0, 1, false, none, 0, [], false, none, 0, [], false, none, 0, [], ⟨fun h => absurd h hok, fun _ => ⟨rfl, rfl, rfl, rfl⟩⟩, rfl, isZ_zero, isZ_zero, isZ_zero, Nat.le_refl _, Nat.le_refl _, Nat.le_refl _, Rd.nil _ _, Rd.nil _ _, Rd.nil _ _, b⟩

theorem ret_ccct {fn : Func} {p q r u : Tmp} (h : fn.results = #[.cell p 24, .cell q 24, .cell r 24, .tmp u]) {a : Act} {w : World} {g1 g2 g3 : Nat} {x1 y1 x2 y2 x3 y3 : Value} {R : Ending → World → Prop} (hd0 : a.defers = []) (hp : a.tmps.getD p undef = .pointer (some ⟨g1, 0, none⟩)) (hq : a.tmps.getD q undef = .pointer (some ⟨g2, 0, none⟩)) (hr : a.tmps.getD r undef = .pointer (some ⟨g3, 0, none⟩))
    (hg1 : w.heap[g1]? = some (.cells #[x1, y1] 24 (0, 0))) (hg2 : w.heap[g2]? = some (.cells #[x2, y2] 24 (0, 0))) (hg3 : w.heap[g3]? = some (.cells #[x3, y3] 24 (0, 0))) (hR : R (.returned (.tuple #[.agg #[x1, y1], .agg #[x2, y2], .agg #[x3, y3], a.tmps.getD u undef])) w) : bodyPost Tryd.prog fn R .ret a w := by
  refine bodyPost_ret (v := .tuple #[.agg #[x1, y1], .agg #[x2, y2], .agg #[x3, y3], a.tmps.getD u undef]) ?_ hd0 hR
  have e1 := run_loadVar_row (P := Tryd.prog) w g1 24 24 #[x1, y1] (0, 0) _ hg1 Tryd.underlying24 rfl int_size
  have e2 := run_loadVar_row (P := Tryd.prog) w g2 24 24 #[x2, y2] (0, 0) _ hg2 Tryd.underlying24 rfl int_size
  have e3 := run_loadVar_row (P := Tryd.prog) w g3 24 24 #[x3, y3] (0, 0) _ hg3 Tryd.underlying24 rfl int_size
  rw [Array.getD_eq_getD_getElem?] at hp hq hr
  simp [results, h, hp, hq, hr, asAddr, Result.andThen, e1, e2, e3, Sem.run_bind]

set_option maxRecDepth 100000 in
set_option maxHeartbeats 8000000 in
theorem Gcd_calls (n1 n2 : Bool) (A1 A2 : Option Addr) (c1 c2 : Nat) (l1 l2 : List Nat) (w : World) (h1 : Rd w A1 l1) (h2 : Rd w A2 l2) (hc1 : l1.length ≤ c1) (hc2 : l2.length ≤ c2) :
    Calls Tryd.prog 26 #[iv n1 A1 l1.length c1, iv n2 A2 l2.length c2] w (Ret3E (okI n1 l1 && okI n2 l2) (toZ n1 l1) (toZ n2 l2) w) := by
  have hmf : ∀ (fn : Fn) (first cap : Array Value) (w : World), (Instr.makeFunc fn first cap).run Tryd.prog w = .ok (.func fn first cap) w := fun _ _ _ _ => rfl
  have hall := allocs_get w [.cells #[.bool n1, .slice A1 l1.length c1] 24, .cells #[.bool n2, .slice A2 l2.length c2] 24, .cells #[.bool false, .slice none 0 0] 24, .cells #[.bool false, .slice none 0 0] 24, .cells #[.bool false, .slice none 0 0] 24]
  have hb4 := (allocs_stp w [.cells #[.bool n1, .slice A1 l1.length c1] 24, .cells #[.bool n2, .slice A2 l2.length c2] 24, .cells #[.bool false, .slice none 0 0] 24, .cells #[.bool false, .slice none 0 0] 24, .cells #[.bool false, .slice none 0 0] 24] (Nat.le_refl _)).below
  have hsz := allocs_size w [.cells #[.bool n1, .slice A1 l1.length c1] 24, .cells #[.bool n2, .slice A2 l2.length c2] 24, .cells #[.bool false, .slice none 0 0] 24, .cells #[.bool false, .slice none 0 0] 24, .cells #[.bool false, .slice none 0 0] 24]
  obtain ⟨W4, hW4⟩ : ∃ W4, allocs w [.cells #[.bool n1, .slice A1 l1.length c1] 24, .cells #[.bool n2, .slice A2 l2.length c2] 24, .cells #[.bool false, .slice none 0 0] 24, .cells #[.bool false, .slice none 0 0] 24, .cells #[.bool false, .slice none 0 0] 24] = W4 := ⟨_, rfl⟩
  rw [hW4] at hall hb4 hsz
  simp only [allocs] at hW4
  have B1 : IntBox W4 w.heap.size n1 A1 c1 l1 := ⟨hall 0 (by simp), h1.on hb4, hc1⟩
  have B2 : IntBox W4 (w.heap.size + 1) n2 A2 c2 l2 := ⟨hall 1 (by simp), h2.on hb4, hc2⟩
  have hR1 : Blk W4 (w.heap.size + 1 + 1) #[.bool false, .slice none 0 0] 24 := ⟨hall 2 (by simp)⟩
  have hR2 : Blk W4 (w.heap.size + 1 + 1 + 1) #[.bool false, .slice none 0 0] 24 := ⟨hall 3 (by simp)⟩
  have hR3 : Blk W4 (w.heap.size + 1 + 1 + 1 + 1) #[.bool false, .slice none 0 0] 24 := ⟨hall 4 (by simp)⟩
  have hsz' : W4.heap.size = w.heap.size + 5 := hsz
  have ht := try_gcd _ _ n1 n2 A1 A2 c1 c2 l1 l2 W4 B1 B2
  have Hsz := Lib.hid hsz'
  clear hsz hsz' hall
  go_enter Tryd.func26, Tryd.ntmps26
  go_wp2_with (go_at_call 76; refine ht.mono ?_; rintro e w5 ⟨g, x, y, er, s5, A5, c5, l5, s6, A6, c6, l6, s7, A7, c7, l7, hg, rfl, z5, z6, z7, n5, n6, n7, r5, r6, r7, b5⟩)
  have hb6 : Below w5.heap.size w5 (w5.alloc (.cells #[.bool s5, .slice A5 l5.length c5, .bool s6, .slice A6 l6.length c6, .bool s7, .slice A7 l7.length c7] 97)) := (Below.refl _ _).alloc (Nat.le_refl _) _
  have hX := World.alloc_heap_new w5 (.cells #[.bool s5, .slice A5 l5.length c5, .bool s6, .slice A6 l6.length c6, .bool s7, .slice A7 l7.length c7] 97)
  have q1 := (hR1.on b5).on hb6
  have q2 := (hR2.on b5).on hb6
  have q3 := (hR3.on b5).on hb6
  have p1 := r5.on hb6
  have p2 := r6.on hb6
  have p3 := r7.on hb6
  have bb := hb4.trans ((b5.mono hb4.size).trans (hb6.mono (Nat.le_trans hb4.size b5.size)))
  have hs5 := b5.size
  have hsz := Hsz.out
  clear hW4
  generalize (w5.alloc (.cells #[.bool s5, .slice A5 l5.length c5, .bool s6, .slice A6 l6.length c6, .bool s7, .slice A7 l7.length c7] 97)) = W6 at *
  obtain ⟨B, hB⟩ : ∃ B, w5.heap.size = B := ⟨_, rfl⟩
  obtain ⟨G1, hG1⟩ : ∃ G1, w.heap.size + 1 + 1 = G1 := ⟨_, rfl⟩
  obtain ⟨G2, hG2⟩ : ∃ G2, G1 + 1 = G2 := ⟨_, rfl⟩
  obtain ⟨G3, hG3⟩ : ∃ G3, G2 + 1 = G3 := ⟨_, rfl⟩
  have d12 : ¬ G1 = G2 := by omega
  have d21 : ¬ G2 = G1 := by omega
  have d13 : ¬ G1 = G3 := by omega
  have d31 : ¬ G3 = G1 := by omega
  have d23 : ¬ G2 = G3 := by omega
  have d32 : ¬ G3 = G2 := by omega
  have d3 : ¬ G1 = B := by omega
  have d4 : ¬ B = G1 := by omega
  have d5 : ¬ G2 = B := by omega
  have d6 : ¬ B = G2 := by omega
  have d7 : ¬ G3 = B := by omega
  have d8 : ¬ B = G3 := by omega
  have k1 : w.heap.size ≤ G1 := by omega
  have k2 : w.heap.size ≤ G2 := by omega
  have k3 : w.heap.size ≤ G3 := by omega
  rw [hB] at hX ⊢
  rw [hG1] at q1 q2 q3 ⊢
  rw [hG2] at q2 q3 ⊢
  rw [hG3] at q3 ⊢
  clear hB hG1 hG2 hG3 hs5 hsz
  have x0 := cell_at hX 0 _ rfl
  have x1 := cell_at hX 1 _ rfl
  have x2 := cell_at hX 2 _ rfl
  have x3 := cell_at hX 3 _ rfl
  have x4 := cell_at hX 4 _ rfl
  have x5 := cell_at hX 5 _ rfl
  have y0 := cell_at q1.h 0 _ rfl
  have y1 := cell_at q1.h 1 _ rfl
  have y2 := cell_at q2.h 0 _ rfl
  have y3 := cell_at q2.h 1 _ rfl
  have y4 := cell_at q3.h 0 _ rfl
  have y5 := cell_at q3.h 1 _ rfl
  have u0 := frozen_at q1.h 0
  have u1 := frozen_at q1.h 1
  have u2 := frozen_at q2.h 0
  have u3 := frozen_at q2.h 1
  have u4 := frozen_at q3.h 0
  have u5 := frozen_at q3.h 1
  go_region
  go_wp2_with fail
  have nw : ∀ {v1 v2 : Value}, (∀ x : Int, v1 ≠ .int .u32 x) → (∀ x : Int, v2 ≠ .int .u32 x) → ∀ (i : Nat) (x : Int), (#[v1, v2] : Array Value)[i]? = some (.int .u32 x) → False := by
    intro v1 v2 h1 h2 i x h
    rcases i with _ | _ | i <;> simp at h
    · exact h1 _ h
    · exact h2 _ h
  have keep : ∀ {X : World} {A : Option Addr} {l : List Nat}, Rd X A l → (∀ b o, A = some ⟨b, o, none⟩ → 0 < l.length → b ≠ G1) → (∀ b o, A = some ⟨b, o, none⟩ → 0 < l.length → b ≠ G2) → (∀ b o, A = some ⟨b, o, none⟩ → 0 < l.length → b ≠ G3) → ∀ v1 v2 v3 v4 v5 v6 : Value,
      Rd ((((((X.setCell ⟨G1, 0, none⟩ v1).setCell ⟨G1, 1, none⟩ v2).setCell ⟨G2, 0, none⟩ v3).setCell ⟨G2, 1, none⟩ v4).setCell ⟨G3, 0, none⟩ v5).setCell ⟨G3, 1, none⟩ v6) A l :=
    fun h m1 m2 m3 _ _ _ _ _ _ => (((((h.setNe m1).setNe m1).setNe m2).setNe m2).setNe m3).setNe m3
  have o : ∀ {X : World} {a : Addr} {v : Value} {g : Nat}, ¬ a.block = g → (X.setCell a v).heap[g]? = X.heap[g]? := fun {X a v g} h => Below.heap_setCell _ _ _ g (by first | exact h | exact fun e => h e.symm)
  exact ret_ccct rfl rfl rfl rfl rfl (heap_drew _ _ ((o d31).trans ((o d31).trans ((o d21).trans ((o d21).trans (set_blk (set_blk q1.h 0 _) 1 _))))))
    (heap_drew _ _ ((o d32).trans ((o d32).trans (set_blk (set_blk ((o d12).trans ((o d12).trans q2.h)) 0 _) 1 _))))
    (heap_drew _ _ (set_blk (set_blk ((o d23).trans ((o d23).trans ((o d13).trans ((o d13).trans q3.h)))) 0 _) 1 _))
    ⟨g, x, y, er, s5, A5, c5, l5, s6, A6, c6, l6, s7, A7, c7, l7, hg, rfl, z5, z6, z7, n5, n6, n7,
      (keep p1 (p1.ne q1.h (nw (by simp) (by simp))) (p1.ne q2.h (nw (by simp) (by simp))) (p1.ne q3.h (nw (by simp) (by simp))) _ _ _ _ _ _).on (below_drew (Below.refl _ _)),
      (keep p2 (p2.ne q1.h (nw (by simp) (by simp))) (p2.ne q2.h (nw (by simp) (by simp))) (p2.ne q3.h (nw (by simp) (by simp))) _ _ _ _ _ _).on (below_drew (Below.refl _ _)),
      (keep p3 (p3.ne q1.h (nw (by simp) (by simp))) (p3.ne q2.h (nw (by simp) (by simp))) (p3.ne q3.h (nw (by simp) (by simp))) _ _ _ _ _ _).on (below_drew (Below.refl _ _)),
      below_drew ((((((bb.setCell k1 _).setCell k1 _).setCell k2 _).setCell k2 _).setCell k3 _).setCell k3 _)⟩

end Nm
end Go.Proofs.YtlhmbbpkhahbeaaDoor
namespace Go.Proofs.YtlhmbbpkhahbeaaDoor
namespace Nm
open Go.RowKit Go.Shelf Go.BigFrame
attribute [local go_sem] Oper.semAt_some

/-- the greatest number up to k whose n-th power is at most a -/
def rootTo (a n : Nat) : Nat → Nat
  | 0 => 0
  | k + 1 => if (k + 1) ^ n ≤ a then k + 1 else rootTo a n k
def rootN (a n : Nat) : Nat := rootTo a n a
def ceilN (a n : Nat) : Nat := if rootN a n ^ n < a then rootN a n + 1 else rootN a n

theorem rootTo_of {a n x : Nat} (hx : IsRoot a n x) : ∀ k, x ≤ k → rootTo a n k = x := by
  intro k
  induction k with
  | zero => intro h; simp [rootTo]; omega
  | succ k ih =>
    intro h
    unfold rootTo
    split
    · rename_i h1
      have := hx.2 _ h1
      omega
    · rename_i h1
      refine ih ?_
      rcases Nat.lt_or_ge k x with h2 | h2
      · obtain rfl : x = k + 1 := by omega
        exact absurd hx.1 h1
      · exact h2

theorem le_pow_self (x : Nat) {n : Nat} (hn : 1 ≤ n) : x ≤ x ^ n := by
  rcases Nat.eq_zero_or_pos x with h | h
  · rw [h]; exact Nat.zero_le _
  · have := Nat.pow_le_pow_right h hn
    rwa [Nat.pow_one] at this

theorem rootN_of {a n x : Nat} (hn : 1 ≤ n) (hx : IsRoot a n x) : rootN a n = x :=
  rootTo_of hx a (Nat.le_trans (le_pow_self x hn) hx.1)

/-- what Root returns -/
def rootR (n1 : Bool) (l1 : List Nat) (n : Int) : Int × Int :=
  if okI n1 l1 = true then (if 1 ≤ n ∧ n ≤ 100 then (if (!n1 || (n % 2 == 1)) = true then (if n1 = true then -(ceilN (val l1) n.toNat : Int) else (rootN (val l1) n.toNat : Int), 0) else (0, 5)) else (0, 1)) else (0, 1)

theorem rootR_zero (n1 : Bool) (l1 : List Nat) (n : Int) : (rootR n1 l1 n).2 ≠ 0 → (rootR n1 l1 n).1 = 0 := by
  unfold rootR
  split
  · split
    · split <;> simp
    · simp
  · simp

set_option maxRecDepth 100000 in
set_option maxHeartbeats 4000000 in
theorem root1_bad (g1 g2 : Nat) (n1 : Bool) (n : Int) (A1 : Option Addr) (c1 : Nat) (l1 : List Nat) (w : World) (h1 : IntBox w g1 n1 A1 c1 l1) (h2 : Blk w g2 #[.int .i64 n] 3) (hbad : okI n1 l1 = false) :
    Calls Tryd.prog 66 #[.pointer (some ⟨g1, 0, none⟩), .pointer (some ⟨g2, 0, none⟩)] w fun e w' => e = .panicked (wrong 1) ∧ Below w.heap.size w w' := by
  have x0 := cell_at h1.blk 0 _ rfl
  have x1 := cell_at h1.blk 1 _ rfl
  have y0 := cell_at h2.h 0 _ rfl
  have t1 := (Array.getElem?_eq_some_iff.1 h1.blk).1
  have t2 := (Array.getElem?_eq_some_iff.1 h2.h).1
  have hb2 : ∀ a b, Below w.heap.size w ((w.alloc a).alloc b) := fun a b => ((Below.refl _ w).alloc (Nat.le_refl _) _).alloc (by simp) _
  have hf := fun a => formed_one (w.heap.size + 1) n1 A1 c1 l1 _ (two_blk w a (.cells #[.bool n1, .slice A1 l1.length c1] 24)) (h1.rd.on (hb2 _ _)) h1.cap
  go_enter Tryd.func66, Tryd.ntmps66
  go_wp2_with (go_at_call 55; refine (hf _).mono ?_; rintro e w' ⟨-, hp, hbl⟩; cases hp hbad)
  exact ⟨rfl, rfl, (hb2 _ _).trans (hbl.mono (hb2 _ _).size)⟩

set_option maxRecDepth 100000 in
set_option maxHeartbeats 4000000 in
theorem root1_range (g1 g2 : Nat) (n1 : Bool) (n : Int) (A1 : Option Addr) (c1 : Nat) (l1 : List Nat) (w : World) (h1 : IntBox w g1 n1 A1 c1 l1) (h2 : Blk w g2 #[.int .i64 n] 3) (hok : okI n1 l1 = true) (h0 : ¬ (1 ≤ n ∧ n ≤ 100)) :
    Calls Tryd.prog 66 #[.pointer (some ⟨g1, 0, none⟩), .pointer (some ⟨g2, 0, none⟩)] w fun e w' => e = .panicked (wrong 1) ∧ Below w.heap.size w w' := by
  have x0 := cell_at h1.blk 0 _ rfl
  have x1 := cell_at h1.blk 1 _ rfl
  have y0 := cell_at h2.h 0 _ rfl
  have t1 := (Array.getElem?_eq_some_iff.1 h1.blk).1
  have t2 := (Array.getElem?_eq_some_iff.1 h2.h).1
  have hb2 : ∀ a b, Below w.heap.size w ((w.alloc a).alloc b) := fun a b => ((Below.refl _ w).alloc (Nat.le_refl _) _).alloc (by simp) _
  have hf := fun a => formed_one (w.heap.size + 1) n1 A1 c1 l1 _ (two_blk w a (.cells #[.bool n1, .slice A1 l1.length c1] 24)) (h1.rd.on (hb2 _ _)) h1.cap
  by_cases hn : 1 ≤ n
  · have hn2 : decide (n ≤ 100) = false := decide_eq_false fun h => h0 ⟨hn, h⟩
    clear h0
    go_enter Tryd.func66, Tryd.ntmps66
    go_wp2_with first
      | (go_at_call 55; refine (hf _).mono ?_; rintro e w' ⟨hp, -, hbl⟩; cases hp hok; have hb3 := (hb2 _ _).trans (hbl.mono (hb2 _ _).size); have p0 := cell_at (h1.on hb3).blk 0 _ rfl; have p1 := cell_at (h1.on hb3).blk 1 _ rfl; have p2 := cell_at (h2.on hb3).h 0 _ rfl)
      | (go_at_call 56; refine (must_no 1 _).mono ?_; rintro e w5 ⟨rfl, rfl⟩)
    exact ⟨rfl, rfl, hb3⟩
  · clear h0
    go_enter Tryd.func66, Tryd.ntmps66
    go_wp2_with first
      | (go_at_call 55; refine (hf _).mono ?_; rintro e w' ⟨hp, -, hbl⟩; cases hp hok; have hb3 := (hb2 _ _).trans (hbl.mono (hb2 _ _).size); have p0 := cell_at (h1.on hb3).blk 0 _ rfl; have p1 := cell_at (h1.on hb3).blk 1 _ rfl; have p2 := cell_at (h2.on hb3).h 0 _ rfl)
      | (go_at_call 56; refine (must_no 1 _).mono ?_; rintro e w5 ⟨rfl, rfl⟩)
    exact ⟨rfl, rfl, hb3⟩

set_option maxRecDepth 100000 in
set_option maxHeartbeats 4000000 in
theorem root1_none (g1 g2 : Nat) (m : Nat) (A1 : Option Addr) (c1 : Nat) (l1 : List Nat) (w : World) (h1 : IntBox w g1 true A1 c1 l1) (h2 : Blk w g2 #[.int .i64 (m : Int)] 3) (hok : okI true l1 = true) (hm1 : 1 ≤ m) (hm2 : m ≤ 100) (hpar : ((m : Int) % 2 == 1) = false) :
    Calls Tryd.prog 66 #[.pointer (some ⟨g1, 0, none⟩), .pointer (some ⟨g2, 0, none⟩)] w fun e w' => e = .panicked (wrong 5) ∧ Below w.heap.size w w' := by
  have x0 := cell_at h1.blk 0 _ rfl
  have x1 := cell_at h1.blk 1 _ rfl
  have y0 := cell_at h2.h 0 _ rfl
  have t1 := (Array.getElem?_eq_some_iff.1 h1.blk).1
  have t2 := (Array.getElem?_eq_some_iff.1 h2.h).1
  have hb2 : ∀ a b, Below w.heap.size w ((w.alloc a).alloc b) := fun a b => ((Below.refl _ w).alloc (Nat.le_refl _) _).alloc (by simp) _
  have hf := fun a => formed_one (w.heap.size + 1) true A1 c1 l1 _ (two_blk w a (.cells #[.bool true, .slice A1 l1.length c1] 24)) (h1.rd.on (hb2 _ _)) h1.cap
  have hd1 : decide ((1 : Int) ≤ (m : Int)) = true := decide_eq_true (by omega)
  have hd2 : decide (1 ≤ m) = true := decide_eq_true (by omega)
  have hd3 : decide ((m : Int) ≤ 100) = true := decide_eq_true (by omega)
  have hd4 : decide (m ≤ 100) = true := decide_eq_true (by omega)
  go_enter Tryd.func66, Tryd.ntmps66
  go_wp2_with first
    | (go_at_call 55; refine (hf _).mono ?_; rintro e w' ⟨hp, -, hbl⟩; cases hp hok; have hb3 := (hb2 _ _).trans (hbl.mono (hb2 _ _).size); have p0 := cell_at (h1.on hb3).blk 0 _ rfl; have p1 := cell_at (h1.on hb3).blk 1 _ rfl; have p2 := cell_at (h2.on hb3).h 0 _ rfl)
    | (go_at_call 56; have hmark := m5; refine (must_no 5 _).mono ?_; rintro e w5 ⟨rfl, rfl⟩)
    | (go_at_call 56; refine (must_ok 1 _).mono ?_; rintro e w4 ⟨rfl, rfl⟩; have m5 : True := trivial)
  exact ⟨rfl, rfl, hb3⟩

set_option maxRecDepth 100000 in
set_option maxHeartbeats 4000000 in
theorem root1_pos (g1 g2 : Nat) (m : Nat) (A1 : Option Addr) (c1 : Nat) (l1 : List Nat) (w : World) (h1 : IntBox w g1 false A1 c1 l1) (h2 : Blk w g2 #[.int .i64 (m : Int)] 3) (k1 : IsInt false l1) (hok : okI false l1 = true) (hm1 : 1 ≤ m) (hm2 : m ≤ 100) :
    Calls Tryd.prog 66 #[.pointer (some ⟨g1, 0, none⟩), .pointer (some ⟨g2, 0, none⟩)] w (RetZ (rootN (val l1) m : Int) w) := by
  have x0 := cell_at h1.blk 0 _ rfl
  have x1 := cell_at h1.blk 1 _ rfl
  have y0 := cell_at h2.h 0 _ rfl
  have t1 := (Array.getElem?_eq_some_iff.1 h1.blk).1
  have t2 := (Array.getElem?_eq_some_iff.1 h2.h).1
  have hb2 : ∀ a b, Below w.heap.size w ((w.alloc a).alloc b) := fun a b => ((Below.refl _ w).alloc (Nat.le_refl _) _).alloc (by simp) _
  have hf := fun a => formed_one (w.heap.size + 1) false A1 c1 l1 _ (two_blk w a (.cells #[.bool false, .slice A1 l1.length c1] 24)) (h1.rd.on (hb2 _ _)) h1.cap
  have hd1 : decide ((1 : Int) ≤ (m : Int)) = true := decide_eq_true (by omega)
  have hd2 : decide (1 ≤ m) = true := decide_eq_true (by omega)
  have hd3 : decide ((m : Int) ≤ 100) = true := decide_eq_true (by omega)
  have hd4 : decide (m ≤ 100) = true := decide_eq_true (by omega)
  have hro := fun W (hW : Below w.heap.size w W) => root_calls A1 c1 (val l1) m W (by rw [lim_val k1.canon]; exact h1.rd.on hW) (by rw [lim_val k1.canon]; exact h1.cap) (by rw [lim_val k1.canon]; exact k1.small) hm1 hm2
  rw [lim_val k1.canon] at hro
  have hsm : (lim (val l1)).length ≤ 300 := by rw [lim_val k1.canon]; exact k1.small
  have hqx := two_old w (.cells #[.bool false, .slice none 0 0] 24) (.cells #[.bool false, .slice A1 l1.length c1] 24) rfl
  go_enter Tryd.func66, Tryd.ntmps66
  go_wp2_with first
    | (go_at_call 55; refine (hf _).mono ?_; rintro e w' ⟨hp, -, hbl⟩; cases hp hok; have hb3 := (hb2 _ _).trans (hbl.mono (hb2 _ _).size); have p0 := cell_at (h1.on hb3).blk 0 _ rfl; have p1 := cell_at (h1.on hb3).blk 1 _ rfl; have p2 := cell_at (h2.on hb3).h 0 _ rfl)
    | (go_at_call 56; have hmark := m5; refine (must_ok 5 _).mono ?_; rintro e w5 ⟨rfl, rfl⟩)
    | (go_at_call 56; refine (must_ok 1 _).mono ?_; rintro e w4 ⟨rfl, rfl⟩; have m5 : True := trivial)
    | (go_at_call 67; refine (hro _ hb3).mono ?_; rintro e w6 ⟨x, hx, A6, c6, rfl, n6, r6, b6⟩; have hx6 : (lim x).length ≤ 300 := Nat.le_trans (length_mono (Nat.le_trans (le_pow_self x hm1) hx.1)) hsm; have hb6 := hb3.trans (b6.mono hb3.size); have i0 := cell_at (h1.on hb6).blk 0 _ rfl; have i1 := cell_at (h1.on hb6).blk 1 _ rfl; have i2 := cell_at (h2.on hb6).h 0 _ rfl)
    | (go_at_call 60; refine (whole_z false x hx6 A6 c6 _ r6 n6).mono ?_; rintro e w7 ⟨s7, A7, c7, l7, rfl, z7, n7, r7, b7⟩; have hb7 := hb6.trans (b7.mono hb6.size); have hq7 := ((hqx.on hbl).on b6).on b7; have z0 := cell_at hq7.h 0 _ rfl; have z1 := cell_at hq7.h 1 _ rfl; have u0 := frozen_at hq7.h 0; have u1 := frozen_at hq7.h 1)
  exact ret_cell rfl rfl rfl (set_blk (set_blk hq7.h 0 _) 1 _) ⟨s7, A7, c7, l7, rfl, z7.cast (by rw [rootN_of hm1 hx]; rfl), n7, rd_sets r7 hq7 _ _, (hb7.setCell (Nat.le_refl _) _).setCell (Nat.le_refl _) _⟩

set_option maxRecDepth 100000 in
set_option maxHeartbeats 4000000 in
theorem root1_neg (g1 g2 : Nat) (m : Nat) (A1 : Option Addr) (c1 : Nat) (l1 : List Nat) (w : World) (h1 : IntBox w g1 true A1 c1 l1) (h2 : Blk w g2 #[.int .i64 (m : Int)] 3) (k1 : IsInt true l1) (hok : okI true l1 = true) (hm1 : 1 ≤ m) (hm2 : m ≤ 100) (hpar : ((m : Int) % 2 == 1) = true) :
    Calls Tryd.prog 66 #[.pointer (some ⟨g1, 0, none⟩), .pointer (some ⟨g2, 0, none⟩)] w (RetZ (-(ceilN (val l1) m : Int)) w) := by
  have x0 := cell_at h1.blk 0 _ rfl
  have x1 := cell_at h1.blk 1 _ rfl
  have y0 := cell_at h2.h 0 _ rfl
  have t1 := (Array.getElem?_eq_some_iff.1 h1.blk).1
  have t2 := (Array.getElem?_eq_some_iff.1 h2.h).1
  have hb2 : ∀ a b, Below w.heap.size w ((w.alloc a).alloc b) := fun a b => ((Below.refl _ w).alloc (Nat.le_refl _) _).alloc (by simp) _
  have hf := fun a => formed_one (w.heap.size + 1) true A1 c1 l1 _ (two_blk w a (.cells #[.bool true, .slice A1 l1.length c1] 24)) (h1.rd.on (hb2 _ _)) h1.cap
  have hd1 : decide ((1 : Int) ≤ (m : Int)) = true := decide_eq_true (by omega)
  have hd2 : decide (1 ≤ m) = true := decide_eq_true (by omega)
  have hd3 : decide ((m : Int) ≤ 100) = true := decide_eq_true (by omega)
  have hd4 : decide (m ≤ 100) = true := decide_eq_true (by omega)
  have hro := fun W (hW : Below w.heap.size w W) => root_calls A1 c1 (val l1) m W (by rw [lim_val k1.canon]; exact h1.rd.on hW) (by rw [lim_val k1.canon]; exact h1.cap) (by rw [lim_val k1.canon]; exact k1.small) hm1 hm2
  rw [lim_val k1.canon] at hro
  have hsm : (lim (val l1)).length ≤ 300 := by rw [lim_val k1.canon]; exact k1.small
  have hqx := two_old w (.cells #[.bool false, .slice none 0 0] 24) (.cells #[.bool true, .slice A1 l1.length c1] 24) rfl
  go_enter Tryd.func66, Tryd.ntmps66
  go_wp2_with first
    | (go_at_call 55; refine (hf _).mono ?_; rintro e w' ⟨hp, -, hbl⟩; cases hp hok; have hb3 := (hb2 _ _).trans (hbl.mono (hb2 _ _).size); have p0 := cell_at (h1.on hb3).blk 0 _ rfl; have p1 := cell_at (h1.on hb3).blk 1 _ rfl; have p2 := cell_at (h2.on hb3).h 0 _ rfl)
    | (go_at_call 56; have hmark := m5; refine (must_ok 5 _).mono ?_; rintro e w5 ⟨rfl, rfl⟩)
    | (go_at_call 56; refine (must_ok 1 _).mono ?_; rintro e w4 ⟨rfl, rfl⟩; have m5 : True := trivial)
    | (go_at_call 67; refine (hro _ hb3).mono ?_; rintro e w6 ⟨x, hx, A6, c6, rfl, n6, r6, b6⟩; have hb6 := hb3.trans (b6.mono hb3.size); have i0 := cell_at (h1.on hb6).blk 0 _ rfl; have i1 := cell_at (h1.on hb6).blk 1 _ rfl; have i2 := cell_at (h2.on hb6).h 0 _ rfl; have w6a : ∀ o, (w6.alloc o).cell? ⟨g2, 0, none⟩ = some (.int .i64 (m : Int)) := (fun o => cell_at ((h2.on hb6).on ((Below.refl _ w6).alloc (Nat.le_refl _) o)).h 0 _ rfl))
  have hpl : ∀ i, i ≤ m → (lim (x ^ i)).length ≤ 300 := fun i hi => by
    rcases Nat.eq_zero_or_pos x with h | h
    · rw [h]
      rcases Nat.eq_zero_or_pos i with h' | h'
      · rw [h', Nat.pow_zero, one_word (by decide) (by decide)]; simp
      · rw [Nat.zero_pow h', lim_zero]; simp
    · exact Nat.le_trans (length_mono (Nat.le_trans (Nat.pow_le_pow_right h hi) hx.1)) hsm
  have hx6 : (lim x).length ≤ 300 := Nat.le_trans (length_mono (Nat.le_trans (le_pow_self x hm1) hx.1)) hsm
  have Hpl := Lib.hid hpl
  have hq6 := (hqx.on hbl).on b6
  have hW6 : ∀ o, Below w6.heap.size w6 (w6.alloc o) := fun o => (Below.refl _ _).alloc (Nat.le_refl _) _
  have hmul : ∀ W p A' d', Below w6.heap.size w6 W → Rd W A' (lim p) → (lim p).length ≤ d' → (lim p).length ≤ 300 → Calls Tryd.prog 68 #[.slice A' (lim p).length d', .slice A6 (lim x).length c6] W (RetNat (p * x) W) := by
    intro W p A' d' hW h1 h2 h3
    have := mul_calls A' A6 d' c6 (lim p) (lim x) W h1 (r6.on hW) h2 n6 (canon_lim _) (canon_lim _) (by omega)
    rwa [val_lim, val_lim] at this
  clear hpl hro hf x0 x1 y0 p0 p1 p2
  go_loopw [4, 32] (fun p i W => ∃ (k : Nat) (A' : Option Addr) (d' : Nat), i = .int .i64 (k : Int) ∧ k ≤ m ∧ p = .slice A' (lim (x ^ k)).length d' ∧ (lim (x ^ k)).length ≤ d' ∧ Rd W A' (lim (x ^ k)) ∧ Below w6.heap.size w6 W) (fun _ i _ => m - (intOf i).toNat)
  case atStart =>
    refine ⟨0, some ⟨w6.heap.size, 0, none⟩, 1, rfl, Nat.zero_le _, ?_, ?_, ?_, hW6 _⟩
    · rw [Nat.pow_zero, one_word (by decide) (by decide)]; rfl
    · rw [Nat.pow_zero, one_word (by decide) (by decide)]; simp
    · rw [Nat.pow_zero]; exact rd_word w6 (n := 1) (by decide) (by decide)
  case round =>
    obtain ⟨k, A', d', rfl, hk, rfl, hd', hr', hbl'⟩ := hrel
    have e0 := cell_at (h1.on (hb6.trans (hbl'.mono hb6.size))).blk 0 _ rfl
    have e1 := cell_at (h1.on (hb6.trans (hbl'.mono hb6.size))).blk 1 _ rfl
    by_cases hkm : k < m
    · have hm2' := hmul wr (x ^ k) A' d' hbl' hr' hd' (Hpl.out k (by omega))
      rw [← Nat.pow_succ] at hm2'
      obtain ⟨pk, hpk⟩ : ∃ q, x ^ k = q := ⟨_, rfl⟩
      obtain ⟨pk1, hpk1⟩ : ∃ q, x ^ (k + 1) = q := ⟨_, rfl⟩
      rw [hpk] at hm2' ⊢
      rw [hpk1] at hm2'
      have Hpk1 := Lib.hid hpk1
      clear hpk hpk1 hmul
      go_wp2_with (go_at_call 68; refine hm2'.mono ?_; rintro e w5 ⟨B2, d2, rfl, n2, r2, x2⟩)
      refine ⟨⟨k + 1, B2, d2, by simp, by omega, by rw [Hpk1.out], by rw [Hpk1.out]; exact n2, by rw [Hpk1.out]; exact r2, hbl'.trans (x2.mono hbl'.size)⟩, by simp only [intOf]; omega⟩
    · obtain rfl : k = m := by omega
      have hbw := hb6.trans (hbl'.mono hb6.size)
      have hcp := compare_calls A' A1 d' c1 (lim (x ^ k)) l1 wr hr' (h1.rd.on hbw) hd' h1.cap (canon_lim _) k1.canon
      rw [val_lim] at hcp
      have hxk := hx.1
      have hrn := rootN_of hm1 hx
      have hq8 := hq6.on hbl'
      have r6' := r6.on hbl'
      obtain ⟨pk, hpk⟩ : ∃ q, x ^ k = q := ⟨_, rfl⟩
      rw [hpk] at hcp hr' hd' hxk ⊢
      clear hmul hkm
      by_cases hlt : pk < val l1
      · rw [show cmpZ (pk : Int) (val l1 : Int) = -1 from if_pos (by omega)] at hcp
        obtain ⟨x1, hx1⟩ : ∃ x1, x + 1 = x1 := ⟨_, rfl⟩
        have hx1l : (lim x1).length ≤ 300 := Nat.le_trans (length_mono (show x1 ≤ val l1 by have := le_pow_self x hm1; rw [hpk] at this; omega)) hsm
        have hcl : -((ceilN (val l1) k : Nat) : Int) = -(x1 : Int) := by unfold ceilN; rw [hrn, if_pos (by rw [hpk]; exact hlt), hx1]
        have Hcl := Lib.hid hcl
        have Hx1 := Lib.hid hx1
        clear hcl hx1 hpk hlt hrn hx hxk
        go_wp2_with first
          | (go_at_call 69; refine hcp.mono ?_; rintro e w7 ⟨rfl, nn, rfl⟩)
          | (go_at_call 58; refine (add_one A6 c6 x x1 _ _ Hx1.out (r6'.on ((below_drewN (Below.refl _ wr) nn).alloc (Nat.le_refl _) _)) n6 (by omega) (rd_one _)).mono ?_; rintro e w8 ⟨A8, c8, rfl, n8, r8, b8⟩; have b78 := ((below_drewN (Below.refl _ wr) nn).alloc (Nat.le_refl _) (.cells #[.int .u32 1] 72)).trans (b8.mono (by simp)); have hb8 := hbw.trans (b78.mono hbw.size); have f0 := cell_at (h1.on hb8).blk 0 _ rfl; have hq9 := hq8.on b78)
          | (go_at_call 60; refine (whole_z true x1 hx1l A8 c8 _ r8 n8).mono ?_; rintro e w9 ⟨s7, A7, c7, l7, rfl, z7, n7, r7, b7⟩; have hb9 := hb8.trans (b7.mono hb8.size); have hq7 := hq9.on b7; have z0 := cell_at hq7.h 0 _ rfl; have z1 := cell_at hq7.h 1 _ rfl; have u0 := frozen_at hq7.h 0; have u1 := frozen_at hq7.h 1)
        exact ret_cell rfl rfl rfl (set_blk (set_blk hq7.h 0 _) 1 _) ⟨s7, A7, c7, l7, rfl, z7.cast (by rw [Hcl.out]; simp), n7, rd_sets r7 hq7 _ _, (hb9.setCell (Nat.le_refl _) _).setCell (Nat.le_refl _) _⟩
      · rw [show cmpZ (pk : Int) (val l1 : Int) = 0 from by unfold cmpZ; rw [if_neg (by omega), if_neg (by omega)]] at hcp
        have hcl : -((ceilN (val l1) k : Nat) : Int) = -(x : Int) := by unfold ceilN; rw [hrn, if_neg (by rw [hpk]; exact hlt)]
        have Hcl := Lib.hid hcl
        clear hcl hpk hlt hrn hx hxk
        go_wp2_with first
          | (go_at_call 69; refine hcp.mono ?_; rintro e w7 ⟨rfl, nn, rfl⟩)
          | (go_at_call 60; refine (whole_z true x hx6 A6 c6 _ (r6'.on (below_drewN (Below.refl _ wr) nn)) n6).mono ?_; rintro e w9 ⟨s7, A7, c7, l7, rfl, z7, n7, r7, b7⟩; have b79 := (below_drewN (Below.refl _ wr) nn).trans b7; have hb9 := hbw.trans (b79.mono hbw.size); have hq7 := hq8.on b79; have z0 := cell_at hq7.h 0 _ rfl; have z1 := cell_at hq7.h 1 _ rfl; have u0 := frozen_at hq7.h 0; have u1 := frozen_at hq7.h 1)
        exact ret_cell rfl rfl rfl (set_blk (set_blk hq7.h 0 _) 1 _) ⟨s7, A7, c7, l7, rfl, z7.cast (by rw [Hcl.out]; simp), n7, rd_sets r7 hq7 _ _, (hb9.setCell (Nat.le_refl _) _).setCell (Nat.le_refl _) _⟩

theorem root1_calls (g1 g2 : Nat) (n1 : Bool) (n : Int) (A1 : Option Addr) (c1 : Nat) (l1 : List Nat) (w : World) (h1 : IntBox w g1 n1 A1 c1 l1) (h2 : Blk w g2 #[.int .i64 n] 3) :
    Calls Tryd.prog 66 #[.pointer (some ⟨g1, 0, none⟩), .pointer (some ⟨g2, 0, none⟩)] w (PostZE (rootR n1 l1 n).1 (rootR n1 l1 n).2 w) := by
  unfold rootR
  by_cases hok : okI n1 l1 = true
  · rw [if_pos hok]
    have k1 := okI_isInt h1.rd.words hok
    by_cases hn : 1 ≤ n ∧ n ≤ 100
    · rw [if_pos hn]
      obtain ⟨m, rfl⟩ : ∃ m : Nat, n = (m : Int) := ⟨n.toNat, by omega⟩
      rw [Int.toNat_natCast]
      cases n1
      · rw [if_pos (by simp)]
        exact (root1_pos g1 g2 m A1 c1 l1 w h1 h2 k1 hok (by omega) (by omega)).mono fun e w' h => .ok h
      · by_cases hp : ((m : Int) % 2 == 1) = true
        · rw [if_pos (by rw [hp]; rfl)]
          exact (root1_neg g1 g2 m A1 c1 l1 w h1 h2 k1 hok (by omega) (by omega) hp).mono fun e w' h => .ok h
        · have hp' : ((m : Int) % 2 == 1) = false := by simpa using hp
          rw [if_neg (by rw [hp']; simp)]
          exact (root1_none g1 g2 m A1 c1 l1 w h1 h2 hok (by omega) (by omega) hp').mono fun e w' h => .no h (by decide)
    · rw [if_neg hn]
      exact (root1_range g1 g2 n1 n A1 c1 l1 w h1 h2 hok hn).mono fun e w' h => .no h (by decide)
  · rw [if_neg hok]
    exact (root1_bad g1 g2 n1 n A1 c1 l1 w h1 h2 (by simpa using hok)).mono fun e w' h => .no h (by decide)

set_option maxRecDepth 100000 in
set_option maxHeartbeats 4000000 in
theorem Root_calls (n1 : Bool) (n : Int) (A1 : Option Addr) (c1 : Nat) (l1 : List Nat) (w : World) (h1 : Rd w A1 l1) (hc1 : l1.length ≤ c1) :
    Calls Tryd.prog 22 #[iv n1 A1 l1.length c1, .int .i64 n] w (RetZE (rootR n1 l1 n).1 (rootR n1 l1 n).2 w) := by
  have hmf : ∀ (fn : Fn) (first cap : Array Value) (w : World), (Instr.makeFunc fn first cap).run Tryd.prog w = .ok (.func fn first cap) w := fun _ _ _ _ => rfl
  obtain ⟨W3, hW3, hb3, B1, B2, hR, hsz⟩ := boxesN w n1 n A1 c1 l1 h1 hc1 #[.bool false, .slice none 0 0] 24
  have hB4 : ∀ o o', Below W3.heap.size W3 ((W3.alloc o).alloc o') := fun o o' => ((Below.refl _ W3).alloc (Nat.le_refl _) _).alloc (by simp) _
  have ht := try_int 66 #[.pointer (some ⟨w.heap.size, 0, none⟩), .pointer (some ⟨w.heap.size + 1, 0, none⟩)] (enters_of Tryd.func66 (by kernel_rfl) rfl) W3 _ _ (root1_calls _ _ n1 n A1 c1 l1 _ (B1.on (hB4 _ _)) (B2.on (hB4 _ _))) (rootR_zero n1 l1 n)
  generalize (rootR n1 l1 n).1 = z at *
  generalize (rootR n1 l1 n).2 = er at *
  clear hsz
  go_enter Tryd.func22, Tryd.ntmps22
  go_wp2_with (go_at_call 63; refine ht.mono ?_; rintro e w' ⟨s, A, c, l, rfl, hz, hc, hr, hb⟩; have hq := hR.on hb; have z0 := cell_at hq.h 0 _ rfl; have z1 := cell_at hq.h 1 _ rfl; have u0 := frozen_at hq.h 0; have u1 := frozen_at hq.h 1)
  exact ret_cell_tmp (x := .bool s) (y := .slice A l.length c) rfl rfl rfl (set_blk (set_blk hq.h 0 _) 1 _) ⟨s, A, c, l, rfl, hz, hc, rd_sets hr hq _ _, ((hb3.trans (hb.mono hb3.size)).setCell (by dsimp only; omega) _).setCell (by dsimp only; omega) _⟩

end Nm
end Go.Proofs.YtlhmbbpkhahbeaaDoor
namespace Go.Proofs.YtlhmbbpkhahbeaaDoor
namespace Nm
open Go.RowKit Go.Shelf Go.BigFrame
attribute [local go_sem] Oper.semAt_some

set_option maxRecDepth 100000 in
set_option maxHeartbeats 2000000 in
theorem few_calls (m : Nat) (g : Nat) (xs : List IntArg) (w : World) (hx : ArgsAt w g xs) (hn : xs.length ≤ 8) :
    Calls Tryd.prog 15 #[.int .i64 (m : Int), .slice (some ⟨g, 0, none⟩) xs.length xs.length] w fun e w' => e = .returned (.bool (xs.all fun x => decide (x.l.length ≤ m))) ∧ w = w' := by
  go_enter Tryd.func15, Tryd.ntmps15
  go_wp2_with fail
  go_loop [5] (fun i => ∃ k : Nat, i = .int .i64 (k : Int) ∧ k ≤ xs.length ∧ Hid ((xs.take k).all (fun x => decide (x.l.length ≤ m)) = true)) (fun i => xs.length - (intOf i).toNat)
  case atStart => exact ⟨0, rfl, Nat.zero_le _, rfl⟩
  case round =>
    obtain ⟨k, rfl, hk, hall⟩ := hrel
    by_cases hlt : k < xs.length
    · have x1 := hx.abs k hlt
      obtain ⟨x, hxk⟩ : ∃ x, xs[k] = x := ⟨_, rfl⟩
      rw [hxk] at x1
      have hs := (hx.rd k hlt).1.small
      rw [hxk] at hs
      have Hxk := Lib.hid hxk
      clear hxk
      by_cases hok : x.l.length ≤ m
      · have hn1 : ¬ (m : Int) < (x.l.length : Int) := by omega
        go_wp2_with fail
        go_round
        case rel =>
          refine ⟨k + 1, by simp, by omega, ?_⟩
          show (xs.take (k + 1)).all _ = true
          rw [List.take_succ_eq_append_getElem hlt, List.all_append, hall.out, Hxk.out]
          simp [hok]
        case measure => simp only [intOf]; omega
      · have hn1 : (m : Int) < (x.l.length : Int) := by omega
        go_wp2_with fail
        go_ret
        refine ⟨?_, rfl⟩
        have : (xs.all fun x => decide (x.l.length ≤ m)) = false := by
          rw [List.all_eq_false]
          exact ⟨xs[k], List.getElem_mem hlt, by rw [Hxk.out]; simpa using hok⟩
        rw [this]; rfl
    · go_wp2_with fail
      go_ret
      have h := hall.out
      rw [List.take_of_length_le (by omega)] at h
      rw [h]
      exact ⟨rfl, rfl⟩

/-- integers that fit -/
structure OkZ (s : Bool) (l : List Nat) (z : Int) : Prop where
  isZ : IsZ s l z
  small : l.length ≤ 300
theorem OkZ.ok {s : Bool} {l : List Nat} {z : Int} (h : OkZ s l z) : okI s l = true := okI_of h.isZ h.small
theorem OkZ.val {s : Bool} {l : List Nat} {z : Int} (h : OkZ s l z) : toZ s l = z := h.isZ.toZ
theorem OkZ.nat {s : Bool} {l : List Nat} {z : Int} (h : OkZ s l z) : Nm.val l = z.natAbs := h.isZ.val
theorem okZ_of {s : Bool} {l : List Nat} (hw : Words l) (h : okI s l = true) : OkZ s l (toZ s l) := ⟨(okI_isInt hw h).isZ, (okI_isInt hw h).small⟩
theorem IsZ.okZ {s : Bool} {l : List Nat} {z : Int} (h : IsZ s l z) (hz : z.natAbs < 18446744073709551616) : OkZ s l z :=
  ⟨h, by rw [h.abs]; exact Nat.le_trans (length_le_of_lt (k := 2) (Nat.lt_of_lt_of_le hz (by decide))) (by decide)⟩

theorem divR_z {n1 n2 : Bool} {l1 l2 : List Nat} {z1 z2 : Int} (h1 : OkZ n1 l1 z1) (h2 : OkZ n2 l2 z2) : divR n1 l1 n2 l2 = if z2 = 0 then (0, 0, 20) else (divZ z1 z2, modZ z1 z2, 0) := by
  unfold divR
  rw [h1.ok, h2.ok, h1.val, h2.val, if_pos (by rfl)]
  by_cases h0 : z2 = 0
  · have : l2.length = 0 := by
      have := h2.isZ.abs
      rw [h0] at this
      rw [this]; exact congrArg List.length lim_zero
    rw [if_pos this, if_pos h0]
  · rw [if_neg, if_neg h0]
    have := h2.isZ.abs
    have h3 := lim_length_pos (n := z2.natAbs) (by omega)
    rw [← this] at h3
    omega
theorem powR_z {n1 : Bool} {l1 : List Nat} {z1 : Int} (h1 : OkZ n1 l1 z1) (n : Int) : powR n1 l1 n = if 0 ≤ n ∧ n ≤ 9600 then fitZ (z1 ^ n.toNat) else (0, 1) := by
  unfold powR
  rw [h1.ok, h1.val, if_pos rfl]
theorem textR_z {n1 : Bool} {l1 : List Nat} {z1 : Int} (h1 : OkZ n1 l1 z1) (n : Int) : textR n1 l1 n = if 2 ≤ n ∧ n ≤ 36 then (textL (decide (z1 < 0)) n.toNat z1.natAbs, 0) else ([], 1) := by
  unfold textR
  rw [h1.ok, h1.nat, ← h1.isZ.sgn, Bool.true_and]
  by_cases h : 2 ≤ n ∧ n ≤ 36
  · rw [if_pos h, if_pos (by rw [decide_eq_true h.1, decide_eq_true h.2]; rfl)]
  · rw [if_neg h, if_neg]
    intro hh
    rw [Bool.and_eq_true, decide_eq_true_eq, decide_eq_true_eq] at hh
    exact h hh
theorem sameI_z {n1 n2 : Bool} {l1 l2 : List Nat} {z1 z2 : Int} (h1 : IsZ n1 l1 z1) (h2 : IsZ n2 l2 z2) : sameI n1 l1 n2 l2 = decide (z1 = z2) := by
  unfold sameI
  rw [h1.sgn, h2.sgn, h1.abs, h2.abs]
  by_cases h : z1 = z2
  · subst h; simp
  · rw [decide_eq_false h]
    by_cases hs : z1 < 0 ↔ z2 < 0
    · have hne : z1.natAbs ≠ z2.natAbs := by
        intro e
        by_cases h1 : z1 < 0
        · have := hs.1 h1; omega
        · have : ¬ z2 < 0 := fun h => h1 (hs.2 h)
          omega
      have : (lim z1.natAbs == lim z2.natAbs) = false := by
        rw [beq_eq_false_iff_ne]
        intro e
        have := congrArg Nm.val e
        rw [val_lim, val_lim] at this
        exact hne this
      rw [this, Bool.and_false]
    · have : (decide (z1 < 0) == decide (z2 < 0)) = false := by
        rw [beq_eq_false_iff_ne]
        intro e
        exact hs (by simpa using e)
      rw [this, Bool.false_and]

end Nm
end Go.Proofs.YtlhmbbpkhahbeaaDoor
namespace Go.Proofs.YtlhmbbpkhahbeaaDoor
namespace Nm
open Go.RowKit Go.Shelf Go.BigFrame
attribute [local go_sem] Oper.semAt_some

theorem sane_div : divZ (-7) 2 = -4 ∧ modZ (-7) 2 = 1 := by decide
theorem sane_pow : fitZ ((2 : Int) ^ (32 : Int).toNat) = (4294967296, 0) := by
  unfold fitZ
  rw [if_pos]
  · rfl
  · exact Nat.le_trans (length_le_of_lt (k := 2) (by decide)) (by decide)
theorem sane_text : textL (decide ((255 : Int) < 0)) (16 : Int).toNat (255 : Int).natAbs = [102, 102] := by
  show textL false 16 255 = _
  unfold textL
  rw [if_neg (by decide), digs_pos (by decide) (by decide), digs_pos (by decide) (by decide), show 255 / 16 / 16 = 0 from rfl, digs_zero]
  rfl
theorem sane_parse : parR 16 (bytesN ⟨#[45, 48, 65]⟩) = (-10, 0) := by
  have h : bytesN ⟨#[45, 48, 65]⟩ = [45, 48, 65] := rfl
  rw [h]
  unfold parR
  rw [if_pos (by decide), if_pos (by decide)]
  have e : (if pneg [45, 48, 65] = true then -(parV (16 : Int).toNat (pbody [45, 48, 65]) : Int) else (parV (16 : Int).toNat (pbody [45, 48, 65]) : Int)) = -10 := by decide
  rw [e]
  unfold fitZ
  rw [if_pos]
  exact Nat.le_trans (length_le_of_lt (k := 1) (by decide)) (by decide)
theorem sane_root {s : Bool} {l : List Nat} (h : OkZ s l (-27)) : rootR s l 3 = (-3, 0) := by
  unfold rootR
  rw [h.ok, h.nat, h.isZ.sgn]
  decide
theorem sane_none {s : Bool} {l : List Nat} (h : OkZ s l (-1)) : rootR s l 2 = (0, 5) := by
  unfold rootR
  rw [h.ok, h.nat, h.isZ.sgn]
  decide

theorem two_boxes (w : World) (n1 n2 : Bool) (A1 A2 : Option Addr) (c1 c2 : Nat) (l1 l2 : List Nat) (h1 : Rd w A1 l1) (h2 : Rd w A2 l2) (hc1 : l1.length ≤ c1) (hc2 : l2.length ≤ c2) :
    Below w.heap.size w ((w.alloc (.cells #[.bool n1, .slice A1 l1.length c1] 24)).alloc (.cells #[.bool n2, .slice A2 l2.length c2] 24)) ∧
    IntBox ((w.alloc (.cells #[.bool n1, .slice A1 l1.length c1] 24)).alloc (.cells #[.bool n2, .slice A2 l2.length c2] 24)) w.heap.size n1 A1 c1 l1 ∧
    IntBox ((w.alloc (.cells #[.bool n1, .slice A1 l1.length c1] 24)).alloc (.cells #[.bool n2, .slice A2 l2.length c2] 24)) (w.heap.size + 1) n2 A2 c2 l2 :=
  ⟨two_below _ _, ⟨(two_old w _ _ rfl).h, h1.on (two_below _ _), hc1⟩, ⟨two_blk w _ _, h2.on (two_below _ _), hc2⟩⟩
theorem three_below (w : World) (n1 n2 n3 : Bool) (A1 A2 A3 : Option Addr) (c1 c2 c3 : Nat) (l1 l2 l3 : List Nat) :
    Below w.heap.size w (((w.alloc (.cells #[.bool n1, .slice A1 l1.length c1] 24)).alloc (.cells #[.bool n2, .slice A2 l2.length c2] 24)).alloc (.cells #[.bool n3, .slice A3 l3.length c3] 24)) :=
  (two_below _ _).alloc (by simp; omega) _
theorem three_box (w : World) (n1 n2 n3 : Bool) (A1 A2 A3 : Option Addr) (c1 c2 c3 : Nat) (l1 l2 l3 : List Nat) (h1 : Rd w A1 l1) (hc1 : l1.length ≤ c1) :
    IntBox (((w.alloc (.cells #[.bool n1, .slice A1 l1.length c1] 24)).alloc (.cells #[.bool n2, .slice A2 l2.length c2] 24)).alloc (.cells #[.bool n3, .slice A3 l3.length c3] 24)) w.heap.size n1 A1 c1 l1 :=
  ⟨(Below.heap_alloc _ _ _ (by simp; omega)).trans (two_old w _ _ rfl).h, h1.on (three_below ..), hc1⟩
theorem one_box (w : World) (n1 : Bool) (A1 : Option Addr) (c1 : Nat) (l1 : List Nat) (h1 : Rd w A1 l1) (hc1 : l1.length ≤ c1) :
    Below w.heap.size w (w.alloc (.cells #[.bool n1, .slice A1 l1.length c1] 24)) ∧
    IntBox (w.alloc (.cells #[.bool n1, .slice A1 l1.length c1] 24)) w.heap.size n1 A1 c1 l1 :=
  have hb : Below w.heap.size w (w.alloc (.cells #[.bool n1, .slice A1 l1.length c1] 24)) := (Below.refl _ w).alloc (Nat.le_refl _) _
  ⟨hb, ⟨World.alloc_heap_new w _, h1.on hb, hc1⟩⟩

set_option maxRecDepth 100000 in
set_option maxHeartbeats 8000000 in
theorem sane_calls (w : World) (hd0 : DigW w) :
    Calls Tryd.prog 17 #[] w fun e w' => e = .returned (.bool true) ∧ Below w.heap.size w w' := by
  go_enter Tryd.func17, Tryd.ntmps17
  go_wp2_with first
    | (go_at_call_of 22 (Value.int IntKind.i64 2); have hc := Root_calls s17 2 A17 c17 l17 w17 r17 n17; rw [sane_none k17] at hc; refine hc.mono ?_; rintro e w18 ⟨s18, A18, c18, l18, rfl, z18, n18, r18, b18⟩; clear hc; have bb18 := bb17.trans (b18.mono bb17.size); replace B3 := B3.on b18; replace B4 := B4.on b18; replace B6 := B6.on b18; replace B9 := B9.on b18; replace B14 := B14.on b18; replace B16 := B16.on b18; obtain ⟨bx, -⟩ := one_box w18 s18 A18 c18 l18 r18 n18; have by18 := bb18.trans (bx.mono bb18.size); replace B3 := B3.on bx; replace B4 := B4.on bx; replace B6 := B6.on bx; replace B9 := B9.on bx; replace B14 := B14.on bx; replace B16 := B16.on bx; clear bx z17 k17 r17 n17 b17 b18 bb17 bb18 z18 n18 r18)
    | (go_at_call 40; have hmark := by16; refine (ROf_calls (-1) _ (by decide) (by decide)).mono ?_; rintro e w17 ⟨s17, A17, c17, l17, rfl, z17, n17, r17, b17⟩; have k17 := z17.okZ (by decide); have bb17 := by16.trans (b17.mono by16.size); replace B3 := B3.on b17; replace B4 := B4.on b17; replace B6 := B6.on b17; replace B9 := B9.on b17; replace B14 := B14.on b17; replace B16 := B16.on b17)
    | (go_at_call_of 22 (Value.int IntKind.i64 3); have hc := Root_calls s15 3 A15 c15 l15 w15 r15 n15; rw [sane_root k15] at hc; refine hc.mono ?_; rintro e w16 ⟨s16, A16, c16, l16, rfl, z16, n16, r16, b16⟩; clear hc; have bb16 := bb15.trans (b16.mono bb15.size); replace B3 := B3.on b16; replace B4 := B4.on b16; replace B6 := B6.on b16; replace B9 := B9.on b16; replace B14 := B14.on b16; obtain ⟨bx, B16⟩ := one_box w16 s16 A16 c16 l16 r16 n16; have by16 := bb16.trans (bx.mono bb16.size); replace B3 := B3.on bx; replace B4 := B4.on bx; replace B6 := B6.on bx; replace B9 := B9.on bx; replace B14 := B14.on bx; clear bx z15 k15 r15 n15 b15 b16 bb15 bb16)
    | (go_at_call 40; have hmark := by14; refine (ROf_calls (-27) _ (by decide) (by decide)).mono ?_; rintro e w15 ⟨s15, A15, c15, l15, rfl, z15, n15, r15, b15⟩; have k15 := z15.okZ (by decide); have bb15 := by14.trans (b15.mono by14.size); replace B3 := B3.on b15; replace B4 := B4.on b15; replace B6 := B6.on b15; replace B9 := B9.on b15; replace B14 := B14.on b15)
    | (go_at_call 33; have hc := Parse_calls 16 ⟨#[45, 48, 65]⟩ w13 (by decide); rw [sane_parse] at hc; refine hc.mono ?_; rintro e w14 ⟨s14, A14, c14, l14, rfl, z14, n14, r14, b14⟩; clear hc; have bb14 := bb13.trans (b14.mono bb13.size); replace B3 := B3.on b14; replace B4 := B4.on b14; replace B6 := B6.on b14; replace B9 := B9.on b14; obtain ⟨bx, B14⟩ := one_box w14 s14 A14 c14 l14 r14 n14; have by14 := bb14.trans (bx.mono bb14.size); replace B3 := B3.on bx; replace B4 := B4.on bx; replace B6 := B6.on bx; replace B9 := B9.on bx; clear bx b14 bb13 bb14)
    | (go_at_call 31; have hp := textR_z k12 16; rw [if_pos (by decide), sane_text] at hp; have hc := Text_calls s12 16 A12 c12 l12 w12 r12 n12 (hd0.on bb12); rw [hp, show strB [102, 102] = ⟨#[102, 102]⟩ from rfl] at hc; refine hc.mono ?_; rintro e w13 ⟨rfl, b13⟩; clear hp hc; have bb13 := bb12.trans (b13.mono bb12.size); replace B3 := B3.on b13; replace B4 := B4.on b13; replace B6 := B6.on b13; replace B9 := B9.on b13; clear z12 k12 r12 n12 b12 b13 bb12)
    | (go_at_call 40; have hmark := by9; refine (ROf_calls (255) _ (by decide) (by decide)).mono ?_; rintro e w12 ⟨s12, A12, c12, l12, rfl, z12, n12, r12, b12⟩; have k12 := z12.okZ (by decide); have bb12 := by9.trans (b12.mono by9.size); replace B3 := B3.on b12; replace B4 := B4.on b12; replace B6 := B6.on b12; replace B9 := B9.on b12)
    | (go_at_call 26; have hc := Gcd_calls s7 s8 A7 A8 c7 c8 l7 l8 w8 r7 r8 n7 n8; rw [k7.ok, k8.ok, k7.val, k8.val] at hc; refine hc.mono ?_; rintro e w9 ⟨zg, zx, zy, er, s9, A9, c9, l9, s10, A10, c10, l10, s11, A11, c11, l11, hg, rfl, z9, z10, z11, n9, n10, n11, r9, r10, r11, b9⟩; obtain ⟨rfl, hgo⟩ := hg.1 rfl; have hg6 : zg = 6 := hgo.gcd; subst hg6; clear hg hgo hc; have bb9 := bb8.trans (b9.mono bb8.size); replace B3 := B3.on b9; replace B4 := B4.on b9; replace B6 := B6.on b9; have B9 := three_box w9 s9 s10 s11 A9 A10 A11 c9 c10 c11 l9 l10 l11 r9 n9; have bx := three_below w9 s9 s10 s11 A9 A10 A11 c9 c10 c11 l9 l10 l11; have by9 := bb9.trans (bx.mono bb9.size); replace B3 := B3.on bx; replace B4 := B4.on bx; replace B6 := B6.on bx; clear bx z7 z8 z10 z11 n10 n11 r10 r11 k7 k8 r7 r8 b7 b8 b9 bb7 bb8 bb9)
    | (go_at_call 40; have hmark := bb7; refine (ROf_calls (-18) _ (by decide) (by decide)).mono ?_; rintro e w8 ⟨s8, A8, c8, l8, rfl, z8, n8, r8, b8⟩; have k8 := z8.okZ (by decide); replace r7 := r7.on b8; have bb8 := bb7.trans (b8.mono bb7.size); replace B3 := B3.on b8; replace B4 := B4.on b8; replace B6 := B6.on b8)
    | (go_at_call 40; have hmark := by6; refine (ROf_calls (12) _ (by decide) (by decide)).mono ?_; rintro e w7 ⟨s7, A7, c7, l7, rfl, z7, n7, r7, b7⟩; have k7 := z7.okZ (by decide); have bb7 := by6.trans (b7.mono by6.size); replace B3 := B3.on b7; replace B4 := B4.on b7; replace B6 := B6.on b7)
    | (go_at_call 21; have hp := powR_z k5 32; rw [if_pos (by decide), sane_pow] at hp; have hc := Pow_calls s5 32 A5 c5 l5 w5 r5 n5; rw [hp] at hc; refine hc.mono ?_; rintro e w6 ⟨s6, A6, c6, l6, rfl, z6, n6, r6, b6⟩; clear hp hc; have bb6 := bb5.trans (b6.mono bb5.size); replace B3 := B3.on b6; replace B4 := B4.on b6; obtain ⟨bx, B6⟩ := one_box w6 s6 A6 c6 l6 r6 n6; have by6 := bb6.trans (bx.mono bb6.size); replace B3 := B3.on bx; replace B4 := B4.on bx; clear bx z5 k5 r5 b5 b6 bb5 bb6)
    | (go_at_call 40; have hmark := by3; refine (ROf_calls (2) _ (by decide) (by decide)).mono ?_; rintro e w5 ⟨s5, A5, c5, l5, rfl, z5, n5, r5, b5⟩; have k5 := z5.okZ (by decide); have bb5 := by3.trans (b5.mono by3.size); replace B3 := B3.on b5; replace B4 := B4.on b5)
    | (go_at_call 18; have hd := divR_z k1 k2; rw [if_neg (by decide), sane_div.1, sane_div.2] at hd; have hc := Div_calls s1 s2 A1 A2 c1 c2 l1 l2 w2 r1 r2 n1 n2; rw [hd] at hc; refine hc.mono ?_; rintro e w3 ⟨s3, A3, c3, l3, s4, A4, c4, l4, rfl, z3, z4, n3, n4, r3, r4, b3⟩; clear hd hc; have bb3 := bb2.trans (b3.mono bb2.size); obtain ⟨bx, B3, B4⟩ := two_boxes w3 s3 s4 A3 A4 c3 c4 l3 l4 r3 r4 n3 n4; have by3 := bb3.trans (bx.mono bb3.size); clear bx z1 z2 k1 k2 r1 r2 b1 b2 b3 bb1 bb2)
    | (go_at_call 40; have hmark := bb1; refine (ROf_calls (2) _ (by decide) (by decide)).mono ?_; rintro e w2 ⟨s2, A2, c2, l2, rfl, z2, n2, r2, b2⟩; have k2 := z2.okZ (by decide); replace r1 := r1.on b2; have bb2 := bb1.trans (b2.mono bb1.size))
    | (go_at_call 40; refine (ROf_calls (-7) _ (by decide) (by decide)).mono ?_; rintro e w1 ⟨s1, A1, c1, l1, rfl, z1, n1, r1, b1⟩; have k1 := z1.okZ (by decide); have bb1 := b1)
  generalize w3.heap.size = g3 at *
  generalize w6.heap.size = g6 at *
  generalize w9.heap.size = g9 at *
  generalize w14.heap.size = g14 at *
  generalize w16.heap.size = g16 at *
  obtain ⟨W, hW⟩ : ∃ W, w18.alloc (.cells #[.bool s18, .slice A18 l18.length c18] 24) = W := ⟨_, rfl⟩
  rw [hW] at B3 B4 B6 B9 B14 B16 by18 ⊢
  clear hW
  have y3a : W.cell? ⟨g3, 0, none⟩ = some (.bool s3) := cell_at B3.blk 0 _ rfl
  have y3b : W.cell? ⟨g3, 1, none⟩ = some (.slice A3 l3.length c3) := cell_at B3.blk 1 _ rfl
  have y4a : W.cell? ⟨g3 + 1, 0, none⟩ = some (.bool s4) := cell_at B4.blk 0 _ rfl
  have y4b : W.cell? ⟨g3 + 1, 1, none⟩ = some (.slice A4 l4.length c4) := cell_at B4.blk 1 _ rfl
  have y6a : W.cell? ⟨g6, 0, none⟩ = some (.bool s6) := cell_at B6.blk 0 _ rfl
  have y6b : W.cell? ⟨g6, 1, none⟩ = some (.slice A6 l6.length c6) := cell_at B6.blk 1 _ rfl
  have y9a : W.cell? ⟨g9, 0, none⟩ = some (.bool s9) := cell_at B9.blk 0 _ rfl
  have y9b : W.cell? ⟨g9, 1, none⟩ = some (.slice A9 l9.length c9) := cell_at B9.blk 1 _ rfl
  have y14a : W.cell? ⟨g14, 0, none⟩ = some (.bool s14) := cell_at B14.blk 0 _ rfl
  have y14b : W.cell? ⟨g14, 1, none⟩ = some (.slice A14 l14.length c14) := cell_at B14.blk 1 _ rfl
  have y16a : W.cell? ⟨g16, 0, none⟩ = some (.bool s16) := cell_at B16.blk 0 _ rfl
  have y16b : W.cell? ⟨g16, 1, none⟩ = some (.slice A16 l16.length c16) := cell_at B16.blk 1 _ rfl
  go_region_held3 (fun w'' => w''.cell? ⟨g3, 0, none⟩ = some (.bool s3) ∧ w''.cell? ⟨g3, 1, none⟩ = some (.slice A3 l3.length c3) ∧ w''.cell? ⟨g3 + 1, 0, none⟩ = some (.bool s4) ∧ w''.cell? ⟨g3 + 1, 1, none⟩ = some (.slice A4 l4.length c4) ∧ w''.cell? ⟨g6, 0, none⟩ = some (.bool s6) ∧ w''.cell? ⟨g6, 1, none⟩ = some (.slice A6 l6.length c6) ∧ w''.cell? ⟨g9, 0, none⟩ = some (.bool s9) ∧ w''.cell? ⟨g9, 1, none⟩ = some (.slice A9 l9.length c9) ∧ w''.cell? ⟨g14, 0, none⟩ = some (.bool s14) ∧ w''.cell? ⟨g14, 1, none⟩ = some (.slice A14 l14.length c14) ∧ w''.cell? ⟨g16, 0, none⟩ = some (.bool s16) ∧ w''.cell? ⟨g16, 1, none⟩ = some (.slice A16 l16.length c16)) ((first | (with_reducible exact ⟨y3a, y3b, y4a, y4b, y6a, y6b, y9a, y9b, y14a, y14b, y16a, y16b⟩) | exact ⟨y3a, y3b, y4a, y4b, y6a, y6b, y9a, y9b, y14a, y14b, y16a, y16b⟩))
    ((first
      | (go_at_call 20; have hmark := q33; have hc := Same_calls s32 s33 A32 A33 c32 c33 l32 l33 w33 r32 r33 n32 n33; rw [sameI_z z32 z33, show decide ((-5 : Int) = -5) = true from by decide] at hc; refine hc.mono ?_; rintro e w34 ⟨rfl, b34⟩; clear hc; clear y3a y3b y4a y4b y6a y6b y9a y9b y14a y14b y16a y16b; have q34 := q33.trans (b34.mono q33.size); have y3a : w34.cell? ⟨g3, 0, none⟩ = some (.bool s3) := cell_at (B3.on q34).blk 0 _ rfl; have y3b : w34.cell? ⟨g3, 1, none⟩ = some (.slice A3 l3.length c3) := cell_at (B3.on q34).blk 1 _ rfl; have y4a : w34.cell? ⟨g3 + 1, 0, none⟩ = some (.bool s4) := cell_at (B4.on q34).blk 0 _ rfl; have y4b : w34.cell? ⟨g3 + 1, 1, none⟩ = some (.slice A4 l4.length c4) := cell_at (B4.on q34).blk 1 _ rfl; have y6a : w34.cell? ⟨g6, 0, none⟩ = some (.bool s6) := cell_at (B6.on q34).blk 0 _ rfl; have y6b : w34.cell? ⟨g6, 1, none⟩ = some (.slice A6 l6.length c6) := cell_at (B6.on q34).blk 1 _ rfl; have y9a : w34.cell? ⟨g9, 0, none⟩ = some (.bool s9) := cell_at (B9.on q34).blk 0 _ rfl; have y9b : w34.cell? ⟨g9, 1, none⟩ = some (.slice A9 l9.length c9) := cell_at (B9.on q34).blk 1 _ rfl; have y14a : w34.cell? ⟨g14, 0, none⟩ = some (.bool s14) := cell_at (B14.on q34).blk 0 _ rfl; have y14b : w34.cell? ⟨g14, 1, none⟩ = some (.slice A14 l14.length c14) := cell_at (B14.on q34).blk 1 _ rfl; have y16a : w34.cell? ⟨g16, 0, none⟩ = some (.bool s16) := cell_at (B16.on q34).blk 0 _ rfl; have y16b : w34.cell? ⟨g16, 1, none⟩ = some (.slice A16 l16.length c16) := cell_at (B16.on q34).blk 1 _ rfl)
      | (go_at_call 40; have hmark := q32; refine (ROf_calls (-5) _ (by decide) (by decide)).mono ?_; rintro e w33 ⟨s33, A33, c33, l33, rfl, z33, n33, r33, b33⟩; clear y3a y3b y4a y4b y6a y6b y9a y9b y14a y14b y16a y16b; have q33 := q32.trans (b33.mono q32.size); replace r32 := r32.on b33; have y3a : w33.cell? ⟨g3, 0, none⟩ = some (.bool s3) := cell_at (B3.on q33).blk 0 _ rfl; have y3b : w33.cell? ⟨g3, 1, none⟩ = some (.slice A3 l3.length c3) := cell_at (B3.on q33).blk 1 _ rfl; have y4a : w33.cell? ⟨g3 + 1, 0, none⟩ = some (.bool s4) := cell_at (B4.on q33).blk 0 _ rfl; have y4b : w33.cell? ⟨g3 + 1, 1, none⟩ = some (.slice A4 l4.length c4) := cell_at (B4.on q33).blk 1 _ rfl; have y6a : w33.cell? ⟨g6, 0, none⟩ = some (.bool s6) := cell_at (B6.on q33).blk 0 _ rfl; have y6b : w33.cell? ⟨g6, 1, none⟩ = some (.slice A6 l6.length c6) := cell_at (B6.on q33).blk 1 _ rfl; have y9a : w33.cell? ⟨g9, 0, none⟩ = some (.bool s9) := cell_at (B9.on q33).blk 0 _ rfl; have y9b : w33.cell? ⟨g9, 1, none⟩ = some (.slice A9 l9.length c9) := cell_at (B9.on q33).blk 1 _ rfl; have y14a : w33.cell? ⟨g14, 0, none⟩ = some (.bool s14) := cell_at (B14.on q33).blk 0 _ rfl; have y14b : w33.cell? ⟨g14, 1, none⟩ = some (.slice A14 l14.length c14) := cell_at (B14.on q33).blk 1 _ rfl; have y16a : w33.cell? ⟨g16, 0, none⟩ = some (.bool s16) := cell_at (B16.on q33).blk 0 _ rfl; have y16b : w33.cell? ⟨g16, 1, none⟩ = some (.slice A16 l16.length c16) := cell_at (B16.on q33).blk 1 _ rfl)
      | (go_at_call 52; have hmark := q31; refine (Of_calls (-5) _ (by decide) (by decide)).mono ?_; rintro e w32 ⟨s32, A32, c32, l32, rfl, z32, n32, r32, b32⟩; clear y3a y3b y4a y4b y6a y6b y9a y9b y14a y14b y16a y16b; have q32 := q31.trans (b32.mono q31.size); have y3a : w32.cell? ⟨g3, 0, none⟩ = some (.bool s3) := cell_at (B3.on q32).blk 0 _ rfl; have y3b : w32.cell? ⟨g3, 1, none⟩ = some (.slice A3 l3.length c3) := cell_at (B3.on q32).blk 1 _ rfl; have y4a : w32.cell? ⟨g3 + 1, 0, none⟩ = some (.bool s4) := cell_at (B4.on q32).blk 0 _ rfl; have y4b : w32.cell? ⟨g3 + 1, 1, none⟩ = some (.slice A4 l4.length c4) := cell_at (B4.on q32).blk 1 _ rfl; have y6a : w32.cell? ⟨g6, 0, none⟩ = some (.bool s6) := cell_at (B6.on q32).blk 0 _ rfl; have y6b : w32.cell? ⟨g6, 1, none⟩ = some (.slice A6 l6.length c6) := cell_at (B6.on q32).blk 1 _ rfl; have y9a : w32.cell? ⟨g9, 0, none⟩ = some (.bool s9) := cell_at (B9.on q32).blk 0 _ rfl; have y9b : w32.cell? ⟨g9, 1, none⟩ = some (.slice A9 l9.length c9) := cell_at (B9.on q32).blk 1 _ rfl; have y14a : w32.cell? ⟨g14, 0, none⟩ = some (.bool s14) := cell_at (B14.on q32).blk 0 _ rfl; have y14b : w32.cell? ⟨g14, 1, none⟩ = some (.slice A14 l14.length c14) := cell_at (B14.on q32).blk 1 _ rfl; have y16a : w32.cell? ⟨g16, 0, none⟩ = some (.bool s16) := cell_at (B16.on q32).blk 0 _ rfl; have y16b : w32.cell? ⟨g16, 1, none⟩ = some (.slice A16 l16.length c16) := cell_at (B16.on q32).blk 1 _ rfl)
      | (go_at_call 20; have hmark := q30; have hc := Same_calls s16 s30 A16 A30 c16 c30 l16 l30 w30 (B16.rd.on q30) r30 B16.cap n30; rw [sameI_z z16 z30, show decide ((-3 : Int) = -3) = true from by decide] at hc; refine hc.mono ?_; rintro e w31 ⟨rfl, b31⟩; clear hc z30 n30 r30; clear y3a y3b y4a y4b y6a y6b y9a y9b y14a y14b y16a y16b; have q31 := q30.trans (b31.mono q30.size); have y3a : w31.cell? ⟨g3, 0, none⟩ = some (.bool s3) := cell_at (B3.on q31).blk 0 _ rfl; have y3b : w31.cell? ⟨g3, 1, none⟩ = some (.slice A3 l3.length c3) := cell_at (B3.on q31).blk 1 _ rfl; have y4a : w31.cell? ⟨g3 + 1, 0, none⟩ = some (.bool s4) := cell_at (B4.on q31).blk 0 _ rfl; have y4b : w31.cell? ⟨g3 + 1, 1, none⟩ = some (.slice A4 l4.length c4) := cell_at (B4.on q31).blk 1 _ rfl; have y6a : w31.cell? ⟨g6, 0, none⟩ = some (.bool s6) := cell_at (B6.on q31).blk 0 _ rfl; have y6b : w31.cell? ⟨g6, 1, none⟩ = some (.slice A6 l6.length c6) := cell_at (B6.on q31).blk 1 _ rfl; have y9a : w31.cell? ⟨g9, 0, none⟩ = some (.bool s9) := cell_at (B9.on q31).blk 0 _ rfl; have y9b : w31.cell? ⟨g9, 1, none⟩ = some (.slice A9 l9.length c9) := cell_at (B9.on q31).blk 1 _ rfl; have y14a : w31.cell? ⟨g14, 0, none⟩ = some (.bool s14) := cell_at (B14.on q31).blk 0 _ rfl; have y14b : w31.cell? ⟨g14, 1, none⟩ = some (.slice A14 l14.length c14) := cell_at (B14.on q31).blk 1 _ rfl; have y16a : w31.cell? ⟨g16, 0, none⟩ = some (.bool s16) := cell_at (B16.on q31).blk 0 _ rfl; have y16b : w31.cell? ⟨g16, 1, none⟩ = some (.slice A16 l16.length c16) := cell_at (B16.on q31).blk 1 _ rfl)
      | (go_at_call 40; have hmark := q29; refine (ROf_calls (-3) _ (by decide) (by decide)).mono ?_; rintro e w30 ⟨s30, A30, c30, l30, rfl, z30, n30, r30, b30⟩; clear y3a y3b y4a y4b y6a y6b y9a y9b y14a y14b y16a y16b; have q30 := q29.trans (b30.mono q29.size); have y3a : w30.cell? ⟨g3, 0, none⟩ = some (.bool s3) := cell_at (B3.on q30).blk 0 _ rfl; have y3b : w30.cell? ⟨g3, 1, none⟩ = some (.slice A3 l3.length c3) := cell_at (B3.on q30).blk 1 _ rfl; have y4a : w30.cell? ⟨g3 + 1, 0, none⟩ = some (.bool s4) := cell_at (B4.on q30).blk 0 _ rfl; have y4b : w30.cell? ⟨g3 + 1, 1, none⟩ = some (.slice A4 l4.length c4) := cell_at (B4.on q30).blk 1 _ rfl; have y6a : w30.cell? ⟨g6, 0, none⟩ = some (.bool s6) := cell_at (B6.on q30).blk 0 _ rfl; have y6b : w30.cell? ⟨g6, 1, none⟩ = some (.slice A6 l6.length c6) := cell_at (B6.on q30).blk 1 _ rfl; have y9a : w30.cell? ⟨g9, 0, none⟩ = some (.bool s9) := cell_at (B9.on q30).blk 0 _ rfl; have y9b : w30.cell? ⟨g9, 1, none⟩ = some (.slice A9 l9.length c9) := cell_at (B9.on q30).blk 1 _ rfl; have y14a : w30.cell? ⟨g14, 0, none⟩ = some (.bool s14) := cell_at (B14.on q30).blk 0 _ rfl; have y14b : w30.cell? ⟨g14, 1, none⟩ = some (.slice A14 l14.length c14) := cell_at (B14.on q30).blk 1 _ rfl; have y16a : w30.cell? ⟨g16, 0, none⟩ = some (.bool s16) := cell_at (B16.on q30).blk 0 _ rfl; have y16b : w30.cell? ⟨g16, 1, none⟩ = some (.slice A16 l16.length c16) := cell_at (B16.on q30).blk 1 _ rfl)
      | (go_at_call 20; have hmark := q28; have hc := Same_calls s14 s28 A14 A28 c14 c28 l14 l28 w28 (B14.rd.on q28) r28 B14.cap n28; rw [sameI_z z14 z28, show decide ((-10 : Int) = -10) = true from by decide] at hc; refine hc.mono ?_; rintro e w29 ⟨rfl, b29⟩; clear hc z28 n28 r28; clear y3a y3b y4a y4b y6a y6b y9a y9b y14a y14b y16a y16b; have q29 := q28.trans (b29.mono q28.size); have y3a : w29.cell? ⟨g3, 0, none⟩ = some (.bool s3) := cell_at (B3.on q29).blk 0 _ rfl; have y3b : w29.cell? ⟨g3, 1, none⟩ = some (.slice A3 l3.length c3) := cell_at (B3.on q29).blk 1 _ rfl; have y4a : w29.cell? ⟨g3 + 1, 0, none⟩ = some (.bool s4) := cell_at (B4.on q29).blk 0 _ rfl; have y4b : w29.cell? ⟨g3 + 1, 1, none⟩ = some (.slice A4 l4.length c4) := cell_at (B4.on q29).blk 1 _ rfl; have y6a : w29.cell? ⟨g6, 0, none⟩ = some (.bool s6) := cell_at (B6.on q29).blk 0 _ rfl; have y6b : w29.cell? ⟨g6, 1, none⟩ = some (.slice A6 l6.length c6) := cell_at (B6.on q29).blk 1 _ rfl; have y9a : w29.cell? ⟨g9, 0, none⟩ = some (.bool s9) := cell_at (B9.on q29).blk 0 _ rfl; have y9b : w29.cell? ⟨g9, 1, none⟩ = some (.slice A9 l9.length c9) := cell_at (B9.on q29).blk 1 _ rfl; have y14a : w29.cell? ⟨g14, 0, none⟩ = some (.bool s14) := cell_at (B14.on q29).blk 0 _ rfl; have y14b : w29.cell? ⟨g14, 1, none⟩ = some (.slice A14 l14.length c14) := cell_at (B14.on q29).blk 1 _ rfl; have y16a : w29.cell? ⟨g16, 0, none⟩ = some (.bool s16) := cell_at (B16.on q29).blk 0 _ rfl; have y16b : w29.cell? ⟨g16, 1, none⟩ = some (.slice A16 l16.length c16) := cell_at (B16.on q29).blk 1 _ rfl)
      | (go_at_call 40; have hmark := q27; refine (ROf_calls (-10) _ (by decide) (by decide)).mono ?_; rintro e w28 ⟨s28, A28, c28, l28, rfl, z28, n28, r28, b28⟩; clear y3a y3b y4a y4b y6a y6b y9a y9b y14a y14b y16a y16b; have q28 := q27.trans (b28.mono q27.size); have y3a : w28.cell? ⟨g3, 0, none⟩ = some (.bool s3) := cell_at (B3.on q28).blk 0 _ rfl; have y3b : w28.cell? ⟨g3, 1, none⟩ = some (.slice A3 l3.length c3) := cell_at (B3.on q28).blk 1 _ rfl; have y4a : w28.cell? ⟨g3 + 1, 0, none⟩ = some (.bool s4) := cell_at (B4.on q28).blk 0 _ rfl; have y4b : w28.cell? ⟨g3 + 1, 1, none⟩ = some (.slice A4 l4.length c4) := cell_at (B4.on q28).blk 1 _ rfl; have y6a : w28.cell? ⟨g6, 0, none⟩ = some (.bool s6) := cell_at (B6.on q28).blk 0 _ rfl; have y6b : w28.cell? ⟨g6, 1, none⟩ = some (.slice A6 l6.length c6) := cell_at (B6.on q28).blk 1 _ rfl; have y9a : w28.cell? ⟨g9, 0, none⟩ = some (.bool s9) := cell_at (B9.on q28).blk 0 _ rfl; have y9b : w28.cell? ⟨g9, 1, none⟩ = some (.slice A9 l9.length c9) := cell_at (B9.on q28).blk 1 _ rfl; have y14a : w28.cell? ⟨g14, 0, none⟩ = some (.bool s14) := cell_at (B14.on q28).blk 0 _ rfl; have y14b : w28.cell? ⟨g14, 1, none⟩ = some (.slice A14 l14.length c14) := cell_at (B14.on q28).blk 1 _ rfl; have y16a : w28.cell? ⟨g16, 0, none⟩ = some (.bool s16) := cell_at (B16.on q28).blk 0 _ rfl; have y16b : w28.cell? ⟨g16, 1, none⟩ = some (.slice A16 l16.length c16) := cell_at (B16.on q28).blk 1 _ rfl)
      | (go_at_call 20; have hmark := q26; have hc := Same_calls s9 s26 A9 A26 c9 c26 l9 l26 w26 (B9.rd.on q26) r26 B9.cap n26; rw [sameI_z z9 z26, show decide ((6 : Int) = 6) = true from by decide] at hc; refine hc.mono ?_; rintro e w27 ⟨rfl, b27⟩; clear hc z26 n26 r26; clear y3a y3b y4a y4b y6a y6b y9a y9b y14a y14b y16a y16b; have q27 := q26.trans (b27.mono q26.size); have y3a : w27.cell? ⟨g3, 0, none⟩ = some (.bool s3) := cell_at (B3.on q27).blk 0 _ rfl; have y3b : w27.cell? ⟨g3, 1, none⟩ = some (.slice A3 l3.length c3) := cell_at (B3.on q27).blk 1 _ rfl; have y4a : w27.cell? ⟨g3 + 1, 0, none⟩ = some (.bool s4) := cell_at (B4.on q27).blk 0 _ rfl; have y4b : w27.cell? ⟨g3 + 1, 1, none⟩ = some (.slice A4 l4.length c4) := cell_at (B4.on q27).blk 1 _ rfl; have y6a : w27.cell? ⟨g6, 0, none⟩ = some (.bool s6) := cell_at (B6.on q27).blk 0 _ rfl; have y6b : w27.cell? ⟨g6, 1, none⟩ = some (.slice A6 l6.length c6) := cell_at (B6.on q27).blk 1 _ rfl; have y9a : w27.cell? ⟨g9, 0, none⟩ = some (.bool s9) := cell_at (B9.on q27).blk 0 _ rfl; have y9b : w27.cell? ⟨g9, 1, none⟩ = some (.slice A9 l9.length c9) := cell_at (B9.on q27).blk 1 _ rfl; have y14a : w27.cell? ⟨g14, 0, none⟩ = some (.bool s14) := cell_at (B14.on q27).blk 0 _ rfl; have y14b : w27.cell? ⟨g14, 1, none⟩ = some (.slice A14 l14.length c14) := cell_at (B14.on q27).blk 1 _ rfl; have y16a : w27.cell? ⟨g16, 0, none⟩ = some (.bool s16) := cell_at (B16.on q27).blk 0 _ rfl; have y16b : w27.cell? ⟨g16, 1, none⟩ = some (.slice A16 l16.length c16) := cell_at (B16.on q27).blk 1 _ rfl)
      | (go_at_call 40; have hmark := q25; refine (ROf_calls (6) _ (by decide) (by decide)).mono ?_; rintro e w26 ⟨s26, A26, c26, l26, rfl, z26, n26, r26, b26⟩; clear y3a y3b y4a y4b y6a y6b y9a y9b y14a y14b y16a y16b; have q26 := q25.trans (b26.mono q25.size); have y3a : w26.cell? ⟨g3, 0, none⟩ = some (.bool s3) := cell_at (B3.on q26).blk 0 _ rfl; have y3b : w26.cell? ⟨g3, 1, none⟩ = some (.slice A3 l3.length c3) := cell_at (B3.on q26).blk 1 _ rfl; have y4a : w26.cell? ⟨g3 + 1, 0, none⟩ = some (.bool s4) := cell_at (B4.on q26).blk 0 _ rfl; have y4b : w26.cell? ⟨g3 + 1, 1, none⟩ = some (.slice A4 l4.length c4) := cell_at (B4.on q26).blk 1 _ rfl; have y6a : w26.cell? ⟨g6, 0, none⟩ = some (.bool s6) := cell_at (B6.on q26).blk 0 _ rfl; have y6b : w26.cell? ⟨g6, 1, none⟩ = some (.slice A6 l6.length c6) := cell_at (B6.on q26).blk 1 _ rfl; have y9a : w26.cell? ⟨g9, 0, none⟩ = some (.bool s9) := cell_at (B9.on q26).blk 0 _ rfl; have y9b : w26.cell? ⟨g9, 1, none⟩ = some (.slice A9 l9.length c9) := cell_at (B9.on q26).blk 1 _ rfl; have y14a : w26.cell? ⟨g14, 0, none⟩ = some (.bool s14) := cell_at (B14.on q26).blk 0 _ rfl; have y14b : w26.cell? ⟨g14, 1, none⟩ = some (.slice A14 l14.length c14) := cell_at (B14.on q26).blk 1 _ rfl; have y16a : w26.cell? ⟨g16, 0, none⟩ = some (.bool s16) := cell_at (B16.on q26).blk 0 _ rfl; have y16b : w26.cell? ⟨g16, 1, none⟩ = some (.slice A16 l16.length c16) := cell_at (B16.on q26).blk 1 _ rfl)
      | (go_at_call 20; have hmark := q24; have hc := Same_calls s6 s24 A6 A24 c6 c24 l6 l24 w24 (B6.rd.on q24) r24 B6.cap n24; rw [sameI_z z6 z24, show decide ((4294967296 : Int) = 4294967296) = true from by decide] at hc; refine hc.mono ?_; rintro e w25 ⟨rfl, b25⟩; clear hc z24 n24 r24; clear y3a y3b y4a y4b y6a y6b y9a y9b y14a y14b y16a y16b; have q25 := q24.trans (b25.mono q24.size); have y3a : w25.cell? ⟨g3, 0, none⟩ = some (.bool s3) := cell_at (B3.on q25).blk 0 _ rfl; have y3b : w25.cell? ⟨g3, 1, none⟩ = some (.slice A3 l3.length c3) := cell_at (B3.on q25).blk 1 _ rfl; have y4a : w25.cell? ⟨g3 + 1, 0, none⟩ = some (.bool s4) := cell_at (B4.on q25).blk 0 _ rfl; have y4b : w25.cell? ⟨g3 + 1, 1, none⟩ = some (.slice A4 l4.length c4) := cell_at (B4.on q25).blk 1 _ rfl; have y6a : w25.cell? ⟨g6, 0, none⟩ = some (.bool s6) := cell_at (B6.on q25).blk 0 _ rfl; have y6b : w25.cell? ⟨g6, 1, none⟩ = some (.slice A6 l6.length c6) := cell_at (B6.on q25).blk 1 _ rfl; have y9a : w25.cell? ⟨g9, 0, none⟩ = some (.bool s9) := cell_at (B9.on q25).blk 0 _ rfl; have y9b : w25.cell? ⟨g9, 1, none⟩ = some (.slice A9 l9.length c9) := cell_at (B9.on q25).blk 1 _ rfl; have y14a : w25.cell? ⟨g14, 0, none⟩ = some (.bool s14) := cell_at (B14.on q25).blk 0 _ rfl; have y14b : w25.cell? ⟨g14, 1, none⟩ = some (.slice A14 l14.length c14) := cell_at (B14.on q25).blk 1 _ rfl; have y16a : w25.cell? ⟨g16, 0, none⟩ = some (.bool s16) := cell_at (B16.on q25).blk 0 _ rfl; have y16b : w25.cell? ⟨g16, 1, none⟩ = some (.slice A16 l16.length c16) := cell_at (B16.on q25).blk 1 _ rfl)
      | (go_at_call 40; have hmark := q23; refine (ROf_calls (4294967296) _ (by decide) (by decide)).mono ?_; rintro e w24 ⟨s24, A24, c24, l24, rfl, z24, n24, r24, b24⟩; clear y3a y3b y4a y4b y6a y6b y9a y9b y14a y14b y16a y16b; have q24 := q23.trans (b24.mono q23.size); have y3a : w24.cell? ⟨g3, 0, none⟩ = some (.bool s3) := cell_at (B3.on q24).blk 0 _ rfl; have y3b : w24.cell? ⟨g3, 1, none⟩ = some (.slice A3 l3.length c3) := cell_at (B3.on q24).blk 1 _ rfl; have y4a : w24.cell? ⟨g3 + 1, 0, none⟩ = some (.bool s4) := cell_at (B4.on q24).blk 0 _ rfl; have y4b : w24.cell? ⟨g3 + 1, 1, none⟩ = some (.slice A4 l4.length c4) := cell_at (B4.on q24).blk 1 _ rfl; have y6a : w24.cell? ⟨g6, 0, none⟩ = some (.bool s6) := cell_at (B6.on q24).blk 0 _ rfl; have y6b : w24.cell? ⟨g6, 1, none⟩ = some (.slice A6 l6.length c6) := cell_at (B6.on q24).blk 1 _ rfl; have y9a : w24.cell? ⟨g9, 0, none⟩ = some (.bool s9) := cell_at (B9.on q24).blk 0 _ rfl; have y9b : w24.cell? ⟨g9, 1, none⟩ = some (.slice A9 l9.length c9) := cell_at (B9.on q24).blk 1 _ rfl; have y14a : w24.cell? ⟨g14, 0, none⟩ = some (.bool s14) := cell_at (B14.on q24).blk 0 _ rfl; have y14b : w24.cell? ⟨g14, 1, none⟩ = some (.slice A14 l14.length c14) := cell_at (B14.on q24).blk 1 _ rfl; have y16a : w24.cell? ⟨g16, 0, none⟩ = some (.bool s16) := cell_at (B16.on q24).blk 0 _ rfl; have y16b : w24.cell? ⟨g16, 1, none⟩ = some (.slice A16 l16.length c16) := cell_at (B16.on q24).blk 1 _ rfl)
      | (go_at_call 20; have hmark := q22; have hc := Same_calls s4 s22 A4 A22 c4 c22 l4 l22 w22 (B4.rd.on q22) r22 B4.cap n22; rw [sameI_z z4 z22, show decide ((1 : Int) = 1) = true from by decide] at hc; refine hc.mono ?_; rintro e w23 ⟨rfl, b23⟩; clear hc z22 n22 r22; clear y3a y3b y4a y4b y6a y6b y9a y9b y14a y14b y16a y16b; have q23 := q22.trans (b23.mono q22.size); have y3a : w23.cell? ⟨g3, 0, none⟩ = some (.bool s3) := cell_at (B3.on q23).blk 0 _ rfl; have y3b : w23.cell? ⟨g3, 1, none⟩ = some (.slice A3 l3.length c3) := cell_at (B3.on q23).blk 1 _ rfl; have y4a : w23.cell? ⟨g3 + 1, 0, none⟩ = some (.bool s4) := cell_at (B4.on q23).blk 0 _ rfl; have y4b : w23.cell? ⟨g3 + 1, 1, none⟩ = some (.slice A4 l4.length c4) := cell_at (B4.on q23).blk 1 _ rfl; have y6a : w23.cell? ⟨g6, 0, none⟩ = some (.bool s6) := cell_at (B6.on q23).blk 0 _ rfl; have y6b : w23.cell? ⟨g6, 1, none⟩ = some (.slice A6 l6.length c6) := cell_at (B6.on q23).blk 1 _ rfl; have y9a : w23.cell? ⟨g9, 0, none⟩ = some (.bool s9) := cell_at (B9.on q23).blk 0 _ rfl; have y9b : w23.cell? ⟨g9, 1, none⟩ = some (.slice A9 l9.length c9) := cell_at (B9.on q23).blk 1 _ rfl; have y14a : w23.cell? ⟨g14, 0, none⟩ = some (.bool s14) := cell_at (B14.on q23).blk 0 _ rfl; have y14b : w23.cell? ⟨g14, 1, none⟩ = some (.slice A14 l14.length c14) := cell_at (B14.on q23).blk 1 _ rfl; have y16a : w23.cell? ⟨g16, 0, none⟩ = some (.bool s16) := cell_at (B16.on q23).blk 0 _ rfl; have y16b : w23.cell? ⟨g16, 1, none⟩ = some (.slice A16 l16.length c16) := cell_at (B16.on q23).blk 1 _ rfl)
      | (go_at_call 40; have hmark := q21; refine (ROf_calls (1) _ (by decide) (by decide)).mono ?_; rintro e w22 ⟨s22, A22, c22, l22, rfl, z22, n22, r22, b22⟩; clear y3a y3b y4a y4b y6a y6b y9a y9b y14a y14b y16a y16b; have q22 := q21.trans (b22.mono q21.size); have y3a : w22.cell? ⟨g3, 0, none⟩ = some (.bool s3) := cell_at (B3.on q22).blk 0 _ rfl; have y3b : w22.cell? ⟨g3, 1, none⟩ = some (.slice A3 l3.length c3) := cell_at (B3.on q22).blk 1 _ rfl; have y4a : w22.cell? ⟨g3 + 1, 0, none⟩ = some (.bool s4) := cell_at (B4.on q22).blk 0 _ rfl; have y4b : w22.cell? ⟨g3 + 1, 1, none⟩ = some (.slice A4 l4.length c4) := cell_at (B4.on q22).blk 1 _ rfl; have y6a : w22.cell? ⟨g6, 0, none⟩ = some (.bool s6) := cell_at (B6.on q22).blk 0 _ rfl; have y6b : w22.cell? ⟨g6, 1, none⟩ = some (.slice A6 l6.length c6) := cell_at (B6.on q22).blk 1 _ rfl; have y9a : w22.cell? ⟨g9, 0, none⟩ = some (.bool s9) := cell_at (B9.on q22).blk 0 _ rfl; have y9b : w22.cell? ⟨g9, 1, none⟩ = some (.slice A9 l9.length c9) := cell_at (B9.on q22).blk 1 _ rfl; have y14a : w22.cell? ⟨g14, 0, none⟩ = some (.bool s14) := cell_at (B14.on q22).blk 0 _ rfl; have y14b : w22.cell? ⟨g14, 1, none⟩ = some (.slice A14 l14.length c14) := cell_at (B14.on q22).blk 1 _ rfl; have y16a : w22.cell? ⟨g16, 0, none⟩ = some (.bool s16) := cell_at (B16.on q22).blk 0 _ rfl; have y16b : w22.cell? ⟨g16, 1, none⟩ = some (.slice A16 l16.length c16) := cell_at (B16.on q22).blk 1 _ rfl)
      | (go_at_call 20; have hmark := q20; have hc := Same_calls s3 s20 A3 A20 c3 c20 l3 l20 w20 (B3.rd.on q20) r20 B3.cap n20; rw [sameI_z z3 z20, show decide ((-4 : Int) = -4) = true from by decide] at hc; refine hc.mono ?_; rintro e w21 ⟨rfl, b21⟩; clear hc z20 n20 r20; clear y3a y3b y4a y4b y6a y6b y9a y9b y14a y14b y16a y16b; have q21 := q20.trans (b21.mono q20.size); have y3a : w21.cell? ⟨g3, 0, none⟩ = some (.bool s3) := cell_at (B3.on q21).blk 0 _ rfl; have y3b : w21.cell? ⟨g3, 1, none⟩ = some (.slice A3 l3.length c3) := cell_at (B3.on q21).blk 1 _ rfl; have y4a : w21.cell? ⟨g3 + 1, 0, none⟩ = some (.bool s4) := cell_at (B4.on q21).blk 0 _ rfl; have y4b : w21.cell? ⟨g3 + 1, 1, none⟩ = some (.slice A4 l4.length c4) := cell_at (B4.on q21).blk 1 _ rfl; have y6a : w21.cell? ⟨g6, 0, none⟩ = some (.bool s6) := cell_at (B6.on q21).blk 0 _ rfl; have y6b : w21.cell? ⟨g6, 1, none⟩ = some (.slice A6 l6.length c6) := cell_at (B6.on q21).blk 1 _ rfl; have y9a : w21.cell? ⟨g9, 0, none⟩ = some (.bool s9) := cell_at (B9.on q21).blk 0 _ rfl; have y9b : w21.cell? ⟨g9, 1, none⟩ = some (.slice A9 l9.length c9) := cell_at (B9.on q21).blk 1 _ rfl; have y14a : w21.cell? ⟨g14, 0, none⟩ = some (.bool s14) := cell_at (B14.on q21).blk 0 _ rfl; have y14b : w21.cell? ⟨g14, 1, none⟩ = some (.slice A14 l14.length c14) := cell_at (B14.on q21).blk 1 _ rfl; have y16a : w21.cell? ⟨g16, 0, none⟩ = some (.bool s16) := cell_at (B16.on q21).blk 0 _ rfl; have y16b : w21.cell? ⟨g16, 1, none⟩ = some (.slice A16 l16.length c16) := cell_at (B16.on q21).blk 1 _ rfl)
      | (go_at_call 40; refine (ROf_calls (-4) _ (by decide) (by decide)).mono ?_; rintro e w20 ⟨s20, A20, c20, l20, rfl, z20, n20, r20, b20⟩; clear y3a y3b y4a y4b y6a y6b y9a y9b y14a y14b y16a y16b; have q20 := (below_drew (Below.refl _ W)).trans b20; have y3a : w20.cell? ⟨g3, 0, none⟩ = some (.bool s3) := cell_at (B3.on q20).blk 0 _ rfl; have y3b : w20.cell? ⟨g3, 1, none⟩ = some (.slice A3 l3.length c3) := cell_at (B3.on q20).blk 1 _ rfl; have y4a : w20.cell? ⟨g3 + 1, 0, none⟩ = some (.bool s4) := cell_at (B4.on q20).blk 0 _ rfl; have y4b : w20.cell? ⟨g3 + 1, 1, none⟩ = some (.slice A4 l4.length c4) := cell_at (B4.on q20).blk 1 _ rfl; have y6a : w20.cell? ⟨g6, 0, none⟩ = some (.bool s6) := cell_at (B6.on q20).blk 0 _ rfl; have y6b : w20.cell? ⟨g6, 1, none⟩ = some (.slice A6 l6.length c6) := cell_at (B6.on q20).blk 1 _ rfl; have y9a : w20.cell? ⟨g9, 0, none⟩ = some (.bool s9) := cell_at (B9.on q20).blk 0 _ rfl; have y9b : w20.cell? ⟨g9, 1, none⟩ = some (.slice A9 l9.length c9) := cell_at (B9.on q20).blk 1 _ rfl; have y14a : w20.cell? ⟨g14, 0, none⟩ = some (.bool s14) := cell_at (B14.on q20).blk 0 _ rfl; have y14b : w20.cell? ⟨g14, 1, none⟩ = some (.slice A14 l14.length c14) := cell_at (B14.on q20).blk 1 _ rfl; have y16a : w20.cell? ⟨g16, 0, none⟩ = some (.bool s16) := cell_at (B16.on q20).blk 0 _ rfl; have y16b : w20.cell? ⟨g16, 1, none⟩ = some (.slice A16 l16.length c16) := cell_at (B16.on q20).blk 1 _ rfl)))
  go_wp2_with fail
  go_ret
  exact ⟨rfl, by18.trans (q34.mono by18.size)⟩

end Nm
end Go.Proofs.YtlhmbbpkhahbeaaDoor
namespace Go.Proofs.YtlhmbbpkhahbeaaDoor
namespace Nm
open Go.RowKit Go.Shelf Go.BigFrame
attribute [local go_sem] Oper.semAt_some

theorem few_two (m : Nat) (g : Nat) (n1 n2 : Bool) (A1 A2 : Option Addr) (c1 c2 : Nat) (l1 l2 : List Nat) (w : World) (hg : w.heap[g]? = some (.cells #[.bool n1, .slice A1 l1.length c1, .bool n2, .slice A2 l2.length c2] 24 (0, 0))) (h1 : Rd w A1 l1) (h2 : Rd w A2 l2) (hc1 : l1.length ≤ c1) (hc2 : l2.length ≤ c2) (b : Bool) (hb : (decide (l1.length ≤ m) && decide (l2.length ≤ m)) = b) :
    Calls Tryd.prog 15 #[.int .i64 (m : Int), .slice (some ⟨g, 0, none⟩) 2 2] w fun e w' => e = .returned (.bool b) ∧ w = w' := by
  have := few_calls m g [⟨n1, A1, c1, l1⟩, ⟨n2, A2, c2, l2⟩] w ⟨?_, ?_, ?_⟩ (by simp)
  · simpa [hb] using this
  · intro k hk
    rcases (show k = 0 ∨ k = 1 by simp at hk; omega) with rfl | rfl
    · exact cell_at hg 0 _ rfl
    · exact cell_at hg 2 _ rfl
  · intro k hk
    rcases (show k = 0 ∨ k = 1 by simp at hk; omega) with rfl | rfl
    · exact cell_at hg 1 _ rfl
    · exact cell_at hg 3 _ rfl
  · intro k hk
    rcases (show k = 0 ∨ k = 1 by simp at hk; omega) with rfl | rfl
    · exact ⟨h1, hc1⟩
    · exact ⟨h2, hc2⟩

theorem Formed_is (n : Bool) (A : Option Addr) (c : Nat) (l : List Nat) (w : World) (hA : Rd w A l) (hc : l.length ≤ c) (b : Bool) (hb : okI n l = b) :
    Calls Tryd.prog 16 #[iv n A l.length c] w fun e w' => e = .returned (.bool b) ∧ Below w.heap.size w w' := by
  subst hb
  exact Formed_calls n A c l w hA hc

/-- a block with the two arguments -/
theorem args_blk (w : World) (n1 n2 : Bool) (A1 A2 : Option Addr) (c1 c2 : Nat) (l1 l2 : List Nat) : (w.alloc (.cells #[.bool n1, .slice A1 l1.length c1, .bool n2, .slice A2 l2.length c2] 24)).heap[w.heap.size]? = some (.cells #[.bool n1, .slice A1 l1.length c1, .bool n2, .slice A2 l2.length c2] 24 (0, 0)) := World.alloc_heap_new w _

set_option maxRecDepth 100000 in
set_option maxHeartbeats 8000000 in
theorem NumDivides_calls (n1 n2 : Bool) (A1 A2 : Option Addr) (c1 c2 : Nat) (l1 l2 : List Nat) (w : World) (h1 : Rd w A1 l1) (h2 : Rd w A2 l2) (hc1 : l1.length ≤ c1) (hc2 : l2.length ≤ c2) (hd : DigW w) :
    Calls Tryd.prog 3 #[iv n1 A1 l1.length c1, iv n2 A2 l2.length c2] w fun e w' => e = .returned (.bool true) ∧ Below w.heap.size w w' := by
  obtain ⟨hbw, B1, B2⟩ := two_boxes w n1 n2 A1 A2 c1 c2 l1 l2 h1 h2 hc1 hc2
  obtain ⟨W, hW⟩ : ∃ W, (w.alloc (.cells #[.bool n1, .slice A1 l1.length c1] 24)).alloc (.cells #[.bool n2, .slice A2 l2.length c2] 24) = W := ⟨_, rfl⟩
  rw [hW] at hbw B1 B2
  have hsz : w.heap.size + 1 < W.heap.size := by rw [← hW]; simp
  have hsz0 : w.heap.size < W.heap.size := by omega
  have x0 := cell_at B1.blk 0 _ rfl
  have x1 := cell_at B1.blk 1 _ rfl
  have x2 := cell_at B2.blk 0 _ rfl
  have x3 := cell_at B2.blk 1 _ rfl
  have hal : ∀ o, Below W.heap.size W (W.alloc o) := fun o => (Below.refl _ W).alloc (Nat.le_refl _) _
  have hal2 : ∀ o o', Below W.heap.size W ((W.alloc o).alloc o') := fun o o' => two_below _ _
  obtain ⟨b310, h310⟩ : ∃ b, (decide (l1.length ≤ 310) && decide (l2.length ≤ 310)) = b := ⟨_, rfl⟩
  obtain ⟨b100, h100⟩ : ∃ b, (decide (l1.length ≤ 100) && decide (l2.length ≤ 100)) = b := ⟨_, rfl⟩
  obtain ⟨o1, ho1⟩ : ∃ b, okI n1 l1 = b := ⟨_, rfl⟩
  obtain ⟨o2, ho2⟩ : ∃ b, okI n2 l2 = b := ⟨_, rfl⟩
  have f310 := few_two 310 W.heap.size n1 n2 A1 A2 c1 c2 l1 l2 _ (args_blk W n1 n2 A1 A2 c1 c2 l1 l2) (B1.rd.on (hal _)) (B2.rd.on (hal _)) hc1 hc2 _ h310
  have f100 := few_two 100 (W.heap.size + 1) n1 n2 A1 A2 c1 c2 l1 l2 _ (two_blk W (.cells #[.bool n1, .slice A1 l1.length c1, .bool n2, .slice A2 l2.length c2] 24) (.cells #[.bool n1, .slice A1 l1.length c1, .bool n2, .slice A2 l2.length c2] 24)) (B1.rd.on (hal2 _ _)) (B2.rd.on (hal2 _ _)) hc1 hc2 _ h100
  have F1 := fun W' (h : Below W.heap.size W W') => Formed_is n1 A1 c1 l1 W' (B1.rd.on h) hc1 _ ho1
  have F2 := fun W' (h : Below W.heap.size W W') => Formed_is n2 A2 c2 l2 W' (B2.rd.on h) hc2 _ ho2
  have hdv := fun W' (h : Below W.heap.size W W') => Div_calls n1 n2 A1 A2 c1 c2 l1 l2 W' (B1.rd.on h) (B2.rd.on h) hc1 hc2
  have hrd := fun W' (h : Below W.heap.size W W') => RDiv_calls n1 n2 A1 A2 c1 c2 l1 l2 W' (B1.rd.on h) (B2.rd.on h) hc1 hc2
  have hdW := hd.on hbw
  generalize (divR n1 l1 n2 l2).1 = q at *
  generalize (divR n1 l1 n2 l2).2.1 = r at *
  generalize (divR n1 l1 n2 l2).2.2 = er at *
  clear h310 h100 ho1 ho2
  cases b310
  · go_enter Tryd.func3, Tryd.ntmps3
    go_wp2_with first
      | (go_at_call 17; refine (sane_calls _ (hdW.on bm)).mono ?_; rintro e w9 ⟨rfl, b9⟩)
      | (go_at_call 15; refine f310.mono ?_; rintro e w4 ⟨rfl, rfl⟩; have bm := hal (.cells #[.bool n1, .slice A1 l1.length c1, .bool n2, .slice A2 l2.length c2] 24))
    go_ret
    exact ⟨rfl, (hbw.trans (bm.mono hbw.size)).trans (b9.mono (hbw.trans (bm.mono hbw.size)).size)⟩
  · cases b100
    · cases o1
      · go_enter Tryd.func3, Tryd.ntmps3
        go_wp2_with first
          | (go_at_call 20; have hmark := b13; have hc := Same_calls s4 s6 A4 A6 c4 c6 l4 l6 w13 ((r4.on q12).on b13) ((r6.on p12).on b13) n4 n6; rw [sameI_z z4 z6, show decide (r = r) = true from by simp] at hc; refine hc.mono ?_; rintro e w14 ⟨rfl, b14⟩)
          | (go_at_call 20; have hmark := b12; have hc := Same_calls s3 s5 A3 A5 c3 c5 l3 l5 w12 (r3.on q12) (r5.on p12) n3 n5; rw [sameI_z z3 z5, show decide (q = q) = true from by simp] at hc; refine hc.mono ?_; rintro e w13 ⟨rfl, b13⟩; clear hc; have j4 := cell_at (B4.on b13).blk 0 _ rfl; have j5 := cell_at (B4.on b13).blk 1 _ rfl; have j6 := cell_at (B8.on b13).h 2 _ rfl; have j7 := cell_at (B8.on b13).h 3 _ rfl)
          | (go_at_call 17; have hmark := b11; have bz := (Below.refl w11.heap.size w11).alloc (Nat.le_refl _) (.cells #[.bool s5, .slice A5 l5.length c5, .bool s6, .slice A6 l6.length c6, .int .i64 er] 34); have by2 := by1.trans ((b11.trans (bz.mono b11.size)).mono by1.size); refine (sane_calls _ (hdW.on by2)).mono ?_; rintro e w12 ⟨rfl, b12⟩; have B8 : Blk w12 w11.heap.size #[.bool s5, .slice A5 l5.length c5, .bool s6, .slice A6 l6.length c6, .int .i64 er] 34 := (⟨World.alloc_heap_new w11 _⟩ : Blk _ _ _ _).on b12; have p12 := bz.trans (b12.mono bz.size); have p11 := b11.trans (p12.mono b11.size); replace B3 := B3.on p11; replace B4 := B4.on p11; have q12 := bx.trans (p11.mono bx.size); have i4 := cell_at B3.blk 0 _ rfl; have i5 := cell_at B3.blk 1 _ rfl; have e0 := cell_at B8.h 0 _ rfl; have e1 := cell_at B8.h 1 _ rfl; have e2 := cell_at B8.h 2 _ rfl; have e3 := cell_at B8.h 3 _ rfl; have e4 := cell_at B8.h 4 _ rfl)
          | (go_at_call 19; refine (hrd _ by1).mono ?_; rintro e w11 ⟨s5, A5, c5, l5, s6, A6, c6, l6, rfl, z5, z6, n5, n6, r5, r6, b11⟩)
          | (go_at_call 18; refine (hdv _ bm).mono ?_; rintro e w10 ⟨s3, A3, c3, l3, s4, A4, c4, l4, rfl, z3, z4, n3, n4, r3, r4, b10⟩; obtain ⟨bx, B3, B4⟩ := two_boxes w10 s3 s4 A3 A4 c3 c4 l3 l4 r3 r4 n3 n4; have by1 := (bm.trans (b10.mono bm.size)).trans (bx.mono (bm.trans (b10.mono bm.size)).size); have i0 := cell_at (B1.on by1).blk 0 _ rfl; have i1 := cell_at (B1.on by1).blk 1 _ rfl; have i2 := cell_at (B2.on by1).blk 0 _ rfl; have i3 := cell_at (B2.on by1).blk 1 _ rfl)
          | (go_at_call 16; refine (F1 _ bm).mono ?_; rintro e w6 ⟨rfl, b6⟩; replace bm := bm.trans (b6.mono bm.size); have m1 : True := trivial; have k0 := cell_at (B1.on bm).blk 0 _ rfl; have k1 := cell_at (B1.on bm).blk 1 _ rfl; have k2 := cell_at (B2.on bm).blk 0 _ rfl; have k3 := cell_at (B2.on bm).blk 1 _ rfl)
          | (go_at_call 15; have hmark := bm; refine f100.mono ?_; rintro e w5 ⟨rfl, rfl⟩; replace bm := hal2 (.cells #[.bool n1, .slice A1 l1.length c1, .bool n2, .slice A2 l2.length c2] 24) (.cells #[.bool n1, .slice A1 l1.length c1, .bool n2, .slice A2 l2.length c2] 24); have k0 := cell_at (B1.on bm).blk 0 _ rfl; have k1 := cell_at (B1.on bm).blk 1 _ rfl; have k2 := cell_at (B2.on bm).blk 0 _ rfl; have k3 := cell_at (B2.on bm).blk 1 _ rfl)
          | (go_at_call 15; refine f310.mono ?_; rintro e w4 ⟨rfl, rfl⟩; have bm := hal (.cells #[.bool n1, .slice A1 l1.length c1, .bool n2, .slice A2 l2.length c2] 24))
        go_ret
        have hf := hbw.trans (by2.mono hbw.size)
        have hf12 := hf.trans (b12.mono hf.size)
        have hf13 := hf12.trans (b13.mono hf12.size)
        exact ⟨rfl, hf13.trans (b14.mono hf13.size)⟩
      · cases o2
        · go_enter Tryd.func3, Tryd.ntmps3
          go_wp2_with first
            | (go_at_call 20; have hmark := b13; have hc := Same_calls s4 s6 A4 A6 c4 c6 l4 l6 w13 ((r4.on q12).on b13) ((r6.on p12).on b13) n4 n6; rw [sameI_z z4 z6, show decide (r = r) = true from by simp] at hc; refine hc.mono ?_; rintro e w14 ⟨rfl, b14⟩)
            | (go_at_call 20; have hmark := b12; have hc := Same_calls s3 s5 A3 A5 c3 c5 l3 l5 w12 (r3.on q12) (r5.on p12) n3 n5; rw [sameI_z z3 z5, show decide (q = q) = true from by simp] at hc; refine hc.mono ?_; rintro e w13 ⟨rfl, b13⟩; clear hc; have j4 := cell_at (B4.on b13).blk 0 _ rfl; have j5 := cell_at (B4.on b13).blk 1 _ rfl; have j6 := cell_at (B8.on b13).h 2 _ rfl; have j7 := cell_at (B8.on b13).h 3 _ rfl)
            | (go_at_call 17; have hmark := b11; have bz := (Below.refl w11.heap.size w11).alloc (Nat.le_refl _) (.cells #[.bool s5, .slice A5 l5.length c5, .bool s6, .slice A6 l6.length c6, .int .i64 er] 34); have by2 := by1.trans ((b11.trans (bz.mono b11.size)).mono by1.size); refine (sane_calls _ (hdW.on by2)).mono ?_; rintro e w12 ⟨rfl, b12⟩; have B8 : Blk w12 w11.heap.size #[.bool s5, .slice A5 l5.length c5, .bool s6, .slice A6 l6.length c6, .int .i64 er] 34 := (⟨World.alloc_heap_new w11 _⟩ : Blk _ _ _ _).on b12; have p12 := bz.trans (b12.mono bz.size); have p11 := b11.trans (p12.mono b11.size); replace B3 := B3.on p11; replace B4 := B4.on p11; have q12 := bx.trans (p11.mono bx.size); have i4 := cell_at B3.blk 0 _ rfl; have i5 := cell_at B3.blk 1 _ rfl; have e0 := cell_at B8.h 0 _ rfl; have e1 := cell_at B8.h 1 _ rfl; have e2 := cell_at B8.h 2 _ rfl; have e3 := cell_at B8.h 3 _ rfl; have e4 := cell_at B8.h 4 _ rfl)
            | (go_at_call 19; refine (hrd _ by1).mono ?_; rintro e w11 ⟨s5, A5, c5, l5, s6, A6, c6, l6, rfl, z5, z6, n5, n6, r5, r6, b11⟩)
            | (go_at_call 18; refine (hdv _ bm).mono ?_; rintro e w10 ⟨s3, A3, c3, l3, s4, A4, c4, l4, rfl, z3, z4, n3, n4, r3, r4, b10⟩; obtain ⟨bx, B3, B4⟩ := two_boxes w10 s3 s4 A3 A4 c3 c4 l3 l4 r3 r4 n3 n4; have by1 := (bm.trans (b10.mono bm.size)).trans (bx.mono (bm.trans (b10.mono bm.size)).size); have i0 := cell_at (B1.on by1).blk 0 _ rfl; have i1 := cell_at (B1.on by1).blk 1 _ rfl; have i2 := cell_at (B2.on by1).blk 0 _ rfl; have i3 := cell_at (B2.on by1).blk 1 _ rfl)
            | (go_at_call 16; have hmark := m1; refine (F2 _ bm).mono ?_; rintro e w7 ⟨rfl, b7⟩; replace bm := bm.trans (b7.mono bm.size); have k0 := cell_at (B1.on bm).blk 0 _ rfl; have k1 := cell_at (B1.on bm).blk 1 _ rfl; have k2 := cell_at (B2.on bm).blk 0 _ rfl; have k3 := cell_at (B2.on bm).blk 1 _ rfl)
            | (go_at_call 16; refine (F1 _ bm).mono ?_; rintro e w6 ⟨rfl, b6⟩; replace bm := bm.trans (b6.mono bm.size); have m1 : True := trivial; have k0 := cell_at (B1.on bm).blk 0 _ rfl; have k1 := cell_at (B1.on bm).blk 1 _ rfl; have k2 := cell_at (B2.on bm).blk 0 _ rfl; have k3 := cell_at (B2.on bm).blk 1 _ rfl)
            | (go_at_call 15; have hmark := bm; refine f100.mono ?_; rintro e w5 ⟨rfl, rfl⟩; replace bm := hal2 (.cells #[.bool n1, .slice A1 l1.length c1, .bool n2, .slice A2 l2.length c2] 24) (.cells #[.bool n1, .slice A1 l1.length c1, .bool n2, .slice A2 l2.length c2] 24); have k0 := cell_at (B1.on bm).blk 0 _ rfl; have k1 := cell_at (B1.on bm).blk 1 _ rfl; have k2 := cell_at (B2.on bm).blk 0 _ rfl; have k3 := cell_at (B2.on bm).blk 1 _ rfl)
            | (go_at_call 15; refine f310.mono ?_; rintro e w4 ⟨rfl, rfl⟩; have bm := hal (.cells #[.bool n1, .slice A1 l1.length c1, .bool n2, .slice A2 l2.length c2] 24))
          go_ret
          have hf := hbw.trans (by2.mono hbw.size)
          have hf12 := hf.trans (b12.mono hf.size)
          have hf13 := hf12.trans (b13.mono hf12.size)
          exact ⟨rfl, hf13.trans (b14.mono hf13.size)⟩
        · go_enter Tryd.func3, Tryd.ntmps3
          go_wp2_with first
            | (go_at_call 17; refine (sane_calls _ (hdW.on bm)).mono ?_; rintro e w9 ⟨rfl, b9⟩)
            | (go_at_call 16; have hmark := m1; refine (F2 _ bm).mono ?_; rintro e w7 ⟨rfl, b7⟩; replace bm := bm.trans (b7.mono bm.size); have k0 := cell_at (B1.on bm).blk 0 _ rfl; have k1 := cell_at (B1.on bm).blk 1 _ rfl; have k2 := cell_at (B2.on bm).blk 0 _ rfl; have k3 := cell_at (B2.on bm).blk 1 _ rfl)
            | (go_at_call 16; refine (F1 _ bm).mono ?_; rintro e w6 ⟨rfl, b6⟩; replace bm := bm.trans (b6.mono bm.size); have m1 : True := trivial; have k0 := cell_at (B1.on bm).blk 0 _ rfl; have k1 := cell_at (B1.on bm).blk 1 _ rfl; have k2 := cell_at (B2.on bm).blk 0 _ rfl; have k3 := cell_at (B2.on bm).blk 1 _ rfl)
            | (go_at_call 15; have hmark := bm; refine f100.mono ?_; rintro e w5 ⟨rfl, rfl⟩; replace bm := hal2 (.cells #[.bool n1, .slice A1 l1.length c1, .bool n2, .slice A2 l2.length c2] 24) (.cells #[.bool n1, .slice A1 l1.length c1, .bool n2, .slice A2 l2.length c2] 24); have k0 := cell_at (B1.on bm).blk 0 _ rfl; have k1 := cell_at (B1.on bm).blk 1 _ rfl; have k2 := cell_at (B2.on bm).blk 0 _ rfl; have k3 := cell_at (B2.on bm).blk 1 _ rfl)
            | (go_at_call 15; refine f310.mono ?_; rintro e w4 ⟨rfl, rfl⟩; have bm := hal (.cells #[.bool n1, .slice A1 l1.length c1, .bool n2, .slice A2 l2.length c2] 24))
          go_ret
          exact ⟨rfl, (hbw.trans (bm.mono hbw.size)).trans (b9.mono (hbw.trans (bm.mono hbw.size)).size)⟩
    · go_enter Tryd.func3, Tryd.ntmps3
      go_wp2_with first
        | (go_at_call 20; have hmark := b13; have hc := Same_calls s4 s6 A4 A6 c4 c6 l4 l6 w13 ((r4.on q12).on b13) ((r6.on p12).on b13) n4 n6; rw [sameI_z z4 z6, show decide (r = r) = true from by simp] at hc; refine hc.mono ?_; rintro e w14 ⟨rfl, b14⟩)
        | (go_at_call 20; have hmark := b12; have hc := Same_calls s3 s5 A3 A5 c3 c5 l3 l5 w12 (r3.on q12) (r5.on p12) n3 n5; rw [sameI_z z3 z5, show decide (q = q) = true from by simp] at hc; refine hc.mono ?_; rintro e w13 ⟨rfl, b13⟩; clear hc; have j4 := cell_at (B4.on b13).blk 0 _ rfl; have j5 := cell_at (B4.on b13).blk 1 _ rfl; have j6 := cell_at (B8.on b13).h 2 _ rfl; have j7 := cell_at (B8.on b13).h 3 _ rfl)
        | (go_at_call 17; have hmark := b11; have bz := (Below.refl w11.heap.size w11).alloc (Nat.le_refl _) (.cells #[.bool s5, .slice A5 l5.length c5, .bool s6, .slice A6 l6.length c6, .int .i64 er] 34); have by2 := by1.trans ((b11.trans (bz.mono b11.size)).mono by1.size); refine (sane_calls _ (hdW.on by2)).mono ?_; rintro e w12 ⟨rfl, b12⟩; have B8 : Blk w12 w11.heap.size #[.bool s5, .slice A5 l5.length c5, .bool s6, .slice A6 l6.length c6, .int .i64 er] 34 := (⟨World.alloc_heap_new w11 _⟩ : Blk _ _ _ _).on b12; have p12 := bz.trans (b12.mono bz.size); have p11 := b11.trans (p12.mono b11.size); replace B3 := B3.on p11; replace B4 := B4.on p11; have q12 := bx.trans (p11.mono bx.size); have i4 := cell_at B3.blk 0 _ rfl; have i5 := cell_at B3.blk 1 _ rfl; have e0 := cell_at B8.h 0 _ rfl; have e1 := cell_at B8.h 1 _ rfl; have e2 := cell_at B8.h 2 _ rfl; have e3 := cell_at B8.h 3 _ rfl; have e4 := cell_at B8.h 4 _ rfl)
        | (go_at_call 19; refine (hrd _ by1).mono ?_; rintro e w11 ⟨s5, A5, c5, l5, s6, A6, c6, l6, rfl, z5, z6, n5, n6, r5, r6, b11⟩)
        | (go_at_call 18; refine (hdv _ bm).mono ?_; rintro e w10 ⟨s3, A3, c3, l3, s4, A4, c4, l4, rfl, z3, z4, n3, n4, r3, r4, b10⟩; obtain ⟨bx, B3, B4⟩ := two_boxes w10 s3 s4 A3 A4 c3 c4 l3 l4 r3 r4 n3 n4; have by1 := (bm.trans (b10.mono bm.size)).trans (bx.mono (bm.trans (b10.mono bm.size)).size); have i0 := cell_at (B1.on by1).blk 0 _ rfl; have i1 := cell_at (B1.on by1).blk 1 _ rfl; have i2 := cell_at (B2.on by1).blk 0 _ rfl; have i3 := cell_at (B2.on by1).blk 1 _ rfl)
        | (go_at_call 15; have hmark := bm; refine f100.mono ?_; rintro e w5 ⟨rfl, rfl⟩; replace bm := hal2 (.cells #[.bool n1, .slice A1 l1.length c1, .bool n2, .slice A2 l2.length c2] 24) (.cells #[.bool n1, .slice A1 l1.length c1, .bool n2, .slice A2 l2.length c2] 24); have k0 := cell_at (B1.on bm).blk 0 _ rfl; have k1 := cell_at (B1.on bm).blk 1 _ rfl; have k2 := cell_at (B2.on bm).blk 0 _ rfl; have k3 := cell_at (B2.on bm).blk 1 _ rfl)
        | (go_at_call 15; refine f310.mono ?_; rintro e w4 ⟨rfl, rfl⟩; have bm := hal (.cells #[.bool n1, .slice A1 l1.length c1, .bool n2, .slice A2 l2.length c2] 24))
      go_ret
      have hf := hbw.trans (by2.mono hbw.size)
      have hf12 := hf.trans (b12.mono hf.size)
      have hf13 := hf12.trans (b13.mono hf12.size)
      exact ⟨rfl, hf13.trans (b14.mono hf13.size)⟩

end Nm
end Go.Proofs.YtlhmbbpkhahbeaaDoor
namespace Go.Proofs.YtlhmbbpkhahbeaaDoor
namespace Nm
open Go.ChangeShapes Go.WideShapes Go.ChangeAt Go.WideMaps Go.WideElems Go.RowKit

theorem own : ownKnob Tryd.prog.godebug = none := by kernel_rfl
theorem laidOut : laidOutB Tryd.prog = true := by kernel_rfl
theorem gDigits : Tryd.prog.globalNamed "zermelo/num.digits" = some 0 := by kernel_rfl
theorem tDigits : (Tryd.prog.globals[0]?).map (·.type) = some 109 := by kernel_rfl
theorem uDigits : Tryd.prog.underlying 109 = some (.array 36 5) := by kernel_rfl
theorem uByte : Tryd.prog.underlying 5 = some (.int .u8) := by kernel_rfl

abbrev laidL : List (String × DataW Unit) := [("zermelo/num.digits", Rows.laid_zermelo_num_digits)]
def tabZ : List Int := [48, 49, 50, 51, 52, 53, 54, 55, 56, 57, 97, 98, 99, 100, 101, 102, 103, 104, 105, 106, 107, 108, 109, 110, 111, 112, 113, 114, 115, 116, 117, 118, 119, 120, 121, 122]
theorem laid_tab : laidL = [("zermelo/num.digits", Lib.tabData .u8 tabZ)] := rfl

theorem door_met (os : Os) (args : Array Value) : laidMetH Tryd.prog laidL ((World.doorLaid Tryd.prog 14 os).forCall (fun _ _ => 0) ⟨#[], args, []⟩).memory :=
  laidMetH_of_parts3 (fuel := 8) (laidMet_of_run' 8 (by kernel_rfl) (by kernel_rfl)) (by kernel_rfl) (by kernel_rfl)

theorem dig_of_laid {W : World} (h : laidMetH Tryd.prog laidL W) : DigW W := by
  rw [MakeChecks.laidMetH_plain _ _ _ (by kernel_rfl), laid_tab] at h
  have hT := Lib.tabIs_of_head gDigits tDigits uDigits uByte (by kernel_rfl) (by kernel_rfl) h
  intro i hi
  have hc := hT.cell gDigits i hi
  have e : ∀ i : Fin 36, tabZ.getD i.val 0 = ((chr i.val : Nat) : Int) := by decide
  rw [hc, e ⟨i, hi⟩]

theorem uInt : ∃ f0 f1 : Field, Tryd.prog.underlying 24 = some (.struct #[f0, f1]) ∧ f0.type = 4 ∧ f0.offset = 0 ∧ f1.type = 22 ∧ f1.offset = 1 := ⟨_, _, Tryd.underlying24, rfl, rfl, rfl, rfl⟩
theorem uBool : Tryd.prog.underlying 4 = some .bool := by kernel_rfl
theorem uWord : Tryd.prog.underlying 72 = some (.int .u32) := by kernel_rfl
theorem cInt : Tryd.prog.cellsOf 24 = 2 := by kernel_rfl
theorem cBool : Tryd.prog.cellsOf 4 = 1 := by kernel_rfl
theorem cWord : Tryd.prog.cellsOf 72 = 1 := by kernel_rfl
theorem cWords : Tryd.prog.cellsOf 22 = 1 := by kernel_rfl

set_option maxRecDepth 100000 in
/-- an integer that came in: a sign and limbs -/
theorem open_intZ {H : Type} {enc : TypeId × Value → H} {W : World} {base : Nat} {v : Value} {d : DataW H} {p : List MemPlace} (hv : Value.okWide Tryd.prog W .any base 24 v) (h : DataW.Trod enc Tryd.prog W 0 (fun _ => true) true 24 v d p) (hwt : ∀ n ∈ d.weights Tryd.prog 24, n ≤ reachBytes) :
    ∃ n A c l, v = iv n A l.length c ∧ Rd W A l ∧ l.length ≤ c := by
  obtain ⟨f0, f1, hu, ht0, ho0, ht1, ho1⟩ := uInt
  obtain ⟨cs, rfl, hsz, -⟩ : ∃ cs, v = .agg cs ∧ cs.size = Tryd.prog.cellsOf 24 ∧ _ := by
    unfold Value.okWide at hv
    rw [hu] at hv
    exact hv
  rw [cInt] at hsz
  obtain ⟨fuel, hd⟩ := h
  obtain ⟨y0, y1, m, hx, -, h0, h1⟩ := trod_struct2 hu hd
  rw [ht0, ho0, cBool] at h0
  rw [ht1, ho1, cWords] at h1
  have hl : cs.toList.length = 2 := by rw [Array.length_toList]; exact hsz
  obtain ⟨c0, c1, hcs⟩ : ∃ c0 c1, cs.toList = [c0, c1] := by
    match hh : cs.toList, hl with
    | [c0, c1], _ => exact ⟨c0, c1, rfl⟩
  obtain rfl : cs = #[c0, c1] := by rw [← Array.toArray_toList (xs := cs), hcs]
  obtain ⟨n, hb, -⟩ := DataW.trod_bool uBool h0
  have e0 : c0 = .bool n := by simpa [Value.cells] using hb
  have h1' : DataW.trod enc Tryd.prog W 0 (fun _ => true) true m 22 [c1] = some y1 := by simpa [Value.cells] using h1
  rcases open_ints underl_u32 uWord cWord h1' with ⟨e1, -⟩ | ⟨a, len, cap, zs, e1, -, hlc, hmax, hzl, hy, hcell, hwf⟩
  · refine ⟨n, none, 0, [], ?_, Rd.nil _ _, Nat.le_refl _⟩
    rw [e0, show c1 = .slice none 0 0 by simpa using e1]; rfl
  · have e1' : c1 = .slice (some a) len cap := by simpa using e1
    rw [if_pos rfl] at hzl
    refine ⟨n, some a, cap, (zs.take len).map Int.toNat, ?_, ?_, ?_⟩
    · rw [e0, e1', List.length_map, List.length_take, Nat.min_eq_left (by omega)]
    · have hlen : ((zs.take len).map Int.toNat).length = len := by rw [List.length_map, List.length_take, Nat.min_eq_left (by omega)]
      have hz : ∀ i, i < len → (((zs.take len).map Int.toNat).getD i 0 : Int) = zs.getD i 0 ∧ ((zs.take len).map Int.toNat).getD i 0 < 4294967296 := by
        intro i hi
        have hi' : i < zs.length := by omega
        have hw := hwf zs[i] (List.getElem_mem hi')
        have hw2 : 0 ≤ zs[i] ∧ zs[i] ≤ 4294967295 := by simpa [Lit.wf, IntKind.has, IntKind.min, IntKind.max, IntKind.signed, IntKind.bits, ← Int.lt_iff_add_one_le] using hw
        rw [List.getD_eq_getElem?_getD, List.getElem?_map, List.getElem?_take_of_lt hi, List.getElem?_eq_getElem hi', List.getD_eq_getElem?_getD, List.getElem?_eq_getElem hi']
        simp only [Option.map_some, Option.getD_some]
        omega
      refine ⟨fun i hi => ?_, fun x hx => ?_, ?_⟩
      · rw [hlen] at hi
        have hc := hcell i (by omega)
        rw [← (hz i hi).1] at hc
        obtain ⟨b, o, s⟩ := a
        cases s with
        | none =>
          refine ⟨b, o, rfl, ?_⟩
          have e : (⟨b, o, none⟩ : Addr).add i = ⟨b, o + i, none⟩ := by unfold Addr.add; split <;> simp_all
          rwa [e] at hc
        | some s =>
          have h0 := hcell 0 (by omega)
          simp [World.cell?, Addr.add] at h0
          split at h0 <;> cases h0
      · obtain ⟨i, hi, rfl⟩ := List.getElem_of_mem hx
        have := (hz i (by omega)).2
        rwa [List.getD_eq_getElem?_getD, List.getElem?_eq_getElem hi] at this
      · rw [hlen]
        have h3 := hwt ((zs.take len).length * 4 + (zs.drop len).length * 4) (by
          have hb4 : Tryd.prog.bytesOf 72 = 4 := by kernel_rfl
          have e : d = .agg [y0.1, y1.1] := congrArg Prod.fst hx
          rw [e, DataW.weights, hu]
          simp only [List.map_cons, List.map_nil, ht0, ht1, DataW.weightsEach]
          rw [hy]
          simp only [DataW.weights, underl_u32, hb4, lits, List.length_map, ← Nat.add_mul]
          simp)
        rw [List.length_take, List.length_drop] at h3
        simp only [reachBytes] at h3
        omega
    · rw [List.length_map, List.length_take]
      omega

end Nm
end Go.Proofs.YtlhmbbpkhahbeaaDoor
namespace Go.Proofs.YtlhmbbpkhahbeaaDoor
namespace Nm
open Go.RowKit Go.Shelf Go.BigFrame
attribute [local go_sem] Oper.semAt_some

set_option maxRecDepth 100000 in
set_option maxHeartbeats 2000000 in
theorem lformed_calls (m : Nat) (g : Nat) (xs : List IntArg) (w : World) (hg : g < w.heap.size) (hx : ArgsAt w g xs) (hn : xs.length ≤ 8) :
    Calls Tryd.prog 35 #[.int .i64 (m : Int), .slice (some ⟨g, 0, none⟩) xs.length xs.length] w fun e w' => e = .returned (.bool (xs.all fun x => x.ok && decide (x.l.length ≤ m))) ∧ Below w.heap.size w w' := by
  go_enter Tryd.func35, Tryd.ntmps35
  go_wp2_with fail
  go_loopw [9] (fun i W => ∃ k : Nat, i = .int .i64 (k : Int) ∧ k ≤ xs.length ∧ Hid ((xs.take k).all (fun x => x.ok && decide (x.l.length ≤ m)) = true) ∧ Below w.heap.size w W) (fun i _ => xs.length - (intOf i).toNat)
  case atStart => exact ⟨0, rfl, Nat.zero_le _, rfl, Below.refl _ _⟩
  case round =>
    obtain ⟨k, rfl, hk, hall, hbl⟩ := hrel
    by_cases hlt : k < xs.length
    · have x0 := (hbl.cell (p := ⟨g, k * 2, none⟩) hg).trans (hx.neg k hlt)
      have x1 := (hbl.cell (p := ⟨g, k * 2 + 1, none⟩) hg).trans (hx.abs k hlt)
      obtain ⟨hrd, hcc⟩ := hx.rd k hlt
      obtain ⟨x, hxk⟩ : ∃ x, xs[k] = x := ⟨_, rfl⟩
      rw [hxk] at x0 x1 hrd hcc
      have hs := hrd.small
      have hrw := hrd.on hbl
      have Hxk := Lib.hid hxk
      obtain ⟨b, hb⟩ : ∃ b, okI x.neg x.l = b := ⟨_, rfl⟩
      obtain ⟨bx, B1⟩ := one_box wr x.neg x.A x.c x.l hrw hcc
      obtain ⟨W2, hW2⟩ : ∃ W2, wr.alloc (.cells #[.bool x.neg, .slice x.A x.l.length x.c] 24) = W2 := ⟨_, rfl⟩
      rw [hW2] at bx B1
      have hck := Formed_is x.neg x.A x.c x.l W2 B1.rd hcc b hb
      have Hb := Lib.hid hb
      have y0 := cell_at B1.blk 0 _ rfl
      have y1 := cell_at B1.blk 1 _ rfl
      have bw2 := hbl.trans (bx.mono hbl.size)
      clear hx hxk hb
      cases b
      · go_wp2_with (go_at_call 16; refine hck.mono ?_; rintro e w4 ⟨rfl, hb4⟩)
        go_ret
        refine ⟨?_, bw2.trans (hb4.mono bw2.size)⟩
        have : (xs.all fun x => x.ok && decide (x.l.length ≤ m)) = false := by
          rw [List.all_eq_false]
          refine ⟨xs[k], List.getElem_mem hlt, ?_⟩
          rw [Hxk.out]
          unfold IntArg.ok
          rw [Hb.out]
          simp
        rw [this]; rfl
      · by_cases hok : x.l.length ≤ m
        · have hn1 : ¬ (m : Int) < (x.l.length : Int) := by omega
          go_wp2_with (go_at_call 16; refine hck.mono ?_; rintro e w4 ⟨rfl, hb4⟩; have z0 := cell_at (B1.on hb4).blk 0 _ rfl; have z1 := cell_at (B1.on hb4).blk 1 _ rfl)
          refine ⟨⟨k + 1, by simp, by omega, ?_, bw2.trans (hb4.mono bw2.size)⟩, by simp only [intOf]; omega⟩
          show (xs.take (k + 1)).all _ = true
          rw [List.take_succ_eq_append_getElem hlt, List.all_append, hall.out, Hxk.out]
          simp [hok, IntArg.ok, Hb.out]
        · have hn1 : (m : Int) < (x.l.length : Int) := by omega
          go_wp2_with (go_at_call 16; refine hck.mono ?_; rintro e w4 ⟨rfl, hb4⟩; have z0 := cell_at (B1.on hb4).blk 0 _ rfl; have z1 := cell_at (B1.on hb4).blk 1 _ rfl)
          go_ret
          refine ⟨?_, bw2.trans (hb4.mono bw2.size)⟩
          have : (xs.all fun x => x.ok && decide (x.l.length ≤ m)) = false := by
            rw [List.all_eq_false]
            refine ⟨xs[k], List.getElem_mem hlt, ?_⟩
            rw [Hxk.out]
            simp [hok]
          rw [this]; rfl
    · go_wp2_with fail
      go_ret
      have h := hall.out
      rw [List.take_of_length_le (by omega)] at h
      rw [h]
      exact ⟨rfl, hbl⟩

set_option maxRecDepth 100000 in
set_option maxHeartbeats 2000000 in
theorem got_calls (n1 : Bool) (A1 : Option Addr) (c1 : Nat) (l1 : List Nat) (n2 : Bool) (A2 : Option Addr) (c2 : Nat) (l2 : List Nat) (z er : Int) (w : World) (h1 : Rd w A1 l1) (h2 : Rd w A2 l2) (hc1 : l1.length ≤ c1) (hc2 : l2.length ≤ c2) (k1 : IsZ n1 l1 z) (k2 : IsZ n2 l2 z) :
    Calls Tryd.prog 23 #[iv n1 A1 l1.length c1, .int .i64 er, .agg #[.bool n2, .slice A2 l2.length c2, .int .i64 er]] w fun e w' => e = .returned (.bool true) ∧ Below w.heap.size w w' := by
  have hb2 : ∀ a b, Below w.heap.size w ((w.alloc a).alloc b) := fun a b => two_below a b
  obtain ⟨W, hW⟩ : ∃ W, (w.alloc (.cells #[.bool n1, .slice A1 l1.length c1] 24)).alloc (.cells #[.bool n2, .slice A2 l2.length c2, .int .i64 er] 41) = W := ⟨_, rfl⟩
  have hbw : Below w.heap.size w W := by rw [← hW]; exact hb2 _ _
  have B1 : IntBox W w.heap.size n1 A1 c1 l1 := ⟨by rw [← hW]; exact (two_old w _ _ rfl).h, h1.on hbw, hc1⟩
  have B2 : Blk W (w.heap.size + 1) #[.bool n2, .slice A2 l2.length c2, .int .i64 er] 41 := ⟨by rw [← hW]; exact two_blk w _ _⟩
  have x0 := cell_at B1.blk 0 _ rfl
  have x1 := cell_at B1.blk 1 _ rfl
  have y0 := cell_at B2.h 0 _ rfl
  have y1 := cell_at B2.h 1 _ rfl
  have y2 := cell_at B2.h 2 _ rfl
  have hs := Same_calls n1 n2 A1 A2 c1 c2 l1 l2 W B1.rd (h2.on hbw) hc1 hc2
  rw [sameI_z k1 k2, show decide (z = z) = true from by simp] at hs
  go_enter Tryd.func23, Tryd.ntmps23
  go_wp2_with (go_at_call 20; refine hs.mono ?_; rintro e w4 ⟨rfl, b4⟩)
  go_ret
  exact ⟨rfl, hbw.trans (b4.mono hbw.size)⟩

end Nm
end Go.Proofs.YtlhmbbpkhahbeaaDoor
