/-
  Contracts of the walks below, out of the texts Bf, Bg, Bi, Bm, Br, Bs, Bt, Bu, Bv, Bx, Cb, Cc, Cd, Ce, Cf, Cg, Ci, Cl, Cm, Cr, Db, Df, Ea.
-/
import Derived.Test.YtlhmbbpkhahbeaaGreatDoorNumSb2
import Derived.Laws.CopyOwn
import Derived.Laws.IdiomStrings
import Derived.WalkSpells
import Derived.Test.YtlhmbbpkhahbeaaGreatDoorRows
import Derived.ProofKit
import Derived.LaidMore
import Derived.OpenShut
import Derived.Stop.Joined
import Derived.Carry
import Derived.Lib.LaidTab
import Derived.Lib.Case
import Derived.Lib.Bytealg
import Derived.Lib.TrimByte
import Derived.Lib.Strings
namespace Go.Proofs.YtlhmbbpkhahbeaaGreatDoor
namespace Nm
open Go.RowKit Go.Shelf Go.BigFrame
attribute [local go_sem] Oper.semAt_some
/-- a step of Euclid: the numbers r0 = s0 a - t0 b (or the other way round) -/
structure Euc (a b : Nat) (odd : Bool) (r0 r1 s0 s1 t0 t1 : Nat) : Prop where
  gcd : Nat.gcd r0 r1 = Nat.gcd a b
  e0 : (r0 : Int) = if odd then (t0 : Int) * b - s0 * a else (s0 : Int) * a - t0 * b
  e1 : (r1 : Int) = if odd then (s1 : Int) * a - t1 * b else (t1 : Int) * b - s1 * a
  hb : s1 * r0 + s0 * r1 = b
  ha : t1 * r0 + t0 * r1 = a
  ls0 : s0 ≤ max 1 b
  lt0 : t0 ≤ max 1 a
  ls1 : s1 ≤ max 1 b
  lt1 : t1 ≤ max 1 a
  lr0 : r0 ≤ max a b
  lr1 : r1 ≤ max a b
theorem Euc.start (a b : Nat) : Euc a b false a b 1 0 0 1 := by
  refine ⟨rfl, by simp, by simp, by simp, by simp, ?_, ?_, ?_, ?_, ?_, ?_⟩ <;> omega
theorem Euc.next {a b : Nat} {odd : Bool} {r0 r1 s0 s1 t0 t1 : Nat} (h : Euc a b odd r0 r1 s0 s1 t0 t1) (hr : 0 < r1) : Euc a b (!odd) r1 (r0 % r1) s1 (s0 + r0 / r1 * s1) t1 (t0 + r0 / r1 * t1) := by
  have hd := Nat.div_add_mod r0 r1
  obtain ⟨q, hq⟩ : ∃ q, r0 / r1 = q := ⟨_, rfl⟩
  obtain ⟨r, hr2⟩ : ∃ r, r0 % r1 = r := ⟨_, rfl⟩
  have hlt : r < r1 := by rw [← hr2]; exact Nat.mod_lt _ hr
  rw [hq, hr2] at hd
  rw [hq, hr2]
  have hdz : (r1 : Int) * q + r = r0 := by exact_mod_cast hd
  have hb' : (s0 + q * s1) * r1 + s1 * r = b := by
    rw [← h.hb, ← hd, Nat.add_mul, Nat.mul_add]
    have : q * s1 * r1 = s1 * (r1 * q) := by rw [Nat.mul_comm q s1, Nat.mul_assoc, Nat.mul_comm q r1]
    omega
  have ha' : (t0 + q * t1) * r1 + t1 * r = a := by
    rw [← h.ha, ← hd, Nat.add_mul, Nat.mul_add]
    have : q * t1 * r1 = t1 * (r1 * q) := by rw [Nat.mul_comm q t1, Nat.mul_assoc, Nat.mul_comm q r1]
    omega
  have e0 := h.e0
  have e1 := h.e1
  refine ⟨?_, ?_, ?_, hb', ha', h.ls1, h.lt1, ?_, ?_, h.lr1, Nat.le_trans (Nat.le_of_lt hlt) h.lr1⟩
  · rw [← h.gcd, ← hr2, Nat.gcd_comm r1, ← Nat.gcd_rec, Nat.gcd_comm]
  · rw [e1]; cases odd <;> simp
  · have hr' : (r : Int) = r0 - r1 * q := by omega
    rw [hr', e0, e1]
    cases odd
    · simp only [Bool.false_eq_true, if_false, Bool.not_false, if_true, Int.natCast_add, Int.natCast_mul, Int.add_mul, Int.sub_mul]
      have a1 : (q : Int) * s1 * a = s1 * a * q := by rw [Int.mul_assoc, Int.mul_comm]
      have a2 : (q : Int) * t1 * b = t1 * b * q := by rw [Int.mul_assoc, Int.mul_comm]
      omega
    · simp only [Bool.false_eq_true, if_false, Bool.not_true, if_true, Int.natCast_add, Int.natCast_mul, Int.add_mul, Int.sub_mul]
      have a1 : (q : Int) * s1 * a = s1 * a * q := by rw [Int.mul_assoc, Int.mul_comm]
      have a2 : (q : Int) * t1 * b = t1 * b * q := by rw [Int.mul_assoc, Int.mul_comm]
      omega
  · have : (s0 + q * s1) * 1 ≤ (s0 + q * s1) * r1 := Nat.mul_le_mul_left _ hr
    omega
  · have : (t0 + q * t1) * 1 ≤ (t0 + q * t1) * r1 := Nat.mul_le_mul_left _ hr
    omega
/-- a slice that reads as the limbs of n -/
def Sl (W : World) (v : Value) (n : Nat) : Prop := ∃ A c, v = .slice A (lim n).length c ∧ (lim n).length ≤ c ∧ Rd W A (lim n)
theorem keep6 {w : World} {g B i : Nat} {v v0 v1 v2 v3 v4 v5 : Value} (hne : ¬ B = g) (h : w.cell? ⟨g, i, none⟩ = some v) :
    ((((((w.setCell ⟨B, 0, none⟩ v0).setCell ⟨B, 1, none⟩ v1).setCell ⟨B, 2, none⟩ v2).setCell ⟨B, 3, none⟩ v3).setCell ⟨B, 4, none⟩ v4).setCell ⟨B, 5, none⟩ v5).cell? ⟨g, i, none⟩ = some v := by
  have k : ∀ (W : World) (j : Nat) (u : Value), W.cell? ⟨g, i, none⟩ = some v → (W.setCell ⟨B, j, none⟩ u).cell? ⟨g, i, none⟩ = some v := fun W j u h => (World.cell?_setCell_other W _ _ u (by intro e; cases e; exact hne rfl)).trans h
  exact k _ _ _ (k _ _ _ (k _ _ _ (k _ _ _ (k _ _ _ (k _ _ _ h)))))
theorem shr_size : (Tryz.prog.info? 96).map (·.size) = some 6 := by kernel_rfl
/-- what Gcd hands back: the divisor, and factors -/
structure GcdOf (a b : Int) (g x y : Int) : Prop where
  gcd : g = Int.gcd a b
  sum : a * x + b * y = g
  x : x.natAbs ≤ max 1 b.natAbs
  y : y.natAbs ≤ max 1 a.natAbs
def RetThree (g x y : Int) (w : World) (e : Ending) (w' : World) : Prop :=
  ∃ s1 A1 c1 l1 s2 A2 c2 l2 s3 A3 c3 l3, e = .returned (.agg #[.bool s1, .slice A1 l1.length c1, .bool s2, .slice A2 l2.length c2, .bool s3, .slice A3 l3.length c3]) ∧ IsZ s1 l1 g ∧ IsZ s2 l2 x ∧ IsZ s3 l3 y ∧
    l1.length ≤ c1 ∧ l2.length ≤ c2 ∧ l3.length ≤ c3 ∧ Rd w' A1 l1 ∧ Rd w' A2 l2 ∧ Rd w' A3 l3 ∧ Below w.heap.size w w'
theorem euc_end {a b : Nat} {odd : Bool} {r0 s0 s1 t0 t1 : Nat} (h : Euc a b odd r0 0 s0 s1 t0 t1) (n1 n2 : Bool) :
    GcdOf (if n1 then -(a : Int) else a) (if n2 then -(b : Int) else b) r0 (if !(odd == n1) then -(s0 : Int) else s0) (if odd == n2 then -(t0 : Int) else t0) := by
  have hg : r0 = Nat.gcd a b := by have := h.gcd; rwa [Nat.gcd_zero_right] at this
  have e0 := h.e0
  have l1 := h.ls0
  have l2 := h.lt0
  have m1 := Int.mul_comm (a : Int) s0
  have m2 := Int.mul_comm (b : Int) t0
  refine ⟨?_, ?_, ?_, ?_⟩
  · rw [hg]; unfold Int.gcd; cases n1 <;> cases n2 <;> simp
  · rw [e0]; cases odd <;> cases n1 <;> cases n2 <;> simp [Int.neg_mul, Int.mul_neg] <;> omega
  · cases odd <;> cases n1 <;> cases n2 <;> simp <;> omega
  · cases odd <;> cases n1 <;> cases n2 <;> simp <;> omega
set_option maxRecDepth 100000 in
set_option maxHeartbeats 8000000 in
theorem gcd1_bad (g1 g2 : Nat) (n1 n2 : Bool) (A1 A2 : Option Addr) (c1 c2 : Nat) (l1 l2 : List Nat) (w : World) (h1 : IntBox w g1 n1 A1 c1 l1) (h2 : IntBox w g2 n2 A2 c2 l2) (hbad : (okI n1 l1 && okI n2 l2) = false) :
    Calls Tryz.prog 58 #[.pointer (some ⟨g1, 0, none⟩), .pointer (some ⟨g2, 0, none⟩)] w fun e w' => e = .panicked (wrong 1) ∧ Below w.heap.size w w' := by
  have x0 := cell_at h1.blk 0 _ rfl
  have x1 := cell_at h1.blk 1 _ rfl
  have y0 := cell_at h2.blk 0 _ rfl
  have y1 := cell_at h2.blk 1 _ rfl
  have t1 := (Array.getElem?_eq_some_iff.1 h1.blk).1
  have t2 := (Array.getElem?_eq_some_iff.1 h2.blk).1
  have hb2 : ∀ a b, Below w.heap.size w ((w.alloc a).alloc b) := fun a b => ((Below.refl _ w).alloc (Nat.le_refl _) _).alloc (by simp) _
  have hf := fun a => formed_two (w.heap.size + 1) n1 n2 A1 A2 c1 c2 l1 l2 _ (two_blk w a (.cells #[.bool n1, .slice A1 l1.length c1, .bool n2, .slice A2 l2.length c2] 24)) (h1.rd.on (hb2 _ _)) (h2.rd.on (hb2 _ _)) h1.cap h2.cap
  go_enter Tryz.func58, Tryz.ntmps58
  go_wp2_with (go_at_call 24; refine (hf _).mono ?_; rintro e w' ⟨-, hp, hbl⟩; cases hp hbad)
  exact ⟨rfl, rfl, (hb2 _ _).trans (hbl.mono (hb2 _ _).size)⟩
set_option maxRecDepth 100000 in
set_option maxHeartbeats 8000000 in
theorem gcd1_ok (g1 g2 : Nat) (n1 n2 : Bool) (A1 A2 : Option Addr) (c1 c2 : Nat) (l1 l2 : List Nat) (w : World) (h1 : IntBox w g1 n1 A1 c1 l1) (h2 : IntBox w g2 n2 A2 c2 l2) (k1 : IsInt n1 l1) (k2 : IsInt n2 l2) (hok : (okI n1 l1 && okI n2 l2) = true) :
    Calls Tryz.prog 58 #[.pointer (some ⟨g1, 0, none⟩), .pointer (some ⟨g2, 0, none⟩)] w fun e w' => ∃ g x y, GcdOf (toZ n1 l1) (toZ n2 l2) g x y ∧ RetThree g x y w e w' := by
  have x0 := cell_at h1.blk 0 _ rfl
  have x1 := cell_at h1.blk 1 _ rfl
  have y0 := cell_at h2.blk 0 _ rfl
  have y1 := cell_at h2.blk 1 _ rfl
  have t1 := (Array.getElem?_eq_some_iff.1 h1.blk).1
  have t2 := (Array.getElem?_eq_some_iff.1 h2.blk).1
  have hb2 : ∀ a b, Below w.heap.size w ((w.alloc a).alloc b) := fun a b => ((Below.refl _ w).alloc (Nat.le_refl _) _).alloc (by simp) _
  have hf := fun a => formed_two (w.heap.size + 1) n1 n2 A1 A2 c1 c2 l1 l2 _ (two_blk w a (.cells #[.bool n1, .slice A1 l1.length c1, .bool n2, .slice A2 l2.length c2] 24)) (h1.rd.on (hb2 _ _)) (h2.rd.on (hb2 _ _)) h1.cap h2.cap
  have d1 : ¬ g1 = w.heap.size := by omega
  have d2 : ¬ g2 = w.heap.size := by omega
  have d3 : ¬ w.heap.size = g1 := by omega
  have d4 : ¬ w.heap.size = g2 := by omega
  have hqx := two_old w (.cells #[.bool false, .slice none 0 0, .bool false, .slice none 0 0, .bool false, .slice none 0 0] 96) (.cells #[.bool n1, .slice A1 l1.length c1, .bool n2, .slice A2 l2.length c2] 24) rfl
  have hM : Hid (∀ n : Nat, n ≤ max (val l1) (val l2) → (lim n).length ≤ 300) := fun n hn => by
    rcases Nat.le_total (val l1) (val l2) with h | h
    · rw [Nat.max_eq_right h] at hn
      exact Nat.le_trans (length_mono hn) (by rw [lim_val k2.canon]; exact k2.small)
    · rw [Nat.max_eq_left h] at hn
      exact Nat.le_trans (length_mono hn) (by rw [lim_val k1.canon]; exact k1.small)
  have hone : Hid (∀ n m : Nat, n ≤ max 1 m → (lim m).length ≤ 300 → (lim n).length ≤ 300) := fun n m h h2 => by
    rcases Nat.le_total 1 m with h1 | h1
    · rw [Nat.max_eq_right h1] at h; exact Nat.le_trans (length_mono h) h2
    · rw [Nat.max_eq_left h1] at h
      exact Nat.le_trans (length_mono h) (by rw [one_word (by decide) (by decide)]; simp)
  have hl1 : Hid ((lim (val l1)).length ≤ 300) := by show _ ≤ _; rw [lim_val k1.canon]; exact k1.small
  have hl2 : Hid ((lim (val l2)).length ≤ 300) := by show _ ≤ _; rw [lim_val k2.canon]; exact k2.small
  have hz1 : Hid (toZ n1 l1 = if n1 then -(val l1 : Int) else val l1) := rfl
  have hz2 : Hid (toZ n2 l2 = if n2 then -(val l2 : Int) else val l2) := rfl
  have e1 := Lib.hid (lim_val k1.canon)
  have e2 := Lib.hid (lim_val k2.canon)
  obtain ⟨a, ha⟩ : ∃ a, val l1 = a := ⟨_, rfl⟩
  obtain ⟨b, hb⟩ : ∃ b, val l2 = b := ⟨_, rfl⟩
  rw [ha] at hM hl1 hz1 e1
  rw [hb] at hM hl2 hz2 e2
  clear ha hb
  go_enter Tryz.func58, Tryz.ntmps58
  go_wp2_with first
    | (go_at_call 24; refine (hf _).mono ?_; rintro e w' ⟨hp, -, hbl⟩; cases hp hok; have hb3 := (hb2 _ _).trans (hbl.mono (hb2 _ _).size); have p0 := cell_at (h1.on hb3).blk 0 _ rfl; have p1 := cell_at (h1.on hb3).blk 1 _ rfl; have p2 := cell_at (h2.on hb3).blk 0 _ rfl; have p3 := cell_at (h2.on hb3).blk 1 _ rfl)
  go_quiet (fail)
  go_wp2_with fail
  have hq1 := hqx.on hbl
  obtain ⟨W0, hW0⟩ : ∃ W0, (((((w'.drewN nq).alloc (.cells #[.int .u32 1] 50)).alloc (.cells #[] 50)).alloc (.cells #[] 50)).alloc (.cells #[.int .u32 1] 50)) = W0 := ⟨_, rfl⟩
  have hw0 : Below w'.heap.size w' W0 := by rw [← hW0]; exact (((((below_drewN (Below.refl _ w') nq).alloc (Nat.le_refl _) _).alloc (by simp) _).alloc (by simp; omega) _).alloc (by simp; omega) _)
  have v0 : Rd W0 (some ⟨w'.heap.size, 0, none⟩) (lim 1) := by
    rw [← hW0]
    exact (rd_word (w'.drewN nq) (n := 1) (by decide) (by decide)).on ((((Below.refl _ _).alloc (Nat.le_refl _) _).alloc (by simp) _).alloc (by simp <;> omega) _)
  have v1 : Rd W0 (some ⟨w'.heap.size + 1 + 1 + 1, 0, none⟩) (lim 1) := by
    rw [← hW0]
    have := rd_word ((((w'.drewN nq).alloc (.cells #[.int .u32 1] 50)).alloc (.cells #[] 50)).alloc (.cells #[] 50)) (n := 1) (by decide) (by decide)
    simpa using this
  rw [hW0]
  clear hW0
  have one1 : (lim 1).length = 1 := by rw [one_word (by decide) (by decide)]; rfl
  have hb0 := hb3.trans (hw0.mono hb3.size)
  have hq0 := hq1.on hw0
  have ra := h1.rd.on hb0
  have rb := h2.rd.on hb0
  have hc1 := h1.cap
  have hc2 := h2.cap
  have One1 := Lib.hid one1
  clear x0 x1 y0 y1 p0 p1 p2 p3 hf hqx hq1 hw0 one1
  go_loopw [3, 4, 5, 6, 7, 8, 9] (fun q3 q4 q5 q6 q7 q8 q9 W => ∃ (odd : Bool) (r0 r1 s0 s1 t0 t1 : Nat), q9 = .bool odd ∧ Sl W q3 r0 ∧ Sl W q4 r1 ∧ Sl W q5 s0 ∧ Sl W q6 s1 ∧ Sl W q7 t0 ∧ Sl W q8 t1 ∧ Hid (Euc a b odd r0 r1 s0 s1 t0 t1) ∧ Below W0.heap.size W0 W) (fun _ q4 _ _ _ _ _ W => slotVal q4 W)
  case atStart =>
    refine ⟨false, a, b, 1, 0, 0, 1, rfl, ⟨A1, c1, ?_, ?_, ?_⟩, ⟨A2, c2, ?_, ?_, ?_⟩, ⟨_, 1, ?_, ?_, v0⟩, ⟨some ⟨w'.heap.size + 1, 0, none⟩, 0, ?_, ?_, ?_⟩, ⟨some ⟨w'.heap.size + 1 + 1, 0, none⟩, 0, ?_, ?_, ?_⟩, ⟨_, 1, ?_, ?_, v1⟩, Euc.start a b, Below.refl _ _⟩
    · rw [e1.out]
    · rw [e1.out]; exact hc1
    · rw [e1.out]; exact ra
    · rw [e2.out]
    · rw [e2.out]; exact hc2
    · rw [e2.out]; exact rb
    · rw [One1.out]
    · rw [One1.out]; exact Nat.le_refl _
    · rw [lim_zero]; rfl
    · rw [lim_zero]; exact Nat.le_refl _
    · rw [lim_zero]; exact Rd.nil _ _
    · rw [lim_zero]; rfl
    · rw [lim_zero]; exact Nat.le_refl _
    · rw [lim_zero]; exact Rd.nil _ _
    · rw [One1.out]
    · rw [One1.out]; exact Nat.le_refl _
  case round =>
    clear v0 v1 ra rb hc1 hc2
    obtain ⟨odd, r0, r1, s0, s1, t0, t1', rfl, ⟨Ar0, cr0, rfl, nr0, rr0⟩, ⟨Ar1, cr1, rfl, nr1, rr1⟩, ⟨As0, cs0, rfl, ns0, rs0⟩, ⟨As1, cs1, rfl, ns1, rs1⟩, ⟨At0, ct0, rfl, nt0, rt0⟩, ⟨At1, ct1, rfl, nt1, rt1⟩, heuc, hbl'⟩ := hrel
    have hE := heuc.out
    have lr0 := hM.out r0 hE.lr0
    have lr1 := hM.out r1 hE.lr1
    have ls0 := hone.out s0 b hE.ls0 hl2.out
    have ls1 := hone.out s1 b hE.ls1 hl2.out
    have lt0 := hone.out t0 a hE.lt0 hl1.out
    have lt1 := hone.out t1' a hE.lt1 hl1.out
    by_cases hr : 0 < r1
    · have hrl : 0 < (lim r1).length := lim_length_pos hr
      have hnx := hE.next hr
      obtain ⟨Q, hQ⟩ : ∃ Q, r0 / r1 = Q := ⟨_, rfl⟩
      obtain ⟨R, hR⟩ : ∃ R, r0 % r1 = R := ⟨_, rfl⟩
      obtain ⟨P1, hP1⟩ : ∃ P, Q * s1 = P := ⟨_, rfl⟩
      obtain ⟨P2, hP2⟩ : ∃ P, Q * t1' = P := ⟨_, rfl⟩
      obtain ⟨S2, hS2⟩ : ∃ P, s0 + P1 = P := ⟨_, rfl⟩
      obtain ⟨T2, hT2⟩ : ∃ P, t0 + P2 = P := ⟨_, rfl⟩
      rw [hQ, hR, hP1, hP2, hS2, hT2] at hnx
      have Hnx := Lib.hid hnx
      have hdv := div_calls Ar0 Ar1 cr0 cr1 (lim r0) (lim r1) wr rr0 rr1 nr0 nr1 (canon_lim _) (canon_lim _) (by rw [val_lim]; exact hr) (by omega)
      rw [val_lim, val_lim, hQ, hR] at hdv
      have lQ : (lim Q).length ≤ 300 := Nat.le_trans (length_mono (by rw [← hQ]; exact Nat.div_le_self _ _)) lr0
      have lP1 : (lim P1).length ≤ 600 := by have := prod_length lQ ls1; rw [hP1] at this; omega
      have lP2 : (lim P2).length ≤ 600 := by have := prod_length lQ lt1; rw [hP2] at this; omega
      have hm1 : ∀ W A c, Below wr.heap.size wr W → Rd W A (lim Q) → (lim Q).length ≤ c → Calls Tryz.prog 59 #[.slice A (lim Q).length c, .slice As1 (lim s1).length cs1] W (RetNat P1 W) := fun W A c hW h hc => by
        have := mul_calls A As1 c cs1 (lim Q) (lim s1) W h (rs1.on hW) hc ns1 (canon_lim _) (canon_lim _) (by omega)
        rwa [val_lim, val_lim, hP1] at this
      have hm2 : ∀ W A c, Below wr.heap.size wr W → Rd W A (lim Q) → (lim Q).length ≤ c → Calls Tryz.prog 59 #[.slice A (lim Q).length c, .slice At1 (lim t1').length ct1] W (RetNat P2 W) := fun W A c hW h hc => by
        have := mul_calls A At1 c ct1 (lim Q) (lim t1') W h (rt1.on hW) hc nt1 (canon_lim _) (canon_lim _) (by omega)
        rwa [val_lim, val_lim, hP2] at this
      have ha1 : ∀ W A c, Below wr.heap.size wr W → Rd W A (lim P1) → (lim P1).length ≤ c → Calls Tryz.prog 52 #[.slice As0 (lim s0).length cs0, .slice A (lim P1).length c] W (RetNat S2 W) := fun W A c hW h hc => by
        have := add_calls As0 A cs0 c (lim s0) (lim P1) W (rs0.on hW) h ns0 hc (by omega) (by omega)
        rwa [val_lim, val_lim, hS2] at this
      have ha2 : ∀ W A c, Below wr.heap.size wr W → Rd W A (lim P2) → (lim P2).length ≤ c → Calls Tryz.prog 52 #[.slice At0 (lim t0).length ct0, .slice A (lim P2).length c] W (RetNat T2 W) := fun W A c hW h hc => by
        have := add_calls At0 A ct0 c (lim t0) (lim P2) W (rt0.on hW) h nt0 hc (by omega) (by omega)
        rwa [val_lim, val_lim, hT2] at this
      have hRlt := Lib.hid (show R < r1 by rw [← hR]; exact Nat.mod_lt _ hr)
      clear hQ hR hP1 hP2 hS2 hT2 hE lQ lP1 lP2 hnx
      go_wp2_with first
        | (go_at_call 51; refine hdv.mono ?_; rintro e w1 ⟨Aq, cq, Ar, cr, rfl, nq', nrr, rq, rr, b1⟩)
        | (go_at_call_of 59 (Value.slice As1 (lim s1).length cs1); refine (hm1 _ Aq cq b1 rq nq').mono ?_; rintro e w2 ⟨Ap, cp, rfl, np, rp, b2⟩; have b12 := b1.trans (b2.mono b1.size))
        | (go_at_call_of 52 (Value.slice As0 (lim s0).length cs0); refine (ha1 _ Ap cp b12 rp np).mono ?_; rintro e w3 ⟨Ax, cx, rfl, nx, rx, b3⟩; have b13 := b12.trans (b3.mono b12.size))
        | (go_at_call_of 59 (Value.slice At1 (lim t1').length ct1); refine (hm2 _ Aq cq b13 ((rq.on b2).on b3) nq').mono ?_; rintro e w4 ⟨Ap', cp', rfl, np', rp', b4⟩; have b14 := b13.trans (b4.mono b13.size))
        | (go_at_call_of 52 (Value.slice At0 (lim t0).length ct0); refine (ha2 _ Ap' cp' b14 rp' np').mono ?_; rintro e w5 ⟨Ay, cy, rfl, ny, ry, b5⟩; have b15 := b14.trans (b5.mono b14.size))
      refine ⟨⟨!odd, r1, R, s1, S2, t1', T2, rfl, ⟨Ar1, cr1, rfl, nr1, rr1.on b15⟩, ⟨Ar, cr, rfl, nrr, (((rr.on b2).on b3).on b4).on b5⟩, ⟨As1, cs1, rfl, ns1, rs1.on b15⟩, ⟨Ax, cx, rfl, nx, (rx.on b4).on b5⟩, ⟨At1, ct1, rfl, nt1, rt1.on b15⟩, ⟨Ay, cy, rfl, ny, ry⟩, Hnx, hbl'.trans (b15.mono hbl'.size)⟩, ?_⟩
      rw [slotVal_eq ((((rr.on b2).on b3).on b4).on b5), slotVal_eq rr1, val_lim, val_lim]
      exact hRlt.out
    · obtain rfl : r1 = 0 := by omega
      rw [lim_zero]
      clear lr1 nr1 rr1
      have hbw := hb0.trans (hbl'.mono hb0.size)
      have hq2 := hq0.on hbl'
      have hend := euc_end hE n1 n2
      rw [← hz1.out, ← hz2.out] at hend
      have Hend := Lib.hid hend
      by_cases h00 : r0 = 0
      · subst h00
        rw [lim_zero]
        have hga : Nat.gcd a b = 0 := by have := hE.gcd; rw [← this]; rfl
        have HG := Lib.hid hga
        have z0 := cell_at hq2.h 0 _ rfl
        have zf0 := frozen_at hq2.h 0
        have z1 := cell_at hq2.h 1 _ rfl
        have zf1 := frozen_at hq2.h 1
        have z2 := cell_at hq2.h 2 _ rfl
        have zf2 := frozen_at hq2.h 2
        have z3 := cell_at hq2.h 3 _ rfl
        have zf3 := frozen_at hq2.h 3
        have z4 := cell_at hq2.h 4 _ rfl
        have zf4 := frozen_at hq2.h 4
        have z5 := cell_at hq2.h 5 _ rfl
        have zf5 := frozen_at hq2.h 5
        clear hend hga hE hr lr0 nr0 rr0
        go_wp2_with fail
        refine ret_cellS rfl Tryz.underlying96 shr_size rfl rfl (set6 hq2.h _ _ _ _ _ _) rfl ⟨0, 0, 0, ⟨?_, by simp, by simp, by simp⟩, false, none, 0, [], false, none, 0, [], false, none, 0, [], rfl, isZ_zero, isZ_zero, isZ_zero, Nat.le_refl _, Nat.le_refl _, Nat.le_refl _, Rd.nil _ _, Rd.nil _ _, Rd.nil _ _, ((((((hbw.setCell (Nat.le_refl _) _).setCell (Nat.le_refl _) _).setCell (Nat.le_refl _) _).setCell (Nat.le_refl _) _).setCell (Nat.le_refl _) _).setCell (Nat.le_refl _) _)⟩
        rw [hz1.out, hz2.out]
        have h := HG.out
        unfold Int.gcd
        cases n1 <;> cases n2 <;> simp [h]
      · have hr0l : 0 < (lim r0).length := lim_length_pos (by omega)
        have hr0b : ((lim r0).length == 0) = false := by rw [beq_eq_false_iff_ne]; omega
        have hr0i : (((lim r0).length : Int) == 0) = false := by rw [beq_eq_false_iff_ne]; omega
        generalize hu1 : (odd == n1) = u1 at hend
        generalize hu2 : (odd == n2) = u2 at hend
        have hE2 := Lib.hid hend
        have x0 := cell_at (h1.on hbw).blk 0 _ rfl
        have x1 := cell_at (h1.on hbw).blk 1 _ rfl
        have y0 := cell_at (h2.on hbw).blk 0 _ rfl
        have y1 := cell_at (h2.on hbw).blk 1 _ rfl
        clear hend hE hr h00
        go_wp2_with fail
        clear hM hone hl1 hl2 hz1 hz2 e1 e2 heuc Hend One1 hbl hb2 hok
        go_region_held3 (fun w'' => w''.cell? ⟨g1, 0, none⟩ = some (.bool n1) ∧ w''.cell? ⟨g1, 1, none⟩ = some (.slice A1 l1.length c1) ∧ w''.cell? ⟨g2, 0, none⟩ = some (.bool n2) ∧ w''.cell? ⟨g2, 1, none⟩ = some (.slice A2 l2.length c2)) ((first | (with_reducible exact ⟨keep6 d3 kk0, keep6 d3 kk1, keep6 d4 kk2, keep6 d4 kk3⟩) | (with_reducible exact ⟨kk0, kk1, kk2, kk3⟩) | (with_reducible exact ⟨jj0, jj1, jj2, jj3⟩) | (with_reducible exact ⟨ii0, ii1, ii2, ii3⟩) | exact ⟨x0, x1, y0, y1⟩))
          ((first
            | (go_at_call_of 33 (Value.slice Ar0 (lim r0).length cr0); refine (whole_z false r0 lr0 Ar0 cr0 _ (rr0.on (below_drew (Below.refl _ _))) nr0).mono ?_; rintro e w1 ⟨q1, B1, d1', m1, rfl, z1, k1', f1, b1⟩; replace b1 := (below_drew (Below.refl _ wr)).trans b1; have bb1 := hbw.trans (b1.mono hbw.size); have ii0 : w1.cell? ⟨g1, 0, none⟩ = some (.bool n1) := cell_at (h1.on bb1).blk 0 _ rfl; have ii1 : w1.cell? ⟨g1, 1, none⟩ = some (.slice A1 l1.length c1) := cell_at (h1.on bb1).blk 1 _ rfl; have ii2 : w1.cell? ⟨g2, 0, none⟩ = some (.bool n2) := cell_at (h2.on bb1).blk 0 _ rfl; have ii3 : w1.cell? ⟨g2, 1, none⟩ = some (.slice A2 l2.length c2) := cell_at (h2.on bb1).blk 1 _ rfl)
            | (go_at_call_of 33 (Value.slice As0 (lim s0).length cs0); refine (whole_z (!u1) s0 ls0 As0 cs0 _ (rs0.on b1) ns0).mono ?_; rintro e w2 ⟨q2, B2, d2', m2, rfl, z2, k2', f2, b2⟩; have b12 := b1.trans (b2.mono b1.size); have bb2 := hbw.trans (b12.mono hbw.size); have jj0 : w2.cell? ⟨g1, 0, none⟩ = some (.bool n1) := cell_at (h1.on bb2).blk 0 _ rfl; have jj1 : w2.cell? ⟨g1, 1, none⟩ = some (.slice A1 l1.length c1) := cell_at (h1.on bb2).blk 1 _ rfl; have jj2 : w2.cell? ⟨g2, 0, none⟩ = some (.bool n2) := cell_at (h2.on bb2).blk 0 _ rfl; have jj3 : w2.cell? ⟨g2, 1, none⟩ = some (.slice A2 l2.length c2) := cell_at (h2.on bb2).blk 1 _ rfl)
            | (go_at_call_of 33 (Value.slice At0 (lim t0).length ct0); refine (whole_z u2 t0 lt0 At0 ct0 _ (rt0.on b12) nt0).mono ?_; rintro e w3 ⟨q3, B3, d3', m3, rfl, z3, k3', f3, b3⟩; have b13 := b12.trans (b3.mono b12.size); have bb3 := hbw.trans (b13.mono hbw.size); have kk0 : w3.cell? ⟨g1, 0, none⟩ = some (.bool n1) := cell_at (h1.on bb3).blk 0 _ rfl; have kk1 : w3.cell? ⟨g1, 1, none⟩ = some (.slice A1 l1.length c1) := cell_at (h1.on bb3).blk 1 _ rfl; have kk2 : w3.cell? ⟨g2, 0, none⟩ = some (.bool n2) := cell_at (h2.on bb3).blk 0 _ rfl; have kk3 : w3.cell? ⟨g2, 1, none⟩ = some (.slice A2 l2.length c2) := cell_at (h2.on bb3).blk 1 _ rfl; have hq5 := hq2.on b13; have f1' := (f1.on b2).on b3; have f2' := f2.on b3; have v0 : w3.cell? ⟨w.heap.size, 0, none⟩ = some (.bool false) := cell_at hq5.h 0 _ rfl; have vf0 := frozen_at hq5.h 0; have v1 : w3.cell? ⟨w.heap.size, 1, none⟩ = some (.slice none 0 0) := cell_at hq5.h 1 _ rfl; have vf1 := frozen_at hq5.h 1; have v2 : w3.cell? ⟨w.heap.size, 2, none⟩ = some (.bool false) := cell_at hq5.h 2 _ rfl; have vf2 := frozen_at hq5.h 2; have v3 : w3.cell? ⟨w.heap.size, 3, none⟩ = some (.slice none 0 0) := cell_at hq5.h 3 _ rfl; have vf3 := frozen_at hq5.h 3; have v4 : w3.cell? ⟨w.heap.size, 4, none⟩ = some (.bool false) := cell_at hq5.h 4 _ rfl; have vf4 := frozen_at hq5.h 4; have v5 : w3.cell? ⟨w.heap.size, 5, none⟩ = some (.slice none 0 0) := cell_at hq5.h 5 _ rfl; have vf5 := frozen_at hq5.h 5; have PK := Lib.hid (And.intro hq5 (And.intro bb3 (And.intro z1 (And.intro z2 (And.intro z3 (And.intro k1' (And.intro k2' (And.intro k3' (And.intro f1' (And.intro f2' (And.intro f3 hE2))))))))))); clear hq5 hq2 b1 b2 b3 b12 b13 bb1 bb2 bb3 z1 z2 z3 lr0 ls0 lt0 ls1 lt1 ii0 ii1 ii2 ii3 jj0 jj1 jj2 jj3 f1 f2 f3 f1' f2' hE2)))
        go_wp2_with fail
        obtain ⟨hq5, bb3, z1, z2, z3, k1', k2', k3', f1', f2', f3, hE2⟩ := PK.out
        have nw1 := f1'.ne hq5.h (by intro i x h; rcases i with _ | _ | _ | _ | _ | _ | i <;> simp at h)
        have nw2 := f2'.ne hq5.h (by intro i x h; rcases i with _ | _ | _ | _ | _ | _ | i <;> simp at h)
        have nw3 := f3.ne hq5.h (by intro i x h; rcases i with _ | _ | _ | _ | _ | _ | i <;> simp at h)
        have r1 := fun v0 v1 v2 v3 v4 v5 => ((((((f1'.setNe nw1 (v := v0) (i := 0)).setNe nw1 (v := v1) (i := 1)).setNe nw1 (v := v2) (i := 2)).setNe nw1 (v := v3) (i := 3)).setNe nw1 (v := v4) (i := 4)).setNe nw1 (v := v5) (i := 5))
        have r2 := fun v0 v1 v2 v3 v4 v5 => ((((((f2'.setNe nw2 (v := v0) (i := 0)).setNe nw2 (v := v1) (i := 1)).setNe nw2 (v := v2) (i := 2)).setNe nw2 (v := v3) (i := 3)).setNe nw2 (v := v4) (i := 4)).setNe nw2 (v := v5) (i := 5))
        have r3 := fun v0 v1 v2 v3 v4 v5 => ((((((f3.setNe nw3 (v := v0) (i := 0)).setNe nw3 (v := v1) (i := 1)).setNe nw3 (v := v2) (i := 2)).setNe nw3 (v := v3) (i := 3)).setNe nw3 (v := v4) (i := 4)).setNe nw3 (v := v5) (i := 5))
        exact ret_cellS rfl Tryz.underlying96 shr_size rfl rfl (set6 hq5.h _ _ _ _ _ _) rfl ⟨_, _, _, hE2.out, q1, B1, d1', m1, q2, B2, d2', m2, q3, B3, d3', m3, rfl, z1, z2, z3, k1', k2', k3', r1 _ _ _ _ _ _, r2 _ _ _ _ _ _, r3 _ _ _ _ _ _, ((((((bb3.setCell (Nat.le_refl _) _).setCell (Nat.le_refl _) _).setCell (Nat.le_refl _) _).setCell (Nat.le_refl _) _).setCell (Nat.le_refl _) _).setCell (Nat.le_refl _) _)⟩
end Nm
end Go.Proofs.YtlhmbbpkhahbeaaGreatDoor
namespace Go.Proofs.YtlhmbbpkhahbeaaGreatDoor
namespace Nm
open Go.RowKit Go.Shelf Go.BigFrame
attribute [local go_sem] Oper.semAt_some
/-- what Gcd returns: a divisor and factors, or an error -/
def GcdIs (ok : Bool) (a b g x y er : Int) : Prop := (ok = true → er = 0 ∧ GcdOf a b g x y) ∧ (ok = false → er = 1 ∧ g = 0 ∧ x = 0 ∧ y = 0)
def RetT3 (ok : Bool) (a b : Int) (w : World) (e : Ending) (w' : World) : Prop :=
  ∃ g x y er s1 A1 c1 l1 s2 A2 c2 l2 s3 A3 c3 l3, GcdIs ok a b g x y er ∧ e = .returned (.tuple #[.agg #[.bool s1, .slice A1 l1.length c1, .bool s2, .slice A2 l2.length c2, .bool s3, .slice A3 l3.length c3], .int .i64 er]) ∧ IsZ s1 l1 g ∧ IsZ s2 l2 x ∧ IsZ s3 l3 y ∧
    l1.length ≤ c1 ∧ l2.length ≤ c2 ∧ l3.length ≤ c3 ∧ Rd w' A1 l1 ∧ Rd w' A2 l2 ∧ Rd w' A3 l3 ∧ Below w.heap.size w w'
def Ret3E (ok : Bool) (a b : Int) (w : World) (e : Ending) (w' : World) : Prop :=
  ∃ g x y er s1 A1 c1 l1 s2 A2 c2 l2 s3 A3 c3 l3, GcdIs ok a b g x y er ∧ e = .returned (.tuple #[iv s1 A1 l1.length c1, iv s2 A2 l2.length c2, iv s3 A3 l3.length c3, .int .i64 er]) ∧ IsZ s1 l1 g ∧ IsZ s2 l2 x ∧ IsZ s3 l3 y ∧
    l1.length ≤ c1 ∧ l2.length ≤ c2 ∧ l3.length ≤ c3 ∧ Rd w' A1 l1 ∧ Rd w' A2 l2 ∧ Rd w' A3 l3 ∧ Below w.heap.size w w'
theorem try_gcd (g1 g2 : Nat) (n1 n2 : Bool) (A1 A2 : Option Addr) (c1 c2 : Nat) (l1 l2 : List Nat) (w : World) (h1 : IntBox w g1 n1 A1 c1 l1) (h2 : IntBox w g2 n2 A2 c2 l2) :
    Calls Tryz.prog 57 #[.func (.func 58) #[] #[.pointer (some ⟨g1, 0, none⟩), .pointer (some ⟨g2, 0, none⟩)]] w (RetT3 (okI n1 l1 && okI n2 l2) (toZ n1 l1) (toZ n2 l2) w) := by
  have hB : ∀ o o', Below w.heap.size w ((w.alloc o).alloc o') := fun o o' => ((Below.refl _ w).alloc (Nat.le_refl _) _).alloc (by simp) _
  by_cases hok : (okI n1 l1 && okI n2 l2) = true
  · have hok' := hok
    rw [Bool.and_eq_true] at hok'
    have k1 := okI_isInt h1.rd.words hok'.1
    have k2 := okI_isInt h2.rd.words hok'.2
    refine (try_shr_ok 58 _ (enters_of Tryz.func58 (by kernel_rfl) rfl) w _ rfl (fun s1 A1 m1 c1 s2 A2 m2 c2 s3 A3 m3 c3 w1 => ∃ g x y l1' l2' l3', GcdOf (toZ n1 l1) (toZ n2 l2) g x y ∧ m1 = l1'.length ∧ m2 = l2'.length ∧ m3 = l3'.length ∧ IsZ s1 l1' g ∧ IsZ s2 l2' x ∧ IsZ s3 l3' y ∧ l1'.length ≤ c1 ∧ l2'.length ≤ c2 ∧ l3'.length ≤ c3 ∧ Rd w1 A1 l1' ∧ Rd w1 A2 l2' ∧ Rd w1 A3 l3')
      ((gcd1_ok g1 g2 n1 n2 A1 A2 c1 c2 l1 l2 _ (h1.on (hB _ _)) (h2.on (hB _ _)) k1 k2 hok).mono ?_)).mono ?_
    · rintro e w' ⟨g, x, y, hg, s1, B1, d1, m1, s2, B2, d2, m2, s3, B3, d3, m3, rfl, z1, z2, z3, e1, e2, e3, f1, f2, f3, b⟩
      exact ⟨s1, B1, _, d1, s2, B2, _, d2, s3, B3, _, d3, rfl, ⟨g, x, y, m1, m2, m3, hg, rfl, rfl, rfl, z1, z2, z3, e1, e2, e3, f1, f2, f3⟩, b⟩
    · rintro e w' ⟨s1, B1, _, d1, s2, B2, _, d2, s3, B3, _, d3, w1, ⟨g, x, y, m1, m2, m3, hg, rfl, rfl, rfl, z1, z2, z3, e1, e2, e3, f1, f2, f3⟩, b, hr, rfl⟩
      exact ⟨g, x, y, 0, s1, B1, d1, m1, s2, B2, d2, m2, s3, B3, d3, m3, ⟨fun _ => ⟨rfl, hg⟩, fun h => by rw [hok] at h; cases h⟩, rfl, z1, z2, z3, e1, e2, e3, hr _ _ f1, hr _ _ f2, hr _ _ f3, b⟩
  · refine (try_shr_wrong 58 _ (enters_of Tryz.func58 (by kernel_rfl) rfl) w _ rfl 1 (gcd1_bad g1 g2 n1 n2 A1 A2 c1 c2 l1 l2 _ (h1.on (hB _ _)) (h2.on (hB _ _)) (by simpa using hok))).mono ?_
    rintro e w' ⟨b, rfl⟩
    exact ⟨0, 0, 0, 1, false, none, 0, [], false, none, 0, [], false, none, 0, [], ⟨fun h => absurd h hok, fun _ => ⟨rfl, rfl, rfl, rfl⟩⟩, rfl, isZ_zero, isZ_zero, isZ_zero, Nat.le_refl _, Nat.le_refl _, Nat.le_refl _, Rd.nil _ _, Rd.nil _ _, Rd.nil _ _, b⟩
theorem ret_ccct {fn : Func} {p q r u : Tmp} (h : fn.results = #[.cell p 24, .cell q 24, .cell r 24, .tmp u]) {a : Act} {w : World} {g1 g2 g3 : Nat} {x1 y1 x2 y2 x3 y3 : Value} {R : Ending → World → Prop} (hd0 : a.defers = []) (hp : a.tmps.getD p undef = .pointer (some ⟨g1, 0, none⟩)) (hq : a.tmps.getD q undef = .pointer (some ⟨g2, 0, none⟩)) (hr : a.tmps.getD r undef = .pointer (some ⟨g3, 0, none⟩))
    (hg1 : w.heap[g1]? = some (.cells #[x1, y1] 24 (0, 0))) (hg2 : w.heap[g2]? = some (.cells #[x2, y2] 24 (0, 0))) (hg3 : w.heap[g3]? = some (.cells #[x3, y3] 24 (0, 0))) (hR : R (.returned (.tuple #[.agg #[x1, y1], .agg #[x2, y2], .agg #[x3, y3], a.tmps.getD u undef])) w) : bodyPost Tryz.prog fn R .ret a w := by
  refine bodyPost_ret (v := .tuple #[.agg #[x1, y1], .agg #[x2, y2], .agg #[x3, y3], a.tmps.getD u undef]) ?_ hd0 hR
  have e1 := run_loadVar_row (P := Tryz.prog) w g1 24 24 #[x1, y1] (0, 0) _ hg1 Tryz.underlying24 rfl int_size
  have e2 := run_loadVar_row (P := Tryz.prog) w g2 24 24 #[x2, y2] (0, 0) _ hg2 Tryz.underlying24 rfl int_size
  have e3 := run_loadVar_row (P := Tryz.prog) w g3 24 24 #[x3, y3] (0, 0) _ hg3 Tryz.underlying24 rfl int_size
  rw [Array.getD_eq_getD_getElem?] at hp hq hr
  simp [results, h, hp, hq, hr, asAddr, Result.andThen, e1, e2, e3, Sem.run_bind]
set_option maxRecDepth 100000 in
set_option maxHeartbeats 8000000 in
theorem Gcd_calls (n1 n2 : Bool) (A1 A2 : Option Addr) (c1 c2 : Nat) (l1 l2 : List Nat) (w : World) (h1 : Rd w A1 l1) (h2 : Rd w A2 l2) (hc1 : l1.length ≤ c1) (hc2 : l2.length ≤ c2) :
    Calls Tryz.prog 19 #[iv n1 A1 l1.length c1, iv n2 A2 l2.length c2] w (Ret3E (okI n1 l1 && okI n2 l2) (toZ n1 l1) (toZ n2 l2) w) := by
  have hmf : ∀ (fn : Fn) (first cap : Array Value) (w : World), (Instr.makeFunc fn first cap).run Tryz.prog w = .ok (.func fn first cap) w := fun _ _ _ _ => rfl
  have hall := allocs_get w [.cells #[.bool n1, .slice A1 l1.length c1] 24, .cells #[.bool n2, .slice A2 l2.length c2] 24, .cells #[.bool false, .slice none 0 0] 24, .cells #[.bool false, .slice none 0 0] 24, .cells #[.bool false, .slice none 0 0] 24]
  have hb4 := (allocs_stp w [.cells #[.bool n1, .slice A1 l1.length c1] 24, .cells #[.bool n2, .slice A2 l2.length c2] 24, .cells #[.bool false, .slice none 0 0] 24, .cells #[.bool false, .slice none 0 0] 24, .cells #[.bool false, .slice none 0 0] 24] (Nat.le_refl _)).below
  have hsz := allocs_size w [.cells #[.bool n1, .slice A1 l1.length c1] 24, .cells #[.bool n2, .slice A2 l2.length c2] 24, .cells #[.bool false, .slice none 0 0] 24, .cells #[.bool false, .slice none 0 0] 24, .cells #[.bool false, .slice none 0 0] 24]
  obtain ⟨W4, hW4⟩ : ∃ W4, allocs w [.cells #[.bool n1, .slice A1 l1.length c1] 24, .cells #[.bool n2, .slice A2 l2.length c2] 24, .cells #[.bool false, .slice none 0 0] 24, .cells #[.bool false, .slice none 0 0] 24, .cells #[.bool false, .slice none 0 0] 24] = W4 := ⟨_, rfl⟩
  rw [hW4] at hall hb4 hsz
  simp only [allocs] at hW4
  have B1 : IntBox W4 w.heap.size n1 A1 c1 l1 := ⟨hall 0 (by simp), h1.on hb4, hc1⟩
  have B2 : IntBox W4 (w.heap.size + 1) n2 A2 c2 l2 := ⟨hall 1 (by simp), h2.on hb4, hc2⟩
  have hR1 : Blk W4 (w.heap.size + 1 + 1) #[.bool false, .slice none 0 0] 24 := ⟨hall 2 (by simp)⟩
  have hR2 : Blk W4 (w.heap.size + 1 + 1 + 1) #[.bool false, .slice none 0 0] 24 := ⟨hall 3 (by simp)⟩
  have hR3 : Blk W4 (w.heap.size + 1 + 1 + 1 + 1) #[.bool false, .slice none 0 0] 24 := ⟨hall 4 (by simp)⟩
  have hsz' : W4.heap.size = w.heap.size + 5 := hsz
  have ht := try_gcd _ _ n1 n2 A1 A2 c1 c2 l1 l2 W4 B1 B2
  have Hsz := Lib.hid hsz'
  clear hsz hsz' hall
  go_enter Tryz.func19, Tryz.ntmps19
  go_wp2_with (go_at_call 57; refine ht.mono ?_; rintro e w5 ⟨g, x, y, er, s5, A5, c5, l5, s6, A6, c6, l6, s7, A7, c7, l7, hg, rfl, z5, z6, z7, n5, n6, n7, r5, r6, r7, b5⟩)
  have hb6 : Below w5.heap.size w5 (w5.alloc (.cells #[.bool s5, .slice A5 l5.length c5, .bool s6, .slice A6 l6.length c6, .bool s7, .slice A7 l7.length c7] 96)) := (Below.refl _ _).alloc (Nat.le_refl _) _
  have hX := World.alloc_heap_new w5 (.cells #[.bool s5, .slice A5 l5.length c5, .bool s6, .slice A6 l6.length c6, .bool s7, .slice A7 l7.length c7] 96)
  have q1 := (hR1.on b5).on hb6
  have q2 := (hR2.on b5).on hb6
  have q3 := (hR3.on b5).on hb6
  have p1 := r5.on hb6
  have p2 := r6.on hb6
  have p3 := r7.on hb6
  have bb := hb4.trans ((b5.mono hb4.size).trans (hb6.mono (Nat.le_trans hb4.size b5.size)))
  have hs5 := b5.size
  have hsz := Hsz.out
  clear hW4
  generalize (w5.alloc (.cells #[.bool s5, .slice A5 l5.length c5, .bool s6, .slice A6 l6.length c6, .bool s7, .slice A7 l7.length c7] 96)) = W6 at *
  obtain ⟨B, hB⟩ : ∃ B, w5.heap.size = B := ⟨_, rfl⟩
  obtain ⟨G1, hG1⟩ : ∃ G1, w.heap.size + 1 + 1 = G1 := ⟨_, rfl⟩
  obtain ⟨G2, hG2⟩ : ∃ G2, G1 + 1 = G2 := ⟨_, rfl⟩
  obtain ⟨G3, hG3⟩ : ∃ G3, G2 + 1 = G3 := ⟨_, rfl⟩
  have d12 : ¬ G1 = G2 := by omega
  have d21 : ¬ G2 = G1 := by omega
  have d13 : ¬ G1 = G3 := by omega
  have d31 : ¬ G3 = G1 := by omega
  have d23 : ¬ G2 = G3 := by omega
  have d32 : ¬ G3 = G2 := by omega
  have d3 : ¬ G1 = B := by omega
  have d4 : ¬ B = G1 := by omega
  have d5 : ¬ G2 = B := by omega
  have d6 : ¬ B = G2 := by omega
  have d7 : ¬ G3 = B := by omega
  have d8 : ¬ B = G3 := by omega
  have k1 : w.heap.size ≤ G1 := by omega
  have k2 : w.heap.size ≤ G2 := by omega
  have k3 : w.heap.size ≤ G3 := by omega
  rw [hB] at hX ⊢
  rw [hG1] at q1 q2 q3 ⊢
  rw [hG2] at q2 q3 ⊢
  rw [hG3] at q3 ⊢
  clear hB hG1 hG2 hG3 hs5 hsz
  have x0 := cell_at hX 0 _ rfl
  have x1 := cell_at hX 1 _ rfl
  have x2 := cell_at hX 2 _ rfl
  have x3 := cell_at hX 3 _ rfl
  have x4 := cell_at hX 4 _ rfl
  have x5 := cell_at hX 5 _ rfl
  have y0 := cell_at q1.h 0 _ rfl
  have y1 := cell_at q1.h 1 _ rfl
  have y2 := cell_at q2.h 0 _ rfl
  have y3 := cell_at q2.h 1 _ rfl
  have y4 := cell_at q3.h 0 _ rfl
  have y5 := cell_at q3.h 1 _ rfl
  have u0 := frozen_at q1.h 0
  have u1 := frozen_at q1.h 1
  have u2 := frozen_at q2.h 0
  have u3 := frozen_at q2.h 1
  have u4 := frozen_at q3.h 0
  have u5 := frozen_at q3.h 1
  go_region
  go_wp2_with fail
  have nw : ∀ {v1 v2 : Value}, (∀ x : Int, v1 ≠ .int .u32 x) → (∀ x : Int, v2 ≠ .int .u32 x) → ∀ (i : Nat) (x : Int), (#[v1, v2] : Array Value)[i]? = some (.int .u32 x) → False := by
    intro v1 v2 h1 h2 i x h
    rcases i with _ | _ | i <;> simp at h
    · exact h1 _ h
    · exact h2 _ h
  have keep : ∀ {X : World} {A : Option Addr} {l : List Nat}, Rd X A l → (∀ b o, A = some ⟨b, o, none⟩ → 0 < l.length → b ≠ G1) → (∀ b o, A = some ⟨b, o, none⟩ → 0 < l.length → b ≠ G2) → (∀ b o, A = some ⟨b, o, none⟩ → 0 < l.length → b ≠ G3) → ∀ v1 v2 v3 v4 v5 v6 : Value,
      Rd ((((((X.setCell ⟨G1, 0, none⟩ v1).setCell ⟨G1, 1, none⟩ v2).setCell ⟨G2, 0, none⟩ v3).setCell ⟨G2, 1, none⟩ v4).setCell ⟨G3, 0, none⟩ v5).setCell ⟨G3, 1, none⟩ v6) A l :=
    fun h m1 m2 m3 _ _ _ _ _ _ => (((((h.setNe m1).setNe m1).setNe m2).setNe m2).setNe m3).setNe m3
  have o : ∀ {X : World} {a : Addr} {v : Value} {g : Nat}, ¬ a.block = g → (X.setCell a v).heap[g]? = X.heap[g]? := fun {X a v g} h => Below.heap_setCell _ _ _ g (by first | exact h | exact fun e => h e.symm)
  exact ret_ccct rfl rfl rfl rfl rfl (heap_drew _ _ ((o d31).trans ((o d31).trans ((o d21).trans ((o d21).trans (set_blk (set_blk q1.h 0 _) 1 _))))))
    (heap_drew _ _ ((o d32).trans ((o d32).trans (set_blk (set_blk ((o d12).trans ((o d12).trans q2.h)) 0 _) 1 _))))
    (heap_drew _ _ (set_blk (set_blk ((o d23).trans ((o d23).trans ((o d13).trans ((o d13).trans q3.h)))) 0 _) 1 _))
    ⟨g, x, y, er, s5, A5, c5, l5, s6, A6, c6, l6, s7, A7, c7, l7, hg, rfl, z5, z6, z7, n5, n6, n7,
      (keep p1 (p1.ne q1.h (nw (by simp) (by simp))) (p1.ne q2.h (nw (by simp) (by simp))) (p1.ne q3.h (nw (by simp) (by simp))) _ _ _ _ _ _).on (below_drew (Below.refl _ _)),
      (keep p2 (p2.ne q1.h (nw (by simp) (by simp))) (p2.ne q2.h (nw (by simp) (by simp))) (p2.ne q3.h (nw (by simp) (by simp))) _ _ _ _ _ _).on (below_drew (Below.refl _ _)),
      (keep p3 (p3.ne q1.h (nw (by simp) (by simp))) (p3.ne q2.h (nw (by simp) (by simp))) (p3.ne q3.h (nw (by simp) (by simp))) _ _ _ _ _ _).on (below_drew (Below.refl _ _)),
      below_drew ((((((bb.setCell k1 _).setCell k1 _).setCell k2 _).setCell k2 _).setCell k3 _).setCell k3 _)⟩
end Nm
end Go.Proofs.YtlhmbbpkhahbeaaGreatDoor
namespace Go.Proofs.YtlhmbbpkhahbeaaGreatDoor
namespace Nm
open Go.RowKit Go.Shelf Go.BigFrame
attribute [local go_sem] Oper.semAt_some
/-- the value of a digit; m of other bytes -/
def digV (m c : Nat) : Nat := if 65 ≤ c ∧ c ≤ 90 then c - 55 else if 97 ≤ c ∧ c ≤ 122 then c - 87 else if 48 ≤ c ∧ c ≤ 57 then c - 48 else m
set_option maxRecDepth 100000 in
set_option maxHeartbeats 2000000 in
theorem value_calls (c : Nat) (hc : c < 256) (w : World) :
    Calls Tryz.prog 31 #[.int .u8 (c : Int)] w fun e w' => e = .returned (.int .i64 (digV 36 c : Nat)) ∧ w = w' := by
  by_cases h1 : 65 ≤ c ∧ c ≤ 90
  · have hd : ((digV 36 c : Nat) : Int) = (c : Int) + 32 - 97 + 10 := by unfold digV; rw [if_pos h1]; omega
    rw [hd]
    obtain ⟨a1, a2⟩ := h1
    have a3 : (65 : Int) ≤ (c : Int) := by omega
    have a4 : (c : Int) ≤ 90 := by omega
    clear hd
    go_enter Tryz.func31, Tryz.ntmps31
    go_wp2
    go_ret
    exact ⟨rfl, rfl⟩
  · by_cases h2 : 97 ≤ c ∧ c ≤ 122
    · have hd : ((digV 36 c : Nat) : Int) = (c : Int) - 97 + 10 := by unfold digV; rw [if_neg h1, if_pos h2]; omega
      rw [hd]
      obtain ⟨a1, a2⟩ := h2
      have a3 : ¬ c ≤ 90 := by omega
      have a4 : 65 ≤ c := by omega
      have a5 : ¬ (c : Int) ≤ 90 := by omega
      clear hd h1
      go_enter Tryz.func31, Tryz.ntmps31
      go_wp2
      go_ret
      exact ⟨rfl, rfl⟩
    · by_cases h3 : 48 ≤ c ∧ c ≤ 57
      · have hd : ((digV 36 c : Nat) : Int) = (c : Int) - 48 := by unfold digV; rw [if_neg h1, if_neg h2, if_pos h3]; omega
        rw [hd]
        obtain ⟨a1, a2⟩ := h3
        have a3 : ¬ 65 ≤ c := by omega
        have a4 : ¬ 97 ≤ c := by omega
        clear hd h1 h2
        go_enter Tryz.func31, Tryz.ntmps31
        go_wp2
        go_ret
        exact ⟨rfl, rfl⟩
      · have hd : digV 36 c = 36 := by unfold digV; rw [if_neg h1, if_neg h2, if_neg h3]
        rw [hd]
        clear hd
        have k1 : (decide (65 ≤ c) && decide (c ≤ 90)) = false := by rw [← Bool.not_eq_true]; simpa using h1
        have k2 : (decide (97 ≤ c) && decide (c ≤ 122)) = false := by rw [← Bool.not_eq_true]; simpa using h2
        have k3 : (decide (48 ≤ c) && decide (c ≤ 57)) = false := by rw [← Bool.not_eq_true]; simpa using h3
        rcases (show c < 48 ∨ (58 ≤ c ∧ c < 65) ∨ (90 < c ∧ c < 97) ∨ 122 < c by omega) with h | ⟨h, h'⟩ | ⟨h, h'⟩ | h
        · have b1 : ¬ 65 ≤ c := by omega
          have b2 : ¬ 97 ≤ c := by omega
          have b3 : ¬ 48 ≤ c := by omega
          clear h1 h2 h3 k1 k2 k3 h
          go_enter Tryz.func31, Tryz.ntmps31
          go_wp2
          go_ret
          exact ⟨rfl, rfl⟩
        · have b1 : ¬ 65 ≤ c := by omega
          have b2 : ¬ 97 ≤ c := by omega
          have b3 : 48 ≤ c := by omega
          have b4 : ¬ c ≤ 57 := by omega
          clear h1 h2 h3 k1 k2 k3 h h'
          go_enter Tryz.func31, Tryz.ntmps31
          go_wp2
          go_ret
          exact ⟨rfl, rfl⟩
        · have b1 : 65 ≤ c := by omega
          have b2 : ¬ 97 ≤ c := by omega
          have b3 : 48 ≤ c := by omega
          have b4 : ¬ c ≤ 57 := by omega
          have b5 : ¬ c ≤ 90 := by omega
          clear h1 h2 h3 k1 k2 k3 h h'
          go_enter Tryz.func31, Tryz.ntmps31
          go_wp2
          go_ret
          exact ⟨rfl, rfl⟩
        · have b1 : 65 ≤ c := by omega
          have b2 : 97 ≤ c := by omega
          have b3 : 48 ≤ c := by omega
          have b4 : ¬ c ≤ 57 := by omega
          have b5 : ¬ c ≤ 90 := by omega
          have b6 : ¬ c ≤ 122 := by omega
          clear h1 h2 h3 k1 k2 k3 h
          go_enter Tryz.func31, Tryz.ntmps31
          go_wp2
          go_ret
          exact ⟨rfl, rfl⟩
/-- how many digits of a base fit into a limb -/
def many : Nat → Nat
  | 2 => 31
  | 3 => 20
  | 4 => 15
  | 5 => 13
  | 6 => 12
  | 7 => 11
  | 8 => 10
  | 9 => 10
  | 10 => 9
  | 11 => 9
  | 12 => 8
  | 13 => 8
  | 14 => 8
  | 15 => 8
  | 16 => 7
  | 17 => 7
  | 18 => 7
  | 19 => 7
  | 20 => 7
  | 21 => 7
  | 22 => 7
  | 23 => 7
  | _ => 6
theorem many_lt : ∀ b, 2 ≤ b → b ≤ 36 → b ^ many b < 4294967296 ∧ 4294967296 ≤ b ^ (many b + 1) ∧ 1 ≤ many b ∧ many b ≤ 31 := by
  intro b h1 h2
  have : ∀ b : Fin 37, 2 ≤ b.val → b.val ^ many b.val < 4294967296 ∧ 4294967296 ≤ b.val ^ (many b.val + 1) ∧ 1 ≤ many b.val ∧ many b.val ≤ 31 := by decide
  exact this ⟨b, by omega⟩ h1
set_option maxRecDepth 100000 in
set_option maxHeartbeats 2000000 in
theorem chunk_calls (b : Nat) (h1 : 2 ≤ b) (h2 : b ≤ 36) (w : World) :
    Calls Tryz.prog 26 #[.int .i64 (b : Int)] w fun e w' => e = .returned (.tuple #[.int .i64 (many b : Nat), .int .u32 (b ^ many b : Nat)]) ∧ w = w' := by
  obtain ⟨m1, m2, m3, m4⟩ := many_lt b h1 h2
  generalize many b = M at *
  have M2 := Lib.hid m2
  have M1 := Lib.hid m1
  clear m1 m2
  go_enter Tryz.func26, Tryz.ntmps26
  go_wp2
  go_loop [4, 5] (fun m u => ∃ k : Nat, 1 ≤ k ∧ k ≤ M ∧ m = .int .i64 (k : Int) ∧ u = .int .i64 ((b ^ k : Nat) : Int)) (fun m _ => M - (intOf m).toNat)
  case atStart => exact ⟨1, Nat.le_refl _, m3, rfl, by rw [Nat.pow_one]⟩
  case round =>
    obtain ⟨k, hk1, hk, rfl, rfl⟩ := hrel
    have hmono := Nat.pow_le_pow_right (show 0 < b by omega) hk
    obtain ⟨p, hp⟩ : ∃ p, b ^ k = p := ⟨_, rfl⟩
    obtain ⟨q, hq⟩ : ∃ q, p * b = q := ⟨_, rfl⟩
    have hpq : b ^ (k + 1) = q := by rw [Nat.pow_succ, hp, hq]
    have hpb : (p : Int) * (b : Int) = (q : Int) := by rw [← hq]; simp
    have hpl : p < 4294967296 := by rw [← hp]; have := M1.out; omega
    have hql : q < 154618822656 := by
      rw [← hq]
      exact Nat.lt_of_le_of_lt (Nat.mul_le_mul (show p ≤ 4294967295 by omega) h2) (by decide)
    rw [hp]
    have Hpq := Lib.hid hpq
    have Hp := Lib.hid hp
    by_cases hkm : k < M
    · have hlt : q < 4294967296 := by rw [← hpq]; exact Nat.lt_of_le_of_lt (Nat.pow_le_pow_right (by omega) hkm) M1.out
      have hlti : (q : Int) < 4294967296 := by omega
      clear hp hq hpq hmono
      go_wp2
      go_round
      case rel => exact ⟨k + 1, by omega, by omega, rfl, by rw [Hpq.out]⟩
      case measure => simp only [intOf]; omega
    · obtain rfl : k = M := by omega
      have hlt : ¬ q < 4294967296 := by rw [← hpq]; have := M2.out; omega
      have hlti : ¬ (q : Int) < 4294967296 := by omega
      clear hp hq hpq hmono hkm hk
      go_wp2
      go_ret2
      exact ⟨by show Ending.returned (.tuple #[.int .i64 (k : Int), .int .u32 (p : Int)]) = _; rw [← Hp.out, Int.natCast_pow], rfl⟩
end Nm
end Go.Proofs.YtlhmbbpkhahbeaaGreatDoor
namespace Go.Proofs.YtlhmbbpkhahbeaaGreatDoor
namespace Nm
open Go.RowKit Go.Shelf Go.BigFrame
attribute [local go_sem] Oper.semAt_some
/-- a block that holds an integer -/
structure HoldsZ (W : World) (g : Nat) (s : Bool) (A : Option Addr) (c : Nat) (l : List Nat) (z : Int) : Prop where
  blk : Blk W g #[.bool s, .slice A l.length c] 24
  isz : IsZ s l z
  rd : Rd W A l
  cap : l.length ≤ c
end Nm
end Go.Proofs.YtlhmbbpkhahbeaaGreatDoor
namespace Go.Proofs.YtlhmbbpkhahbeaaGreatDoor
namespace Nm
open Go.RowKit Go.Shelf Go.BigFrame
/-- the digits to a base, lowest first -/
def digs (b n : Nat) : List Nat := if _h : 2 ≤ b ∧ 0 < n then (n % b) :: digs b (n / b) else []
termination_by n
decreasing_by exact Nat.div_lt_self _h.2 (by omega)
theorem digs_zero (b : Nat) : digs b 0 = [] := by rw [digs]; simp
theorem digs_pos {b n : Nat} (hb : 2 ≤ b) (hn : 0 < n) : digs b n = (n % b) :: digs b (n / b) := by rw [digs, dif_pos ⟨hb, hn⟩]
theorem digs_lt {b : Nat} (hb : 2 ≤ b) : ∀ n, ∀ d ∈ digs b n, d < b := by
  intro n
  induction n using Nat.strongRecOn with
  | _ n ih =>
    intro d hd
    rcases Nat.eq_zero_or_pos n with h0 | h0
    · subst h0; rw [digs_zero] at hd; cases hd
    · rw [digs_pos hb h0, List.mem_cons] at hd
      rcases hd with rfl | hd
      · exact Nat.mod_lt _ (by omega)
      · exact ih _ (Nat.div_lt_self h0 (by omega)) d hd
/-- the number that digits make, highest first -/
def numOf (b : Nat) (ds : List Nat) : Nat := ds.foldl (fun a d => a * b + d) 0
theorem numOf_snoc (b : Nat) (ds : List Nat) (d : Nat) : numOf b (ds ++ [d]) = numOf b ds * b + d := by simp [numOf]
theorem numOf_digs {b : Nat} (hb : 2 ≤ b) : ∀ n, numOf b (digs b n).reverse = n := by
  intro n
  induction n using Nat.strongRecOn with
  | _ n ih =>
    rcases Nat.eq_zero_or_pos n with h0 | h0
    · subst h0; rw [digs_zero]; rfl
    · rw [digs_pos hb h0, List.reverse_cons, numOf_snoc, ih _ (Nat.div_lt_self h0 (by omega)), Nat.mul_comm]
      exact Nat.div_add_mod n b
theorem digs_length {b : Nat} (hb : 2 ≤ b) : ∀ m n, n < 2 ^ m → (digs b n).length ≤ m := by
  intro m
  induction m with
  | zero => intro n h; obtain rfl : n = 0 := by simpa using h
            rw [digs_zero]; simp
  | succ m ih =>
    intro n h
    rcases Nat.eq_zero_or_pos n with h0 | h0
    · subst h0; rw [digs_zero]; simp
    · rw [digs_pos hb h0]
      have : n / b < 2 ^ m := by
        rw [Nat.div_lt_iff_lt_mul (by omega)]
        refine Nat.lt_of_lt_of_le h ?_
        rw [Nat.pow_succ]
        exact Nat.mul_le_mul_left _ hb
      have := ih _ this
      simp; omega
theorem digs_step {b j q r : Nat} (hb : 2 ≤ b) : (q * b ^ (j + 1) + r) % b = r % b ∧ (q * b ^ (j + 1) + r) / b = q * b ^ j + r / b := by
  have e : q * b ^ (j + 1) + r = r + b * (q * b ^ j) := by
    rw [Nat.pow_succ, Nat.add_comm, ← Nat.mul_assoc, Nat.mul_comm b]
  constructor
  · rw [e, Nat.add_mul_mod_self_left]
  · rw [e, Nat.add_mul_div_left _ _ (by omega), Nat.add_comm]
/-- one more digit -/
theorem digs_one {b j q r : Nat} (hb : 2 ≤ b) (h : 0 < q ∨ 0 < r) : digs b (q * b ^ (j + 1) + r) = (r % b) :: digs b (q * b ^ j + r / b) := by
  have hpos : 0 < q * b ^ (j + 1) + r := by
    rcases h with h | h
    · have := Nat.mul_pos h (Nat.pow_pos (show 0 < b by omega) (n := j + 1)); omega
    · omega
  rw [digs_pos hb hpos, (digs_step hb).1, (digs_step hb).2]
/-- the byte of a digit -/
def chr (d : Nat) : Nat := if d < 10 then 48 + d else 87 + d
theorem chr_lt {d : Nat} (h : d < 36) : chr d < 128 := by unfold chr; split <;> omega
theorem digV_chr (m : Nat) {d : Nat} (h : d < 36) : digV m (chr d) = d := by
  unfold digV chr
  split
  · rw [if_neg (by omega), if_neg (by omega), if_pos (by omega)]; omega
  · rw [if_neg (by omega), if_pos (by omega)]; omega
/-- bytes as a string -/
def strB (l : List Nat) : ByteArray := ⟨(l.map UInt8.ofNat).toArray⟩
/-- the bytes of a text -/
def bytesN (s : ByteArray) : List Nat := s.data.toList.map UInt8.toNat
theorem bytesN_length (s : ByteArray) : (bytesN s).length = s.size := by
  show (s.data.toList.map UInt8.toNat).length = s.data.size
  rw [List.length_map, Array.length_toList]
theorem bytesN_lt (s : ByteArray) : ∀ c ∈ bytesN s, c < 256 := by
  intro c hc
  simp only [bytesN, List.mem_map] at hc
  obtain ⟨u, _, rfl⟩ := hc
  exact u.toNat_lt
/-- the text of a number to a base -/
def textL (neg : Bool) (b n : Nat) : List Nat := if n = 0 then [48] else (if neg then [45] else []) ++ ((digs b n).map chr).reverse
/-- what Text returns -/
def textR (n1 : Bool) (l1 : List Nat) (b : Int) : List Nat × Int := if okI n1 l1 && (decide (2 ≤ b) && decide (b ≤ 36)) then (textL n1 b.toNat (val l1), 0) else ([], 1)
end Nm
end Go.Proofs.YtlhmbbpkhahbeaaGreatDoor
namespace Go.Proofs.YtlhmbbpkhahbeaaGreatDoor
namespace Nm
open Go.RowKit Go.Shelf Go.BigFrame
attribute [local go_sem] Oper.semAt_some
/-- a slice that lies below base, or in a block of words -/
def Typd (base : Nat) (W : World) (A : Option Addr) : Prop := ∀ b o, A = some ⟨b, o, none⟩ → b < base ∨ ∃ cur, W.heap[b]? = some (.cells cur 50 (0, 0))
def Ret2T (n : Nat) (m : Nat) (w : World) (e : Ending) (w' : World) : Prop :=
  ∃ A c, e = .returned (.tuple #[.slice A (lim n).length c, .int .u32 (m : Int)]) ∧ (lim n).length ≤ c ∧ Rd w' A (lim n) ∧ Typd 0 w' A ∧ Below w.heap.size w w'
theorem Typd.mono {n m : Nat} {W : World} {A : Option Addr} (h : Typd n W A) (hm : n ≤ m) : Typd m W A := fun b o e => (h b o e).imp (fun h => by omega) id
theorem Typd.lower {m : Nat} {W : World} {A : Option Addr} (h : Typd 0 W A) : Typd m W A := h.mono (Nat.zero_le _)
set_option maxRecDepth 100000 in
set_option maxHeartbeats 2000000 in
theorem small_typed (A : Option Addr) (c b : Nat) (l : List Nat) (w : World) (h1 : Rd w A l) (_hc1 : l.length ≤ c) (hb0 : 0 < b) (hb : b < 4294967296) (hsm : l.length ≤ 1048576) :
    Calls Tryz.prog 27 #[.slice A l.length c, .int .u32 (b : Int)] w (Ret2T (val l / b) (val l % b) w) := by
  have hs1 := h1.small
  have hmk := make_nat (l.length : Int) (l.length : Int) l.length l.length rfl rfl (by omega) (by omega)
  go_enter Tryz.func27, Tryz.ntmps27
  go_wp2
  clear hmk
  go_loopw [7, 8] (fun r i W => ∃ (k rest : Nat) (qs : List Nat), k ≤ l.length ∧ rest < b ∧ r = .int .u64 (rest : Int) ∧ i = .int .i64 ((k : Int) - 1) ∧ Hid (qs.length + k = l.length) ∧ Words qs ∧ Arr W w.heap.size (List.replicate k 0 ++ qs) ∧ Below w.heap.size w W ∧ Hid (val (l.drop k) = b * val qs + rest)) (fun _ i _ => (intOf i + 1).toNat)
  case atStart => exact ⟨l.length, 0, [], Nat.le_refl _, hb0, rfl, rfl, Nat.zero_add _, words_nil, by rw [List.append_nil]; exact arr_new _ _, (Below.refl _ _).alloc (Nat.le_refl _) _, by simp [Hid, val]⟩
  case round =>
    obtain ⟨k, rest, qs, hk, hrb, rfl, rfl, hql, hqw, harr, hbl, hval⟩ := hrel
    rename_i wr
    by_cases h0 : 0 < k
    · obtain ⟨k, rfl⟩ : ∃ j, k = j + 1 := ⟨k - 1, by omega⟩
      obtain ⟨bb, o, x, rfl, hcx, hx, hxb⟩ := h1.get k (by omega)
      have hbb := World.block_lt_of_cell? w _ hcx
      replace hcx := (hbl.cell (p := ⟨bb, o + k, none⟩) hbb).trans hcx
      obtain ⟨u, g4⟩ : ∃ u : Nat, wr.cell? ⟨w.heap.size, k, none⟩ = some (.int .u32 (u : Int)) := ⟨_, arr_cell harr k (by simp; omega)⟩
      have f4 := arr_frozen harr k
      rw [show ((k + 1 : Nat) : Int) - 1 = (k : Int) by omega]
      clear h0
      obtain ⟨t, t1, t2, t3⟩ : ∃ t : Nat, bits .or .u64 ((rest : Int) * 4294967296) (x : Int) = (t : Int) ∧ Hid (t = rest * BB + x) ∧ t < 18446744073709551616 := by
        have e : (rest : Int) * 4294967296 = ((rest * 4294967296 : Nat) : Int) := by simp
        refine ⟨rest * BB + x, ?_, rfl, by show rest * 4294967296 + x < 18446744073709551616; omega⟩
        rw [e]
        exact or_u64' x (rest * 4294967296) 32 hxb (by show rest * 4294967296 % 4294967296 = 0; omega) (by omega) (by omega)
      obtain ⟨z, z1, z2, z3⟩ : ∃ z : Nat, (t : Int) / (b : Int) = (z : Int) ∧ Hid (z = (rest * BB + x) / b) ∧ z < 4294967296 := ⟨t / b, by simp, by rw [← t2.out]; rfl, by rw [t2.out]; exact small_bound hrb hxb⟩
      obtain ⟨r, r1, r2, r3⟩ : ∃ r : Nat, (t : Int) % (b : Int) = (r : Int) ∧ Hid (r = (rest * BB + x) % b) ∧ r < b := ⟨t % b, by simp, by rw [← t2.out]; rfl, Nat.mod_lt _ hb0⟩
      go_wp2
      rw [r1]
      refine ⟨⟨k, r, z :: qs, by omega, r3, rfl, rfl, by have := hql.out; show (z :: qs).length + k = l.length; simp; omega, words_cons.2 ⟨z3, hqw⟩, ?_, hbl.setCell (Nat.le_refl _) _, small_step (by omega) hx.out hval.out z2.out r2.out⟩, by simp [intOf]⟩
      rw [← set_front]
      exact arr_set harr k z
    · obtain rfl : k = 0 := by omega
      have hlen : qs.length = l.length := by have := hql.out; omega
      have hrd := arr_rd (by simpa using harr : Arr wr w.heap.size qs) hqw (by omega)
      have hv : val l = b * val qs + rest := by have := hval.out; rwa [List.drop_zero] at this
      have hq : val qs = val l / b := by rw [hv, Nat.add_comm, Nat.add_mul_div_left _ _ hb0, Nat.div_eq_of_lt hrb, Nat.zero_add]
      have hr : rest = val l % b := by rw [hv, Nat.mul_add_mod, Nat.mod_eq_of_lt hrb]
      have ht := trim_calls (some ⟨w.heap.size, 0, none⟩) l.length qs wr hrd (by omega)
      have hval' : trim qs = lim (val l / b) := by unfold trim; rw [hq]
      have hrd2 := hrd.trim
      have hty : Typd 0 wr (some ⟨w.heap.size, 0, none⟩) := fun b o e => by
        cases e
        obtain ⟨cur, hc, -⟩ := harr
        exact .inr ⟨cur, hc⟩
      have htl := trim_length_le hqw
      rw [hval'] at hrd2 htl ht
      rw [hlen] at ht htl
      clear hval hv hq hval' hlen harr
      have Hr := Lib.hid hr
      clear hr
      go_wp2_with (go_at_call 63; refine ht.mono ?_; rintro e w' ⟨rfl, rfl⟩)
      go_ret2
      refine ⟨_, _, ?_, htl, hrd2, hty, hbl⟩
      rw [← Hr.out]
      rfl
/-- bytes in cells -/
def bvals (l : List Nat) : List Value := l.map fun (n : Nat) => Value.int .u8 (n : Int)
theorem bvals_append (l m : List Nat) : bvals (l ++ m) = bvals l ++ bvals m := List.map_append
/-- the block g begins with the bytes l, and none is frozen -/
def RdB (W : World) (g : Nat) (l : List Nat) : Prop := ∀ i, i < l.length → W.cell? ⟨g, i, none⟩ = some (.int .u8 ((l.getD i 0 : Nat) : Int)) ∧ W.frozen? ⟨g, i, none⟩ = false
theorem own_bytes {w : World} {base n : Nat} {v : Value} {l : List Nat} (h : w.ownsRow base 5 1 v n (bvals l)) (hp : 0 < l.length) :
    ∃ g c, v = .slice (some ⟨g, 0, none⟩) l.length c ∧ n = l.length ∧ n ≤ c ∧ base ≤ g ∧ g < w.heap.size ∧ RdB w g l := by
  have hl : l.length = n := by simpa [bvals] using h.1
  rcases h.2 with ⟨rfl, rfl⟩ | ⟨g, cap, cur, rfl, hb, hg, hk, hm, hcs, ht⟩
  · omega
  · refine ⟨g, cap, by rw [hl], hl.symm, hk, hb, (Array.getElem?_eq_some_iff.1 hg).1, fun i hi => ⟨?_, by simp [World.frozen?, hg]⟩⟩
    have h1 : (cur.toList.take n)[i]? = some (.int .u8 ((l.getD i 0 : Nat) : Int)) := by
      rw [show n = n * 1 by omega, ht]; simp [bvals, hi, List.getD_eq_getElem?_getD]
    rw [List.getElem?_take_of_lt (by omega)] at h1
    simp only [World.cell?, hg, Option.isSome_none, Bool.false_eq_true, if_false]
    simpa using h1
theorem RdB.set {W : World} {g : Nat} {l : List Nat} (h : RdB W g l) (i x : Nat) (hi : i < l.length) : RdB (W.setCell ⟨g, i, none⟩ (.int .u8 (x : Int))) g (l.set i x) := by
  intro k hk
  rw [List.length_set] at hk
  obtain ⟨h1, h2⟩ := h k hk
  refine ⟨?_, by rw [World.frozen?_setCell]; exact h2⟩
  by_cases e : i = k
  · subst e
    rw [List.getD_eq_getElem?_getD, List.getElem?_set_self hi]
    exact World.cell?_setCell_same W _ _ h1
  · rw [List.getD_eq_getElem?_getD, List.getElem?_set_ne e, ← List.getD_eq_getElem?_getD]
    exact (World.cell?_setCell_other W _ _ _ (by intro e'; cases e'; exact e rfl)).trans h1
theorem RdB.drewN {W : World} {g : Nat} {l : List Nat} (h : RdB W g l) (n : Nat) : RdB (W.drewN n) g l := fun i hi => h i hi
theorem RdB.drew {W : World} {g : Nat} {l : List Nat} (h : RdB W g l) : RdB W.drew g l := fun i hi => h i hi
theorem getD_set (l : List Nat) (i k x : Nat) (hi : i < l.length) : (l.set i x).getD k 0 = if i = k then x else l.getD k 0 := by
  split
  · rename_i e; subst e; rw [List.getD_eq_getElem?_getD, List.getElem?_set_self hi]; rfl
  · rename_i e; rw [List.getD_eq_getElem?_getD, List.getElem?_set_ne e, ← List.getD_eq_getElem?_getD]
theorem reverse_of {l dk : List Nat} (h : dk.length = l.length) (hd : ∀ k, k < l.length → dk.getD k 0 = l.getD (l.length - 1 - k) 0) : dk = l.reverse := by
  apply List.ext_getElem
  · simpa using h
  · intro k h1 h2
    have := hd k (by omega)
    rw [List.getD_eq_getElem?_getD, List.getD_eq_getElem?_getD, List.getElem?_eq_getElem h1, List.getElem?_eq_getElem (by omega)] at this
    rw [List.getElem_reverse]
    simpa using this
set_option maxRecDepth 100000 in
set_option maxHeartbeats 2000000 in
theorem rev_calls (g c n0 : Nat) (l : List Nat) (w : World) (h : RdB w g l) (hn : n0 ≤ g) (hsm : l.length ≤ 1048576) :
    Calls Tryz.prog 28 #[.slice (some ⟨g, 0, none⟩) l.length c] w fun e w' => e = .returned (.tuple #[]) ∧ RdB w' g l.reverse ∧ Below n0 w w' := by
  go_enter Tryz.func28, Tryz.ntmps28
  go_wp2
  go_loopw [2, 3] (fun iv jv W => ∃ (i : Nat) (dk : List Nat), iv = .int .i64 (i : Int) ∧ jv = .int .i64 ((l.length : Int) - 1 - i) ∧ 2 * i ≤ l.length + 1 ∧ RdB W g dk ∧ Hid (dk.length = l.length) ∧ Hid (∀ k, k < l.length → dk.getD k 0 = if k < i ∨ l.length - 1 - k < i then l.getD (l.length - 1 - k) 0 else l.getD k 0) ∧ Below n0 w W) (fun i _ _ => l.length + 1 - (intOf i).toNat)
  case atStart => exact ⟨0, l, rfl, by simp, by omega, h, rfl, fun k hk => by simp, Below.refl _ _⟩
  case round =>
    obtain ⟨i, dk, rfl, rfl, hi, hr, hdl, hd, hbl⟩ := hrel
    by_cases hlt : i + i + 1 < l.length
    · obtain ⟨j, hj⟩ : ∃ j, l.length - 1 - i = j := ⟨_, rfl⟩
      have hj2 : (l.length : Int) - 1 - (i : Int) = (j : Int) := by omega
      have hij : i < j := by omega
      have hjl : j < l.length := by omega
      obtain ⟨ci, fi⟩ := hr i (by rw [hdl.out]; omega)
      obtain ⟨cj, fj⟩ := hr j (by rw [hdl.out]; omega)
      rw [hj2]
      obtain ⟨x, hx⟩ : ∃ x, dk.getD i 0 = x := ⟨_, rfl⟩
      obtain ⟨y, hy⟩ : ∃ y, dk.getD j 0 = y := ⟨_, rfl⟩
      rw [hx] at ci
      rw [hy] at cj
      have Hx := Lib.hid hx
      have Hy := Lib.hid hy
      have Hj := Lib.hid hj
      have ne1 : ¬ i = j := by omega
      have hi2 : 2 * (i + 1) ≤ l.length + 1 := by omega
      have ne2 : ¬ j = i := by omega
      clear hx hy hj hj2 hlt
      go_wp2_with fail
      go_region
      go_wp2
      refine ⟨⟨i + 1, (dk.set i y).set j x, by simp, ?_, by omega, ?_, ?_, ?_, ((hbl.setCell hn _).setCell hn _).drew⟩, by simp [intOf]; omega⟩
      · have := Hj.out
        congr 1
        omega
      · exact ((hr.set i y (by rw [hdl.out]; omega)).set j x (by rw [List.length_set, hdl.out]; omega)).drew
      · show _ = _
        rw [List.length_set, List.length_set]; exact hdl.out
      · intro k hk
        have hj := Hj.out
        have hd' := hd.out
        have e1 := hd' i (by omega)
        have e2 := hd' j hjl
        rw [Hx.out, if_neg (by omega)] at e1
        rw [Hy.out, if_neg (by omega)] at e2
        rw [getD_set _ _ _ _ (by rw [List.length_set, hdl.out]; omega), getD_set _ _ _ _ (by rw [hdl.out]; omega), hd' k hk]
        by_cases h1 : j = k
        · rw [if_pos h1, if_pos (by omega), e1]; congr 1; omega
        · rw [if_neg h1]
          by_cases h2 : i = k
          · rw [if_pos h2, if_pos (by omega), e2]; congr 1; omega
          · rw [if_neg h2]
            by_cases h3 : k < i ∨ l.length - 1 - k < i
            · rw [if_pos h3, if_pos (by omega)]
            · rw [if_neg h3, if_neg (by omega)]
    · have hnl : ¬ (i : Int) < (l.length : Int) - 1 - (i : Int) := by omega
      go_wp2
      go_end0
      refine ⟨rfl, ?_, hbl⟩
      rw [← reverse_of hdl.out (fun k hk => ?_)]
      · exact hr
      · rw [hd.out k hk]
        by_cases h1 : k < i ∨ l.length - 1 - k < i
        · rw [if_pos h1]
        · rw [if_neg h1]; congr 1; omega
end Nm
end Go.Proofs.YtlhmbbpkhahbeaaGreatDoor
namespace Go.Proofs.YtlhmbbpkhahbeaaGreatDoor
namespace Nm
open Go.RowKit Go.Shelf Go.BigFrame
attribute [local go_sem] Oper.semAt_some
theorem two_below {w : World} (a b : Obj) : Below w.heap.size w ((w.alloc a).alloc b) := ((Below.refl _ w).alloc (Nat.le_refl _) _).alloc (by simp) _
end Nm
end Go.Proofs.YtlhmbbpkhahbeaaGreatDoor
namespace Go.Proofs.YtlhmbbpkhahbeaaGreatDoor
namespace Nm
open Go.RowKit Go.Shelf Go.BigFrame
attribute [local go_sem] Oper.semAt_some
/-- block 0 holds the digits -/
def DigW (W : World) : Prop := ∀ i, i < 36 → W.cell? ⟨0, i, none⟩ = some (.int .u8 ((chr i : Nat) : Int))
theorem DigW.on {w W : World} (h : DigW w) (hb : Below w.heap.size w W) : DigW W := fun i hi => (hb.cell (p := ⟨0, i, none⟩) (World.block_lt_of_cell? w _ (h i hi))).trans (h i hi)
theorem info_u8 : (Tryz.prog.info? 5).map (fun i => (i.zero, i.size, i.bytes)) = some (some (.int .u8 0), 1, 1) := by kernel_rfl
theorem underl_bytes : Tryz.prog.underlying 53 = some (.slice 5) := by kernel_rfl
theorem own_slice {w : World} {base n : Nat} {e : TypeId} {v : Value} {xs : List Value} (h : w.ownsRow base e 1 v n xs) : ∃ A c, v = .slice A n c := by
  rcases h.2 with ⟨rfl, rfl⟩ | ⟨g, cap, cur, rfl, -⟩
  · exact ⟨none, 0, rfl⟩
  · exact ⟨_, _, rfl⟩
theorem own_on {w W : World} {base n : Nat} {e : TypeId} {v : Value} {xs : List Value} (h : w.ownsRow base e 1 v n xs) (hb : Below w.heap.size w W) : W.ownsRow base e 1 v n xs := by
  refine ⟨h.1, ?_⟩
  rcases h.2 with hn | ⟨g, cap, cur, rfl, h1, h2, h3⟩
  · exact .inl hn
  · exact .inr ⟨g, cap, cur, rfl, h1, (hb.block g (Array.getElem?_eq_some_iff.1 h2).1).trans h2, h3⟩
theorem own_base8 {w : World} {base n : Nat} {e : TypeId} {v : Value} {xs : List Value} (h : w.ownsRow base e 1 v n xs) : ∀ j, v.ownBlock = some j → base ≤ j := by
  intro j e
  rcases h.2 with ⟨rfl, rfl⟩ | ⟨g, cap, cur, rfl, hb, _⟩
  · cases e
  · cases e; exact hb
theorem typd_on {n : Nat} {w W : World} {A : Option Addr} (h : Typd n w A) (hb : Below w.heap.size w W) : Typd n W A := fun b o e =>
  (h b o e).imp id fun ⟨cur, hc⟩ => ⟨cur, (hb.block b (Array.getElem?_eq_some_iff.1 hc).1).trans hc⟩
/-- words in a block of another type are not touched by an append to bytes that are owned -/
theorem rd_grown {w w' : World} {base n : Nat} {v : Value} {xs : List Value} {A : Option Addr} {l : List Nat} (h : Rd w A l) (ht : Typd base w A) (hown : w.ownsRow base 5 1 v n xs) (hg : w.grownBy w' v.ownBlock) :
    Rd w' A l ∧ Typd base w' A := by
  have hne : ∀ b o, A = some ⟨b, o, none⟩ → some b ≠ v.ownBlock := by
    intro b o e hb
    rcases hown.2 with ⟨rfl, -⟩ | ⟨g, cap, cur, rfl, h1, h2, -⟩
    · cases hb
    · have hb' : b = g := by simpa [Value.ownBlock] using hb
      subst hb'
      rcases ht b o e with h3 | ⟨cur', h3⟩
      · omega
      · rw [h2] at h3
        have : (5 : TypeId) = 50 := by injection h3 with h3; injection h3
        exact absurd this (by decide)
  refine ⟨⟨fun i hi => ?_, h.words, h.small⟩, fun b o e => (ht b o e).imp id fun ⟨cur, hc⟩ => ⟨cur, (hg.block b (Array.getElem?_eq_some_iff.1 hc).1 (hne b o e)).trans hc⟩⟩
  obtain ⟨b, o, e, hc⟩ := h.cell i hi
  exact ⟨b, o, e, hg.cell hc (hne b o e)⟩
theorem conv_bytes (W : World) (g c : Nat) (l : List Nat) (h : RdB W g l) (hl : ∀ x ∈ l, x < 256) :
    (convert 53 9 (.slice (some ⟨g, 0, none⟩) l.length c)).run Tryz.prog W = .ok (.string (strB l)) W := by
  have := run_convert_bytes_back (P := Tryz.prog) W 53 9 5 ⟨g, 0, none⟩ c (l.map UInt8.ofNat) (by kernel_rfl) (by kernel_rfl) (by kernel_rfl) (fun j hj => by
    rw [List.length_map] at hj
    have e := (h j hj).1
    have hx : l.getD j 0 < 256 := by
      rw [List.getD_eq_getElem?_getD, List.getElem?_eq_getElem hj]
      exact hl _ (List.getElem_mem hj)
    have ha : (⟨g, 0, none⟩ : Addr).add j = ⟨g, j, none⟩ := by unfold Addr.add; split <;> simp_all
    rw [ha, e, List.getElem_map]
    rw [List.getD_eq_getElem?_getD, List.getElem?_eq_getElem hj] at hx ⊢
    simp only [Option.getD_some] at hx ⊢
    rw [UInt8.toNat_ofNat', Nat.mod_eq_of_lt hx])
  rwa [List.length_map] at this
theorem val_bits {l : List Nat} (hw : Words l) : val l < 2 ^ (32 * l.length) := by
  have := val_lt hw
  rwa [show (2 : Nat) ^ (32 * l.length) = BB ^ l.length from by rw [Nat.pow_mul]]
set_option maxRecDepth 100000 in
set_option maxHeartbeats 4000000 in
theorem text1_ok (g1 g2 : Nat) (n1 : Bool) (b : Nat) (A1 : Option Addr) (c1 : Nat) (l1 : List Nat) (w : World) (h1 : IntBox w g1 n1 A1 c1 l1) (h2 : Blk w g2 #[.int .i64 (b : Int)] 3) (hdg : DigW w) (k1 : IsInt n1 l1) (hok : okI n1 l1 = true) (hb1 : 2 ≤ b) (hb2 : b ≤ 36) :
    Calls Tryz.prog 23 #[.pointer (some ⟨g1, 0, none⟩), .pointer (some ⟨g2, 0, none⟩)] w fun e w' => e = .returned (.string (strB (textL n1 b (val l1)))) ∧ Below w.heap.size w w' := by
  obtain ⟨i0, hi, hz0, hz1, hz2⟩ := info_parts info_u8
  have hbt := underl_bytes
  have x0 := cell_at h1.blk 0 _ rfl
  have x1 := cell_at h1.blk 1 _ rfl
  have y0 := cell_at h2.h 0 _ rfl
  have t1 := (Array.getElem?_eq_some_iff.1 h1.blk).1
  have t2 := (Array.getElem?_eq_some_iff.1 h2.h).1
  have hb0 : ∀ o, Below w.heap.size w (w.alloc o) := fun o => (Below.refl _ w).alloc (Nat.le_refl _) _
  have hf := formed_one w.heap.size n1 A1 c1 l1 _ (World.alloc_heap_new w (.cells #[.bool n1, .slice A1 l1.length c1] 24)) (h1.rd.on (hb0 _)) h1.cap
  have hch := fun W => chunk_calls b hb1 hb2 W
  obtain ⟨m1, m2, m3, m4⟩ := many_lt b hb1 hb2
  generalize many b = M at *
  obtain ⟨U, hU⟩ : ∃ U, b ^ M = U := ⟨_, rfl⟩
  rw [hU] at hch m1
  have HU := Lib.hid hU
  have hU2 : 2 ≤ U := by
    rw [← hU]
    have := Nat.pow_le_pow_right (show 0 < b by omega) m3
    rw [Nat.pow_one] at this
    omega
  obtain ⟨N, hN⟩ : ∃ N, val l1 = N := ⟨_, rfl⟩
  have hlN := lim_val k1.canon
  rw [hN] at hlN ⊢
  have HlN := Lib.hid hlN
  have hNb : Hid ((digs b N).length ≤ 9600) := Nat.le_trans (digs_length hb1 (32 * l1.length) N (by rw [← hN]; exact val_bits h1.rd.words)) (by have := k1.small; omega)
  have hNs : Hid (∀ x, x ≤ N → (lim x).length ≤ 300) := fun x hx => Nat.le_trans (length_mono hx) (by rw [hlN]; exact k1.small)
  have HN0 : Hid (textL n1 b 0 = [48]) := rfl
  have HN1 : Hid (∀ N, 0 < N → textL n1 b N = (if n1 then [45] else []) ++ ((digs b N).map chr).reverse) := fun N h => if_neg (by omega)
  have dm : decide ((2 : Int) ≤ (b : Int)) = true := decide_eq_true (by omega)
  have dm2 : decide (b ≤ 36) = true := decide_eq_true (by omega)
  have dm3 : decide (2 ≤ b) = true := decide_eq_true (by omega)
  have dm4 : decide ((b : Int) ≤ 36) = true := decide_eq_true (by omega)
  clear hU m2 hN hlN
  go_enter Tryz.func23, Tryz.ntmps23
  go_wp2_with first
    | (go_at_call 24; refine hf.mono ?_; rintro e w' ⟨hp, -, hblf⟩; cases hp hok; have hb3 := (hb0 _).trans (hblf.mono (hb0 _).size); have p0 := cell_at (h1.on hb3).blk 0 _ rfl; have p1 := cell_at (h1.on hb3).blk 1 _ rfl; have p2 := cell_at (h2.on hb3).h 0 _ rfl)
    | (go_at_call 25; refine (must_ok 1 _).mono ?_; rintro e w4 ⟨rfl, rfl⟩)
    | (go_at_call 26; refine (hch _).mono ?_; rintro e w4 ⟨rfl, rfl⟩)
  go_loopw [5, 6] (fun ov xv W => ∃ (ds : List Nat) (x : Nat) (A : Option Addr) (c : Nat), xv = .slice A (lim x).length c ∧ (lim x).length ≤ c ∧ Rd W A (lim x) ∧ Hid (0 < x → Typd w.heap.size W A) ∧ x ≤ N ∧ W.ownsRow w.heap.size 5 1 ov ds.length (bvals ds) ∧ Below w.heap.size w W ∧ Hid (ds ++ (digs b x).map chr = (digs b N).map chr)) (fun _ xv W => slotVal xv W)
  case atStart =>
    refine ⟨[], N, A1, c1, ?_, ?_, ?_, ?_, Nat.le_refl _, World.ownsRow_nil _ _ _ _, hb3, List.nil_append _⟩
    · rw [HlN.out]
    · rw [HlN.out]; exact h1.cap
    · rw [HlN.out]; exact h1.rd.on hb3
    · intro h0 b' o' e
      have hl0 : 0 < l1.length := by rw [← HlN.out]; exact lim_length_pos h0
      obtain ⟨b'', o'', e', hc⟩ := h1.rd.cell 0 hl0
      rw [e] at e'
      cases e'
      exact .inl (World.block_lt_of_cell? w _ hc)
  case round =>
    obtain ⟨ds, x, A, c, rfl, hcap, hrd, hty, hxN, hown, hbl, hds⟩ := hrel
    have hdgr := (hdg.on (hbl.mono (Nat.le_refl _)))
    have q2 := cell_at (h2.on hbl).h 0 _ rfl
    by_cases hx : 0 < x
    · have hxl : 0 < (lim x).length := lim_length_pos hx
      have hsm := small_typed A c U (lim x) wr hrd hcap (by omega) m1 (by have := hNs.out x hxN; omega)
      rw [val_lim] at hsm
      obtain ⟨q, hq⟩ : ∃ q, x / U = q := ⟨_, rfl⟩
      obtain ⟨r, hr⟩ : ∃ r, x % U = r := ⟨_, rfl⟩
      have hxe : q * U + r = x := by rw [← hq, ← hr, Nat.mul_comm]; exact Nat.div_add_mod x U
      have hru : r < U := by rw [← hr]; exact Nat.mod_lt _ (by omega)
      have hqx : q < x := by rw [← hq]; exact Nat.div_lt_self hx hU2
      rw [hq, hr] at hsm
      have Hxe := Lib.hid hxe
      have Hqx := Lib.hid hqx
      have Hru := Lib.hid hru
      have hob := own_base8 hown
      have Hvx := Lib.hid (slotVal_eq hrd (d := c))
      clear hq hr hxe hqx
      go_wp2_with (go_at_call 27; refine hsm.mono ?_; rintro e w5 ⟨Aq, cq, rfl, nq, rq, tq, b5⟩; have hbl5 := hbl.trans (b5.mono hbl.size); have hown5 := own_on hown b5; have q5 := cell_at (h2.on hbl5).h 0 _ rfl)
      go_loopw [5, 8, 9] (fun ov rv kv W => ∃ (ds' : List Nat) (r' k : Nat), rv = .int .u32 (r' : Int) ∧ kv = .int .i64 (k : Int) ∧ k ≤ M ∧ Hid (r' < b ^ (M - k)) ∧ r' < 4294967296 ∧ Rd W Aq (lim q) ∧ Typd w.heap.size W Aq ∧ W.ownsRow w.heap.size 5 1 ov ds'.length (bvals ds') ∧ Below w.heap.size w W ∧ Hid (ds' ++ (digs b (q * b ^ (M - k) + r')).map chr = (digs b N).map chr)) (fun _ _ kv _ => M - (intOf kv).toNat)
      case atStart =>
        refine ⟨ds, r, 0, rfl, rfl, Nat.zero_le _, ?_, by have := Hru.out; omega, rq, tq.lower, hown5, hbl5, ?_⟩
        · show r < b ^ (M - 0)
          rw [Nat.sub_zero, HU.out]; exact Hru.out
        · show ds ++ (digs b (q * b ^ (M - 0) + r)).map chr = _
          rw [Nat.sub_zero, HU.out, Hxe.out]; exact hds.out
      case round =>
        obtain ⟨ds', r', k, rfl, rfl, hkM, hrm, hr32, hrq, htq, howi, hbi, hdd⟩ := hrel
        rcases (show (k < M ∧ 0 < r') ∨ (k < M ∧ r' = 0 ∧ 0 < q) ∨ (k < M ∧ r' = 0 ∧ q = 0) ∨ k = M by omega) with ⟨g1', g2'⟩ | ⟨g1', g2', g3'⟩ | ⟨g1', g2', rfl⟩ | rfl
        · have hkI : (k : Int) < (M : Int) := by omega
          have hda : r' % b < 36 := Nat.lt_of_lt_of_le (Nat.mod_lt _ (by omega)) hb2
          have hone := digs_one (b := b) (j := M - k - 1) (q := q) (r := r') hb1 (.inr g2')
          have hlt := hrm.out
          rw [show M - k = M - k - 1 + 1 by omega] at hlt
          have hlt2 : r' / b < b ^ (M - k - 1) := by
            rw [Nat.div_lt_iff_lt_mul (by omega), ← Nat.pow_succ]; exact hlt
          have hds2 := hdd.out
          rw [show M - k = M - k - 1 + 1 by omega, hone, List.map_cons] at hds2
          have hcell := (hdg.on hbi) (r' % b) hda
          obtain ⟨d, e1, e1'⟩ : ∃ d : Nat, (r' : Int) % (b : Int) = (d : Int) ∧ r' % b = d := ⟨r' % b, by simp, rfl⟩
          obtain ⟨r2, e2, e2'⟩ : ∃ r2 : Nat, (r' : Int) / (b : Int) = (r2 : Int) ∧ r' / b = r2 := ⟨r' / b, by simp, rfl⟩
          rw [e1'] at hcell hds2 hda
          rw [e2'] at hds2 hlt2
          have hr2 : r2 < 4294967296 := by rw [← e2']; exact Nat.lt_of_le_of_lt (Nat.div_le_self _ _) hr32
          obtain ⟨z, hz⟩ : ∃ z, chr d = z := ⟨_, rfl⟩
          rw [hz] at hcell hds2
          have hz256 : z < 256 := by have := chr_lt hda; omega
          have Hds2 := Lib.hid (show (ds' ++ [z]) ++ (digs b (q * b ^ (M - k - 1) + r2)).map chr = (digs b N).map chr by rw [List.append_assoc]; exact hds2)
          have Hlt2 := Lib.hid hlt2
          have hdl : ds'.length < 10000 := by
            have := congrArg List.length hds2
            rw [List.length_append, List.length_map] at this
            have h2 := hNb.out
            omega
          have hob2 := own_base8 howi
          have q9 := cell_at (h2.on hbi).h 0 _ rfl
          have hgrow := fun W' (hg : wr.grownBy W' _) => rd_grown hrq htq howi hg
          clear hone hlt hlt2 hds2 hz e1' e2' g1'
          go_wp2_with first
            | (at_builtin; (refine wpList_append_own2 _ rfl _ _ 53 53 rfl w.heap.size 5 5 i0 (.int .u8 0) 1 1 hbt hbt hi hz0 hz1 hz2 rfl (by decide) _ _ _ rfl (howi.alloc _) ⟨wr.heap.size, 0, none⟩ 1 1 [.int .u8 (z : Int)] rfl rfl (cell_one_new _ _ _) (by simp [Value.oneCell']) (by unfold maxLen; omega) (by omega) (by have := hbi.size; simp; omega) ?_); intro v' w6 hown' hg6 _; have hb6 := (hbi.alloc hbi.size _).grown hg6 (by have := hbi.size; simp; omega) (fun j e => hob2 j e); have q6 := cell_at (h2.on hb6).h 0 _ rfl; have hal := (Below.refl wr.heap.size wr).alloc (Nat.le_refl _) (.cells #[.int .u8 (z : Int)] 5); obtain ⟨r6, t6⟩ := rd_grown (hrq.on hal) (typd_on htq hal) (howi.alloc _) hg6)
          refine ⟨⟨ds' ++ [z], r2, k + 1, rfl, by simp, by omega, ?_, hr2, r6, t6, ?_, hb6, ?_⟩, by simp only [intOf]; omega⟩
          · rw [show M - (k + 1) = M - k - 1 by omega]; exact Hlt2
          · rw [bvals_append, List.length_append]; exact hown'
          · rw [show M - (k + 1) = M - k - 1 by omega]; exact Hds2
        · have hkI : (k : Int) < (M : Int) := by omega
          have hql : 0 < (lim q).length := lim_length_pos g3'
          have hnr : ¬ 0 < r' := by omega
          have hnI : ¬ (0 : Int) < (r' : Int) := by omega
          clear g2'
          have hda : r' % b < 36 := Nat.lt_of_lt_of_le (Nat.mod_lt _ (by omega)) hb2
          have hone := digs_one (b := b) (j := M - k - 1) (q := q) (r := r') hb1 (.inl g3')
          have hlt := hrm.out
          rw [show M - k = M - k - 1 + 1 by omega] at hlt
          have hlt2 : r' / b < b ^ (M - k - 1) := by
            rw [Nat.div_lt_iff_lt_mul (by omega), ← Nat.pow_succ]; exact hlt
          have hds2 := hdd.out
          rw [show M - k = M - k - 1 + 1 by omega, hone, List.map_cons] at hds2
          have hcell := (hdg.on hbi) (r' % b) hda
          obtain ⟨d, e1, e1'⟩ : ∃ d : Nat, (r' : Int) % (b : Int) = (d : Int) ∧ r' % b = d := ⟨r' % b, by simp, rfl⟩
          obtain ⟨r2, e2, e2'⟩ : ∃ r2 : Nat, (r' : Int) / (b : Int) = (r2 : Int) ∧ r' / b = r2 := ⟨r' / b, by simp, rfl⟩
          rw [e1'] at hcell hds2 hda
          rw [e2'] at hds2 hlt2
          have hr2 : r2 < 4294967296 := by rw [← e2']; exact Nat.lt_of_le_of_lt (Nat.div_le_self _ _) hr32
          obtain ⟨z, hz⟩ : ∃ z, chr d = z := ⟨_, rfl⟩
          rw [hz] at hcell hds2
          have hz256 : z < 256 := by have := chr_lt hda; omega
          have Hds2 := Lib.hid (show (ds' ++ [z]) ++ (digs b (q * b ^ (M - k - 1) + r2)).map chr = (digs b N).map chr by rw [List.append_assoc]; exact hds2)
          have Hlt2 := Lib.hid hlt2
          have hdl : ds'.length < 10000 := by
            have := congrArg List.length hds2
            rw [List.length_append, List.length_map] at this
            have h2 := hNb.out
            omega
          have hob2 := own_base8 howi
          have q9 := cell_at (h2.on hbi).h 0 _ rfl
          have hgrow := fun W' (hg : wr.grownBy W' _) => rd_grown hrq htq howi hg
          clear hone hlt hlt2 hds2 hz e1' e2' g1'
          go_wp2_with first
            | (at_builtin; (refine wpList_append_own2 _ rfl _ _ 53 53 rfl w.heap.size 5 5 i0 (.int .u8 0) 1 1 hbt hbt hi hz0 hz1 hz2 rfl (by decide) _ _ _ rfl (howi.alloc _) ⟨wr.heap.size, 0, none⟩ 1 1 [.int .u8 (z : Int)] rfl rfl (cell_one_new _ _ _) (by simp [Value.oneCell']) (by unfold maxLen; omega) (by omega) (by have := hbi.size; simp; omega) ?_); intro v' w6 hown' hg6 _; have hb6 := (hbi.alloc hbi.size _).grown hg6 (by have := hbi.size; simp; omega) (fun j e => hob2 j e); have q6 := cell_at (h2.on hb6).h 0 _ rfl; have hal := (Below.refl wr.heap.size wr).alloc (Nat.le_refl _) (.cells #[.int .u8 (z : Int)] 5); obtain ⟨r6, t6⟩ := rd_grown (hrq.on hal) (typd_on htq hal) (howi.alloc _) hg6)
          refine ⟨⟨ds' ++ [z], r2, k + 1, rfl, by simp, by omega, ?_, hr2, r6, t6, ?_, hb6, ?_⟩, by simp only [intOf]; omega⟩
          · rw [show M - (k + 1) = M - k - 1 by omega]; exact Hlt2
          · rw [bvals_append, List.length_append]; exact hown'
          · rw [show M - (k + 1) = M - k - 1 by omega]; exact Hds2
        · have hkI : (k : Int) < (M : Int) := by omega
          have hE := hdd.out
          rw [Nat.zero_mul, Nat.zero_add, g2', digs_zero] at hE
          have HE := Lib.hid (show ds' ++ (digs b 0).map chr = (digs b N).map chr by rw [digs_zero]; exact hE)
          have hnr : ¬ 0 < r' := by omega
          have hnI : ¬ (0 : Int) < (r' : Int) := by omega
          have hz0' : ¬ 0 < (lim 0).length := by rw [lim_zero]; exact Nat.lt_irrefl _
          have hzI' : ¬ (0 : Int) < ((lim 0).length : Int) := by omega
          have Hn := Lib.hid (slotVal_eq hrq (d := cq))
          obtain ⟨L0, hL0⟩ : ∃ L, (lim 0).length = L := ⟨_, rfl⟩
          rw [hL0] at Hn nq hz0' hzI' ⊢
          have HL0 := Lib.hid hL0
          clear hE g1' g2' hL0
          go_wp2_with fail
          refine ⟨⟨ds', 0, Aq, cq, ?_, ?_, hrq, fun _ => htq, Nat.zero_le _, howi, hbi, HE⟩, ?_⟩
          · rw [HL0.out]
          · rw [HL0.out]; exact nq
          · rw [Hvx.out, Hn.out, val_lim, val_lim]; exact hx
        · have hE := hdd.out
          have hr0 : r' = 0 := by have := hrm.out; rw [Nat.sub_self, Nat.pow_zero] at this; omega
          rw [Nat.sub_self, Nat.pow_zero, Nat.mul_one, hr0, Nat.add_zero] at hE
          have HE := Lib.hid hE
          have Hn := Lib.hid (slotVal_eq hrq (d := cq))
          clear hE hr0
          go_wp2_with fail
          refine ⟨⟨ds', q, Aq, cq, rfl, nq, hrq, fun _ => htq, by have := Hqx.out; omega, howi, hbi, HE⟩, ?_⟩
          rw [Hvx.out, Hn.out, val_lim, val_lim]
          exact Hqx.out
    · obtain rfl : x = 0 := by omega
      have hz0' : ¬ 0 < (lim 0).length := by rw [lim_zero]; exact Nat.lt_irrefl _
      have hzI' : ¬ (0 : Int) < ((lim 0).length : Int) := by omega
      obtain ⟨L0, hL0⟩ : ∃ L, (lim 0).length = L := ⟨_, rfl⟩
      rw [hL0] at hcap hz0' hzI' ⊢
      have hE := hds.out
      rw [digs_zero, List.map_nil, List.append_nil] at hE
      have HE := Lib.hid hE
      have hdl : ds.length < 10000 := by
        rw [hE, List.length_map]
        have h2 := hNb.out
        omega
      have p9 := cell_at (h1.on hbl).blk 0 _ rfl
      have hob := own_base8 hown
      by_cases hd0 : ds.length = 0
      · obtain ⟨Ao, co, rfl⟩ := own_slice hown
        have hN0 : N = 0 := by
          rcases Nat.eq_zero_or_pos N with h | h
          · exact h
          · rw [hE, List.length_map, digs_pos hb1 h] at hd0
            cases hd0
        have HN0' := Lib.hid hN0
        rw [hd0]
        clear hE hN0 hd0 hL0
        go_wp2_with fail
        go_ret
        exact ⟨by rw [HN0'.out, HN0.out]; rfl, hbl⟩
      · have hN0 : 0 < N := by
          rcases Nat.eq_zero_or_pos N with h | h
          · rw [hE, h, digs_zero] at hd0; exact absurd rfl hd0
          · exact h
        have htx := HN1.out N hN0
        rw [← hE] at htx
        have hlt36 : ∀ y ∈ ds, y < 256 := by
          intro y hy
          rw [hE, List.mem_map] at hy
          obtain ⟨d, hd, rfl⟩ := hy
          have := chr_lt (Nat.lt_of_lt_of_le (digs_lt hb1 N d hd) hb2)
          omega
        cases n1
        · have hE2 := Lib.hid (show textL false b N = ds.reverse by rw [htx]; rfl)
          obtain ⟨g, co, rfl, -, -, hbg, hgl, hRB⟩ := own_bytes hown (by omega)
          have hrev := rev_calls g co w.heap.size ds wr hRB hbg (by omega)
          have hcv := fun W (h : RdB W g ds.reverse) => by
            have := conv_bytes W g co ds.reverse h (fun y hy => hlt36 y (List.mem_reverse.1 hy))
            rwa [List.length_reverse] at this
          have hdI : ¬ (ds.length : Int) = 0 := by omega
          clear hE hN0 hd0 hL0 htx hlt36
          go_wp2_with first
            | (go_at_call 28; refine hrev.mono ?_; rintro e w7 ⟨rfl, hR7, hb7⟩; have hcv7 := hcv w7 hR7)
          go_ret
          exact ⟨by rw [hE2.out]; rfl, hbl.trans hb7⟩
        · have hE2 := Lib.hid (show textL true b N = (ds ++ [45]).reverse by rw [htx, List.reverse_append]; rfl)
          have hdI : ¬ (ds.length : Int) = 0 := by omega
          obtain ⟨Ao, co, rfl⟩ := own_slice hown
          have hlt36' : Hid (∀ y ∈ ds ++ [45], y < 256) := by
            intro y hy
            rcases List.mem_append.1 hy with h | h
            · exact hlt36 y h
            · simp at h; omega
          obtain ⟨es, hes⟩ : ∃ es, ds ++ [45] = es := ⟨_, rfl⟩
          have hel : Hid (es.length = ds.length + 1) := by show _ = _; rw [← hes, List.length_append]; rfl
          have hev : Hid (bvals es = bvals ds ++ [.int .u8 45]) := by show _ = _; rw [← hes, bvals_append]; rfl
          rw [hes] at hE2 hlt36'
          clear hE hN0 hd0 hL0 htx hlt36 hes
          go_wp2_with first
            | (at_builtin; (refine wpList_append_own2 _ rfl _ _ 53 53 rfl w.heap.size 5 5 i0 (.int .u8 0) 1 1 hbt hbt hi hz0 hz1 hz2 rfl (by decide) _ _ _ rfl (hown.alloc _) ⟨wr.heap.size, 0, none⟩ 1 1 [.int .u8 45] rfl rfl (cell_one_new _ _ _) (by simp [Value.oneCell']) (by unfold maxLen; omega) (by omega) (by have := hbl.size; simp; omega) ?_); intro v' w6 hown' hg6 _; have hb6 := (hbl.alloc hbl.size _).grown hg6 (by have := hbl.size; simp; omega) (fun j e => hob j e); rw [← hel.out, ← hev.out] at hown'; obtain ⟨g, co', rfl, -, -, hbg, hgl, hRB⟩ := own_bytes hown' (by rw [hel.out]; exact Nat.succ_pos _); have hsm' : es.length ≤ 1048576 := (by rw [hel.out]; omega))
            | (go_at_call 28; refine (rev_calls g co' w.heap.size es w6 hRB hbg hsm').mono ?_; rintro e w7 ⟨rfl, hR7, hb7⟩; have hcv7 := conv_bytes w7 g co' es.reverse hR7 (fun y hy => hlt36'.out y (List.mem_reverse.1 hy)); rw [List.length_reverse] at hcv7)
          go_ret
          exact ⟨by rw [hE2.out]; rfl, hb6.trans hb7⟩
end Nm
end Go.Proofs.YtlhmbbpkhahbeaaGreatDoor
namespace Go.Proofs.YtlhmbbpkhahbeaaGreatDoor
namespace Nm
open Go.RowKit Go.Shelf Go.BigFrame
attribute [local go_sem] Oper.semAt_some
/-- all but what the block g holds is as it was -/
structure But (g : Nat) (w w' : World) : Prop where
  low : Below g w w'
  high : ∀ k, g < k → k < w.heap.size → w'.heap[k]? = w.heap[k]?
theorem But.refl (g : Nat) (w : World) : But g w w := ⟨Below.refl _ _, fun _ _ _ => rfl⟩
theorem But.on {g : Nat} {w W W' : World} (h : But g w W) (hg : g < w.heap.size) (hb : Below W.heap.size W W') : But g w W' :=
  ⟨h.low.trans (hb.mono (by have := h.low.size; omega)), fun k h1 h2 => (hb.block k (by have := h.low.size; omega)).trans (h.high k h1 h2)⟩
theorem But.set {g : Nat} {w W : World} (h : But g w W) (i : Nat) (v : Value) : But g w (W.setCell ⟨g, i, none⟩ v) :=
  ⟨h.low.setCell (Nat.le_refl _) _, fun k h1 h2 => (Below.heap_setCell _ _ _ _ (by dsimp only; omega)).trans (h.high k h1 h2)⟩
theorem But.setNew {g : Nat} {w W : World} (h : But g w W) (hg : g < w.heap.size) {p : Addr} (hp : w.heap.size ≤ p.block) (v : Value) : But g w (W.setCell p v) :=
  ⟨h.low.setCell (by omega) _, fun k h1 h2 => (Below.heap_setCell _ _ _ _ (by omega)).trans (h.high k h1 h2)⟩
theorem But.size {g : Nat} {w W : World} (h : But g w W) : w.heap.size ≤ W.heap.size := h.low.size
theorem But.blk {g k : Nat} {w W : World} {cur : Array Value} {t : TypeId} (h : But g w W) (hk : k ≠ g) (hb : Blk w k cur t) : Blk W k cur t := by
  have hlt := (Array.getElem?_eq_some_iff.1 hb.h).1
  refine ⟨Eq.trans ?_ hb.h⟩
  rcases Nat.lt_or_gt_of_ne hk with h1 | h1
  · exact h.low.block k h1
  · exact h.high k h1 hlt
theorem But.trans {g : Nat} {a b c : World} (h : But g a b) (k : But g b c) : But g a c :=
  ⟨h.low.trans k.low, fun i h1 h2 => (k.high i h1 (Nat.lt_of_lt_of_le h2 h.low.size)).trans (h.high i h1 h2)⟩
theorem But.onLow {g : Nat} {w W W' : World} (h : But g w W) (hg : g < w.heap.size) (hb : Below w.heap.size W W') : But g w W' :=
  ⟨h.low.trans (hb.mono (by omega)), fun k h1 h2 => (hb.block k h2).trans (h.high k h1 h2)⟩
set_option maxRecDepth 100000 in
set_option maxHeartbeats 2000000 in
/-- 'try' over a closure that hands back an Int -/
theorem try_low_ok (m : Nat) (G : Nat) (caps : Array Value) (hG : ∀ (args : Array Value) (w : World), (callFunc G args).run Tryz.prog w = .ok (.enter G args) w) (w : World) (hm : m < w.heap.size) (W2 : World)
    (hW2 : (w.alloc (.cells #[.bool false, .slice none 0 0] 24)).alloc (.cells #[.int .i64 0] 27) = W2) (R : Bool → Option Addr → Nat → Nat → World → Prop)
    (h : Calls Tryz.prog G caps W2 fun e w' => ∃ s A n c, e = .returned (.agg #[.bool s, .slice A n c]) ∧ R s A n c w' ∧ But m W2 w') :
    Calls Tryz.prog 29 #[.func (.func G) #[] caps] w fun e w' =>
      ∃ s A n c w1, R s A n c w1 ∧ But m w w' ∧ (∀ A l, Rd w1 A l → Rd w' A l) ∧ e = .returned (.tuple #[.agg #[.bool s, .slice A n c], .int .i64 0]) := by
  have hmf : ∀ (fn : Fn) (first cap : Array Value) (w : World), (Instr.makeFunc fn first cap).run Tryz.prog w = .ok (.func fn first cap) w := fun _ _ _ _ => rfl
  have hz1 : W2.heap[w.heap.size]? = some (.cells #[.bool false, .slice none 0 0] 24 (0, 0)) := by rw [← hW2]; exact (Below.heap_alloc _ _ _ (by simp)).trans (World.alloc_heap_new w _)
  have hz2 : W2.heap[w.heap.size + 1]? = some (.cells #[.int .i64 0] 27 (0, 0)) := by rw [← hW2]; have := World.alloc_heap_new (w.alloc (.cells #[.bool false, .slice none 0 0] 24)) (.cells #[.int .i64 0] 27); rwa [World.size_alloc] at this
  have hsz : W2.heap.size = w.heap.size + 2 := by rw [← hW2]; simp
  have hb2 : Below w.heap.size w W2 := by rw [← hW2]; exact ((Below.refl _ w).alloc (Nat.le_refl _) _).alloc (by simp) _
  have Hsz := Lib.hid hsz
  clear hsz
  go_enter_defers Tryz.func29, Tryz.ntmps29
  go_wp2_with first
    | (refine h.mono ?_; rintro e w' ⟨s, A, n, c, rfl, hR, hbl⟩; have hy1 := (hbl.high w.heap.size hm (by have := Hsz.out; omega)).trans hz1; have hy2 := (hbl.high (w.heap.size + 1) (by omega) (by have := Hsz.out; omega)).trans hz2; have x0 := cell_at hy1 0 _ rfl; have x1 := cell_at hy1 1 _ rfl; have x2 := cell_at hy2 0 _ rfl; have y0 := frozen_at hy1 0; have y1 := frozen_at hy1 1; have y2 := frozen_at hy2 0)
  obtain ⟨X, hX⟩ : ∃ X, (((w'.setCell ⟨w.heap.size, 0, none⟩ (.bool s)).setCell ⟨w.heap.size, 1, none⟩ (.slice A n c)).setCell ⟨w.heap.size + 1, 0, none⟩ (.int .i64 0)) = X := ⟨_, rfl⟩
  have hx1 : X.heap[w.heap.size]? = some (.cells #[.bool s, .slice A n c] 24 (0, 0)) := by rw [← hX]; exact (Below.heap_setCell _ _ _ _ (by simp)).trans (set_blk (set_blk hy1 0 _) 1 _)
  have hx2 : X.heap[w.heap.size + 1]? = some (.cells #[.int .i64 0] 27 (0, 0)) := by rw [← hX]; exact set_blk ((Below.heap_setCell _ _ _ _ (by simp)).trans ((Below.heap_setCell _ _ _ _ (by simp)).trans hy2)) 0 _
  have hbX : But m w X := by rw [← hX]; exact (((((But.refl m w).on hm hb2).trans hbl).setNew hm (Nat.le_refl _) _).setNew hm (Nat.le_refl _) _).setNew hm (by simp) _
  have hRd : ∀ A l, Rd w' A l → Rd X A l := by
    intro A l hA
    rw [← hX]
    rcases Nat.eq_zero_or_pos l.length with h0 | h0
    · obtain rfl : l = [] := List.length_eq_zero_iff.1 h0
      exact Rd.nil _ _
    · obtain ⟨b, o, rfl⟩ := hA.head h0
      obtain ⟨b', o', e, hc⟩ := hA.cell 0 h0
      cases e
      have e1 : b ≠ w.heap.size := by
        rintro rfl
        simp only [World.cell?, hy1, Option.isSome_none, Bool.false_eq_true, if_false] at hc
        rcases Nat.lt_or_ge (o + 0) 2 with h | h
        · rcases (show o + 0 = 0 ∨ o + 0 = 1 by omega) with h | h <;> rw [h] at hc <;> simp at hc
        · rw [Array.getElem?_eq_none (by simpa using h)] at hc; cases hc
      have e2 : b ≠ w.heap.size + 1 := by
        rintro rfl
        simp only [World.cell?, hy2, Option.isSome_none, Bool.false_eq_true, if_false] at hc
        rcases Nat.lt_or_ge (o + 0) 1 with h | h
        · rw [show o + 0 = 0 by omega] at hc; simp at hc
        · rw [Array.getElem?_eq_none (by simpa using h)] at hc; cases hc
      exact grw_rd (grownBy_setCell_at _ _ _ _) (grw_rd (grownBy_setCell_at _ _ _ _) (grw_rd (grownBy_setCell_at _ _ _ _) hA (fun b o e => by cases e; exact e1)) (fun b o e => by cases e; exact e1)) (fun b o e => by cases e; exact e2)
  rw [hX]
  refine leaves_cons (f := 65) (args := #[.pointer (some ⟨w.heap.size, 0, none⟩), .pointer (some ⟨w.heap.size + 1, 0, none⟩)]) (by simp) (by simp [go_sem]) ?_
  refine (catch_idle_int ⟨w.heap.size, 0, none⟩ ⟨w.heap.size + 1, 0, none⟩ _).mono ?_
  rintro e u' w'' ⟨rfl, rfl, rfl⟩
  have v0 := cell_at hx1 0 _ rfl
  have v1 := cell_at hx1 1 _ rfl
  have v2 := cell_at hx2 0 _ rfl
  refine ⟨.tuple #[.agg #[.bool s, .slice A n c], .int .i64 0], ?_, s, A, n, c, w', hR, hbX, hRd, rfl⟩
  simp [results, Tryz.results29, go_sem, v0, v1, v2]
set_option maxRecDepth 100000 in
set_option maxHeartbeats 2000000 in
/-- 'try' over a closure that panics with 'wrong' -/
theorem try_low_wrong (m : Nat) (G : Nat) (caps : Array Value) (hG : ∀ (args : Array Value) (w : World), (callFunc G args).run Tryz.prog w = .ok (.enter G args) w) (w : World) (hm : m < w.heap.size) (W2 : World)
    (hW2 : (w.alloc (.cells #[.bool false, .slice none 0 0] 24)).alloc (.cells #[.int .i64 0] 27) = W2) (c : Int)
    (h : Calls Tryz.prog G caps W2 fun e w' => e = .panicked (wrong c) ∧ But m W2 w') :
    Calls Tryz.prog 29 #[.func (.func G) #[] caps] w fun e w' =>
      But m w w' ∧ e = .returned (.tuple #[.agg #[.bool false, .slice none 0 0], .int .i64 c]) := by
  have hmf : ∀ (fn : Fn) (first cap : Array Value) (w : World), (Instr.makeFunc fn first cap).run Tryz.prog w = .ok (.func fn first cap) w := fun _ _ _ _ => rfl
  have hz1 : W2.heap[w.heap.size]? = some (.cells #[.bool false, .slice none 0 0] 24 (0, 0)) := by rw [← hW2]; exact (Below.heap_alloc _ _ _ (by simp)).trans (World.alloc_heap_new w _)
  have hz2 : W2.heap[w.heap.size + 1]? = some (.cells #[.int .i64 0] 27 (0, 0)) := by rw [← hW2]; have := World.alloc_heap_new (w.alloc (.cells #[.bool false, .slice none 0 0] 24)) (.cells #[.int .i64 0] 27); rwa [World.size_alloc] at this
  have hsz : W2.heap.size = w.heap.size + 2 := by rw [← hW2]; simp
  have hb2 : Below w.heap.size w W2 := by rw [← hW2]; exact ((Below.refl _ w).alloc (Nat.le_refl _) _).alloc (by simp) _
  have Hsz := Lib.hid hsz
  clear hsz
  go_enter_defers Tryz.func29, Tryz.ntmps29
  go_wp2_with first
    | (refine h.mono ?_; rintro e w' ⟨rfl, hbl⟩)
  have hy1 := (hbl.high w.heap.size hm (by have := Hsz.out; omega)).trans hz1
  have hy2 := (hbl.high (w.heap.size + 1) (by omega) (by have := Hsz.out; omega)).trans hz2
  have hbw : But m w w' := ((But.refl m w).on hm hb2).trans hbl
  refine leaves_cons (f := 65) (args := #[.pointer (some ⟨w.heap.size, 0, none⟩), .pointer (some ⟨w.heap.size + 1, 0, none⟩)]) (by simp) (by simp [go_sem]) ?_
  refine (catch_wrong_int w.heap.size c [] _ _ _ _ hy1 hy2).mono ?_
  rintro e u' w'' ⟨rfl, rfl, hx1, hx2, hbx⟩
  have v0 := cell_at hx1 0 _ rfl
  have v1 := cell_at hx1 1 _ rfl
  have v2 := cell_at hx2 0 _ rfl
  refine ⟨.tuple #[.agg #[.bool false, .slice none 0 0], .int .i64 c], ?_, hbw.onLow hm hbx, rfl⟩
  simp [results, Tryz.results29, go_sem, v0, v1, v2]
def PostL (m : Nat) (z er : Int) (w : World) (e : Ending) (w' : World) : Prop :=
  (er = 0 → ∃ s A c l, e = .returned (iv s A l.length c) ∧ IsZ s l z ∧ l.length ≤ c ∧ Rd w' A l ∧ But m w w') ∧ (er ≠ 0 → e = .panicked (wrong er) ∧ z = 0 ∧ But m w w')
def RetZL (m : Nat) (z er : Int) (w : World) (e : Ending) (w' : World) : Prop :=
  ∃ s A c l, e = .returned (.tuple #[iv s A l.length c, .int .i64 er]) ∧ IsZ s l z ∧ l.length ≤ c ∧ Rd w' A l ∧ But m w w'
theorem try_low (m : Nat) (G : Nat) (caps : Array Value) (hG : ∀ (args : Array Value) (w : World), (callFunc G args).run Tryz.prog w = .ok (.enter G args) w) (w : World) (hm : m < w.heap.size) (z er : Int)
    (h : Calls Tryz.prog G caps ((w.alloc (.cells #[.bool false, .slice none 0 0] 24)).alloc (.cells #[.int .i64 0] 27)) (PostL m z er ((w.alloc (.cells #[.bool false, .slice none 0 0] 24)).alloc (.cells #[.int .i64 0] 27)))) (hz : er ≠ 0 → z = 0) :
    Calls Tryz.prog 29 #[.func (.func G) #[] caps] w (RetZL m z er w) := by
  by_cases h0 : er = 0
  · subst h0
    refine (try_low_ok m G caps hG w hm _ rfl (fun s A n c w1 => ∃ l, n = l.length ∧ IsZ s l z ∧ l.length ≤ c ∧ Rd w1 A l) (h.mono ?_)).mono ?_
    · rintro e w' ⟨h1, -⟩
      obtain ⟨s, A, c, l, rfl, h2, h3, h4, h5⟩ := h1 rfl
      exact ⟨s, A, l.length, c, rfl, ⟨l, rfl, h2, h3, h4⟩, h5⟩
    · rintro e w' ⟨s, A, n, c, w1, ⟨l, rfl, h2, h3, h4⟩, h5, h6, rfl⟩
      exact ⟨s, A, c, l, rfl, h2, h3, h6 _ _ h4, h5⟩
  · obtain rfl := hz h0
    refine (try_low_wrong m G caps hG w hm _ rfl er (h.mono ?_)).mono ?_
    · rintro e w' ⟨-, h1⟩
      obtain ⟨h2, -, h3⟩ := h1 h0
      exact ⟨h2, h3⟩
    · rintro e w' ⟨h1, rfl⟩
      exact ⟨false, none, 0, [], rfl, isZ_zero, Nat.le_refl _, Rd.nil _ _, h1⟩
end Nm
end Go.Proofs.YtlhmbbpkhahbeaaGreatDoor
namespace Go.Proofs.YtlhmbbpkhahbeaaGreatDoor
namespace Nm
open Go.RowKit Go.Shelf Go.BigFrame
attribute [local go_sem] Oper.semAt_some
def PostS (s : ByteArray) (er : Int) (w : World) (e : Ending) (w' : World) : Prop :=
  (er = 0 → e = .returned (.string s) ∧ Below w.heap.size w w') ∧ (er ≠ 0 → e = .panicked (wrong er) ∧ s = ⟨#[]⟩ ∧ Below w.heap.size w w')
def RetSE (s : ByteArray) (er : Int) (w : World) (e : Ending) (w' : World) : Prop :=
  e = .returned (.tuple #[.string s, .int .i64 er]) ∧ Below w.heap.size w w'
theorem try_str (G : Nat) (caps : Array Value) (hG : ∀ (args : Array Value) (w : World), (callFunc G args).run Tryz.prog w = .ok (.enter G args) w) (w : World) (s : ByteArray) (er : Int)
    (h : Calls Tryz.prog G caps ((w.alloc (.cells #[.string ⟨#[]⟩] 9)).alloc (.cells #[.int .i64 0] 27)) (PostS s er ((w.alloc (.cells #[.string ⟨#[]⟩] 9)).alloc (.cells #[.int .i64 0] 27)))) (hz : er ≠ 0 → s = ⟨#[]⟩) :
    Calls Tryz.prog 22 #[.func (.func G) #[] caps] w (RetSE s er w) := by
  by_cases h0 : er = 0
  · subst h0
    refine (try_str_ok G caps hG w _ rfl (fun x w1 => x = s) (h.mono ?_)).mono ?_
    · rintro e w' ⟨h1, -⟩
      exact ⟨s, (h1 rfl).1, rfl, (h1 rfl).2⟩
    · rintro e w' ⟨x, w1, rfl, h5, h6, rfl⟩
      exact ⟨rfl, h5⟩
  · obtain rfl := hz h0
    refine (try_str_wrong G caps hG w _ rfl er (h.mono ?_)).mono ?_
    · rintro e w' ⟨-, h1⟩
      obtain ⟨h2, -, h3⟩ := h1 h0
      exact ⟨h2, h3⟩
    · rintro e w' ⟨h1, rfl⟩
      exact ⟨rfl, h1⟩
set_option maxRecDepth 100000 in
set_option maxHeartbeats 4000000 in
theorem text1_bad (g1 g2 : Nat) (n1 : Bool) (n : Int) (A1 : Option Addr) (c1 : Nat) (l1 : List Nat) (w : World) (h1 : IntBox w g1 n1 A1 c1 l1) (h2 : Blk w g2 #[.int .i64 n] 3) (hbad : okI n1 l1 = false) :
    Calls Tryz.prog 23 #[.pointer (some ⟨g1, 0, none⟩), .pointer (some ⟨g2, 0, none⟩)] w fun e w' => e = .panicked (wrong 1) ∧ Below w.heap.size w w' := by
  have x0 := cell_at h1.blk 0 _ rfl
  have x1 := cell_at h1.blk 1 _ rfl
  have y0 := cell_at h2.h 0 _ rfl
  have hb0 : ∀ o, Below w.heap.size w (w.alloc o) := fun o => (Below.refl _ w).alloc (Nat.le_refl _) _
  have hf := formed_one w.heap.size n1 A1 c1 l1 _ (World.alloc_heap_new w (.cells #[.bool n1, .slice A1 l1.length c1] 24)) (h1.rd.on (hb0 _)) h1.cap
  go_enter Tryz.func23, Tryz.ntmps23
  go_wp2_with (go_at_call 24; refine hf.mono ?_; rintro e w' ⟨-, hp, hbl⟩; cases hp hbad)
  exact ⟨rfl, rfl, (hb0 _).trans (hbl.mono (hb0 _).size)⟩
set_option maxRecDepth 100000 in
set_option maxHeartbeats 4000000 in
theorem text1_range (g1 g2 : Nat) (n1 : Bool) (n : Int) (A1 : Option Addr) (c1 : Nat) (l1 : List Nat) (w : World) (h1 : IntBox w g1 n1 A1 c1 l1) (h2 : Blk w g2 #[.int .i64 n] 3) (hok : okI n1 l1 = true) (h0 : ¬ (2 ≤ n ∧ n ≤ 36)) :
    Calls Tryz.prog 23 #[.pointer (some ⟨g1, 0, none⟩), .pointer (some ⟨g2, 0, none⟩)] w fun e w' => e = .panicked (wrong 1) ∧ Below w.heap.size w w' := by
  have x0 := cell_at h1.blk 0 _ rfl
  have x1 := cell_at h1.blk 1 _ rfl
  have y0 := cell_at h2.h 0 _ rfl
  have hb0 : ∀ o, Below w.heap.size w (w.alloc o) := fun o => (Below.refl _ w).alloc (Nat.le_refl _) _
  have hf := formed_one w.heap.size n1 A1 c1 l1 _ (World.alloc_heap_new w (.cells #[.bool n1, .slice A1 l1.length c1] 24)) (h1.rd.on (hb0 _)) h1.cap
  by_cases hn : 2 ≤ n
  · have hn2 : decide (n ≤ 36) = false := decide_eq_false fun h => h0 ⟨hn, h⟩
    clear h0
    go_enter Tryz.func23, Tryz.ntmps23
    go_wp2_with first
      | (go_at_call 24; refine hf.mono ?_; rintro e w' ⟨hp, -, hbl⟩; cases hp hok; have hb3 := (hb0 _).trans (hbl.mono (hb0 _).size); have p0 := cell_at (h1.on hb3).blk 0 _ rfl; have p1 := cell_at (h1.on hb3).blk 1 _ rfl; have p2 := cell_at (h2.on hb3).h 0 _ rfl)
      | (go_at_call 25; refine (must_no 1 _).mono ?_; rintro e w5 ⟨rfl, rfl⟩)
    exact ⟨rfl, rfl, hb3⟩
  · clear h0
    go_enter Tryz.func23, Tryz.ntmps23
    go_wp2_with first
      | (go_at_call 24; refine hf.mono ?_; rintro e w' ⟨hp, -, hbl⟩; cases hp hok; have hb3 := (hb0 _).trans (hbl.mono (hb0 _).size); have p0 := cell_at (h1.on hb3).blk 0 _ rfl; have p1 := cell_at (h1.on hb3).blk 1 _ rfl; have p2 := cell_at (h2.on hb3).h 0 _ rfl)
      | (go_at_call 25; refine (must_no 1 _).mono ?_; rintro e w5 ⟨rfl, rfl⟩)
    exact ⟨rfl, rfl, hb3⟩
theorem textR_zero (n1 : Bool) (l1 : List Nat) (n : Int) : (textR n1 l1 n).2 ≠ 0 → strB (textR n1 l1 n).1 = ⟨#[]⟩ := by
  unfold textR
  split
  · intro h; exact absurd rfl h
  · intro _; rfl
theorem text1_calls (g1 g2 : Nat) (n1 : Bool) (n : Int) (A1 : Option Addr) (c1 : Nat) (l1 : List Nat) (w : World) (h1 : IntBox w g1 n1 A1 c1 l1) (h2 : Blk w g2 #[.int .i64 n] 3) (hd : DigW w) :
    Calls Tryz.prog 23 #[.pointer (some ⟨g1, 0, none⟩), .pointer (some ⟨g2, 0, none⟩)] w (PostS (strB (textR n1 l1 n).1) (textR n1 l1 n).2 w) := by
  unfold textR
  by_cases hok : okI n1 l1 = true
  · by_cases hn : 2 ≤ n ∧ n ≤ 36
    · have hc : (okI n1 l1 && (decide (2 ≤ n) && decide (n ≤ 36))) = true := by rw [hok, decide_eq_true hn.1, decide_eq_true hn.2]; rfl
      rw [if_pos hc]
      obtain ⟨m, rfl⟩ : ∃ m : Nat, n = (m : Int) := ⟨n.toNat, by omega⟩
      rw [Int.toNat_natCast]
      exact (text1_ok g1 g2 n1 m A1 c1 l1 w h1 h2 hd (okI_isInt h1.rd.words hok) hok (by omega) (by omega)).mono fun e w' h => ⟨fun _ => h, fun h => absurd rfl h⟩
    · have hc : ¬ (okI n1 l1 && (decide (2 ≤ n) && decide (n ≤ 36))) = true := by
        intro h
        rw [Bool.and_eq_true, Bool.and_eq_true, decide_eq_true_eq, decide_eq_true_eq] at h
        exact hn h.2
      rw [if_neg hc]
      exact (text1_range g1 g2 n1 n A1 c1 l1 w h1 h2 hok hn).mono fun e w' h => ⟨fun h => absurd h (by decide), fun _ => ⟨h.1, rfl, h.2⟩⟩
  · have hc : ¬ (okI n1 l1 && (decide (2 ≤ n) && decide (n ≤ 36))) = true := by
      intro h
      rw [Bool.and_eq_true] at h
      exact hok h.1
    rw [if_neg hc]
    exact (text1_bad g1 g2 n1 n A1 c1 l1 w h1 h2 (by simpa using hok)).mono fun e w' h => ⟨fun h => absurd h (by decide), fun _ => ⟨h.1, rfl, h.2⟩⟩
set_option maxRecDepth 100000 in
set_option maxHeartbeats 4000000 in
theorem Text_calls (n1 : Bool) (n : Int) (A1 : Option Addr) (c1 : Nat) (l1 : List Nat) (w : World) (h1 : Rd w A1 l1) (hc1 : l1.length ≤ c1) (hd : DigW w) :
    Calls Tryz.prog 6 #[iv n1 A1 l1.length c1, .int .i64 n] w (RetSE (strB (textR n1 l1 n).1) (textR n1 l1 n).2 w) := by
  have hmf : ∀ (fn : Fn) (first cap : Array Value) (w : World), (Instr.makeFunc fn first cap).run Tryz.prog w = .ok (.func fn first cap) w := fun _ _ _ _ => rfl
  obtain ⟨W2, hW2⟩ : ∃ W2, (w.alloc (.cells #[.bool n1, .slice A1 l1.length c1] 24)).alloc (.cells #[.int .i64 n] 3) = W2 := ⟨_, rfl⟩
  have hb2 : Below w.heap.size w W2 := by rw [← hW2]; exact ((Below.refl _ w).alloc (Nat.le_refl _) _).alloc (by simp) _
  have B1 : IntBox W2 w.heap.size n1 A1 c1 l1 := ⟨by rw [← hW2]; exact (two_old w _ _ rfl).h, h1.on hb2, hc1⟩
  have B2 : Blk W2 (w.heap.size + 1) #[.int .i64 n] 3 := ⟨by rw [← hW2]; exact two_blk w _ _⟩
  have hB4 : ∀ o o', Below W2.heap.size W2 ((W2.alloc o).alloc o') := fun o o' => ((Below.refl _ W2).alloc (Nat.le_refl _) _).alloc (by simp) _
  have ht := try_str 23 #[.pointer (some ⟨w.heap.size, 0, none⟩), .pointer (some ⟨w.heap.size + 1, 0, none⟩)] (enters_of Tryz.func23 (by kernel_rfl) rfl) W2 _ _ (text1_calls _ _ n1 n A1 c1 l1 _ (B1.on (hB4 _ _)) (B2.on (hB4 _ _)) ((hd.on hb2).on (hB4 _ _))) (textR_zero n1 l1 n)
  generalize strB (textR n1 l1 n).1 = z at *
  generalize (textR n1 l1 n).2 = er at *
  go_enter Tryz.func6, Tryz.ntmps6
  go_wp2_with (go_at_call 22; refine ht.mono ?_; rintro e w' ⟨rfl, hb⟩)
  go_ret2
  exact ⟨rfl, hb2.trans (hb.mono hb2.size)⟩
end Nm
end Go.Proofs.YtlhmbbpkhahbeaaGreatDoor
namespace Go.Proofs.YtlhmbbpkhahbeaaGreatDoor
namespace Nm
open Go.RowKit Go.Shelf Go.BigFrame
attribute [local go_sem] Oper.semAt_some
/-- the value of digits, highest first -/
def parV (b : Nat) (cs : List Nat) : Nat := numOf b (cs.map (digV 36))
def pneg (cs : List Nat) : Bool := cs.head? == some 45
def pbody (cs : List Nat) : List Nat := if pneg cs then cs.tail else cs
def parOk (b : Nat) (cs : List Nat) : Bool := !cs.isEmpty && cs.all fun c => decide (digV 36 c < b)
/-- what Parse returns -/
def parR (b : Int) (cs : List Nat) : Int × Int :=
  if 2 ≤ b ∧ b ≤ 36 then (if parOk b.toNat (pbody cs) then fitZ (if pneg cs then -(parV b.toNat (pbody cs) : Int) else (parV b.toNat (pbody cs) : Int)) else (0, 2)) else (0, 1)
theorem numOf_from (b : Nat) (ds : List Nat) : ∀ a, ds.foldl (fun a d => a * b + d) a = a * b ^ ds.length + numOf b ds := by
  unfold numOf
  induction ds with
  | nil => intro a; simp
  | cons d ds ih =>
    intro a
    rw [List.foldl_cons, List.foldl_cons, ih, ih (0 * b + d), List.length_cons, Nat.pow_succ]
    rw [Nat.add_mul, Nat.zero_mul, Nat.zero_add, Nat.mul_assoc, Nat.mul_comm b]
    omega
theorem numOf_cons (b d : Nat) (ds : List Nat) : numOf b (d :: ds) = d * b ^ ds.length + numOf b ds := by
  have := numOf_from b ds (0 * b + d)
  rw [Nat.zero_mul, Nat.zero_add] at this
  unfold numOf at *
  rw [List.foldl_cons, Nat.zero_mul, Nat.zero_add]
  exact this
theorem numOf_lt {b : Nat} : ∀ ds : List Nat, (∀ d ∈ ds, d < b) → numOf b ds < b ^ ds.length := by
  intro ds
  induction ds with
  | nil => intro _; simp [numOf]
  | cons d ds ih =>
    intro h
    have h1 := ih fun x hx => h x (List.mem_cons_of_mem _ hx)
    have h2 : d + 1 ≤ b := h d (List.mem_cons_self ..)
    rw [numOf_cons, List.length_cons, Nat.pow_succ, Nat.mul_comm (b ^ ds.length)]
    have h3 := Nat.mul_le_mul_right (b ^ ds.length) h2
    rw [Nat.add_mul, Nat.one_mul] at h3
    omega
theorem parV_drop (b : Nat) (cs : List Nat) : ∀ f, (∀ k, k < f → digV 36 (cs.getD k 0) = 0) → f ≤ cs.length → parV b (cs.drop f) = parV b cs := by
  intro f
  induction f with
  | zero => intro _ _; rw [List.drop_zero]
  | succ f ih =>
    intro h hf
    rw [← ih (fun k hk => h k (by omega)) (by omega)]
    have h0 := h f (by omega)
    have e : cs.drop f = cs.getD f 0 :: cs.drop (f + 1) := by
      rw [List.drop_eq_getElem_cons (by omega), List.getD_eq_getElem?_getD, List.getElem?_eq_getElem (by omega)]; rfl
    rw [e]
    unfold parV
    rw [List.map_cons, numOf_cons, h0, Nat.zero_mul, Nat.zero_add]
theorem parV_take {b : Nat} {cs : List Nat} {k c : Nat} (hk : k < cs.length) (hc : cs.getD k 0 = c) : parV b (cs.take (k + 1)) = parV b (cs.take k) * b + digV 36 c := by
  rw [List.take_succ_eq_append_getElem hk]
  rw [List.getD_eq_getElem?_getD, List.getElem?_eq_getElem hk] at hc
  simp only [Option.getD_some] at hc
  unfold parV
  rw [List.map_append, List.map_cons, List.map_nil, numOf_snoc, hc]
def PostB (g : Nat) (z er : Int) (w : World) (e : Ending) (w' : World) : Prop :=
  (er = 0 → ∃ s A c l, e = .returned (iv s A l.length c) ∧ IsZ s l z ∧ l.length ≤ c ∧ Rd w' A l ∧ But g w w') ∧ (er ≠ 0 → e = .panicked (wrong er) ∧ z = 0 ∧ But g w w')
theorem not_small {V m k : Nat} (h : 2 ^ m ≤ V) (hm : 32 * k ≤ m) : ¬ (lim V).length ≤ k := fun hl => by
  have h1 := bits_of_len (lt_of_length_le hl)
  have h2 := Nat.pow_le_pow_right (n := 2) (by decide) hm
  omega
theorem must_ok' (e : Int) (w : World) : Calls Tryz.prog 25 #[.bool true, .int .i64 e] w fun x w' => x = .returned (.tuple #[]) ∧ w = w' := (must_ok e w).mono fun _ _ h => ⟨h.1, h.2.symm⟩
theorem must_no' (e : Int) (w : World) : Calls Tryz.prog 25 #[.bool false, .int .i64 e] w fun x w' => x = .panicked (wrong e) ∧ w = w' := (must_no e w).mono fun _ _ h => ⟨h.1, h.2.symm⟩
theorem getB {S : ByteArray} {i : Nat} (hi : i < S.size) : ∀ h : i < S.size, ((S[i]'h).toNat) = (bytesN S).getD i 0 := by
  intro h
  have h' : i < (bytesN S).length := by rw [bytesN_length]; exact hi
  rw [List.getD_eq_getElem?_getD, List.getElem?_eq_getElem h']
  simp only [Option.getD_some, bytesN, List.getElem_map, Array.getElem_toList]
  rfl
theorem bytesN_extract (S : ByteArray) (f n : Nat) (hn : n = S.size) : bytesN (S.extract f n) = (bytesN S).drop f := by
  subst hn
  unfold bytesN
  rw [ByteArray.data_extract, Array.toList_extract, List.extract_eq_take_drop, List.map_take, List.map_drop]
  refine List.take_of_length_le ?_
  rw [List.length_drop, List.length_map, Array.length_toList]
  exact Nat.le_refl _
set_option maxRecDepth 100000 in
set_option maxHeartbeats 4000000 in
theorem parse1_range (g1 g2 : Nat) (b : Int) (S : ByteArray) (w : World) (h1 : Blk w g1 #[.int .i64 b] 3) (h2 : Blk w g2 #[.string S] 9) (h0 : ¬ (2 ≤ b ∧ b ≤ 36)) :
    Calls Tryz.prog 30 #[.pointer (some ⟨g1, 0, none⟩), .pointer (some ⟨g2, 0, none⟩)] w fun e w' => e = .panicked (wrong 1) ∧ Below w.heap.size w w' := by
  have x0 := cell_at h1.h 0 _ rfl
  have y0 := cell_at h2.h 0 _ rfl
  have hb0 : ∀ o, Below w.heap.size w (w.alloc o) := fun o => (Below.refl _ w).alloc (Nat.le_refl _) _
  have t1 := (Array.getElem?_eq_some_iff.1 h1.h).1
  have t2 := (Array.getElem?_eq_some_iff.1 h2.h).1
  by_cases hn : 2 ≤ b
  · have hn2 : decide (b ≤ 36) = false := decide_eq_false fun h => h0 ⟨hn, h⟩
    clear h0
    go_enter Tryz.func30, Tryz.ntmps30
    go_wp2_with first
      | (go_at_call 25; refine (must_no 1 _).mono ?_; rintro e w5 ⟨rfl, rfl⟩)
    exact ⟨rfl, rfl, hb0 _⟩
  · clear h0
    go_enter Tryz.func30, Tryz.ntmps30
    go_wp2_with first
      | (go_at_call 25; refine (must_no 1 _).mono ?_; rintro e w5 ⟨rfl, rfl⟩)
    exact ⟨rfl, rfl, hb0 _⟩
set_option maxRecDepth 100000 in
set_option maxHeartbeats 4000000 in
theorem parse1_empty_t (g1 g2 : Nat) (b : Nat) (S T : ByteArray) (w : World) (h1 : Blk w g1 #[.int .i64 (b : Int)] 3) (h2 : Blk w g2 #[.string S] 9) (h12 : g1 ≠ g2) (hb1 : 2 ≤ b) (hb2 : b ≤ 36) (hS : 0 < S.size) (c0 : Nat) (hc0 : ∀ h, (S[0]'h).toNat = c0) (hneg : ((c0 : Int) == 45) = true) (hT : S.extract 1 S.size = T) (hsm : S.size < 35184372088832) (h0 : ¬ 0 < T.size) :
    Calls Tryz.prog 30 #[.pointer (some ⟨g1, 0, none⟩), .pointer (some ⟨g2, 0, none⟩)] w (fun e w' => e = .panicked (wrong 2) ∧ But g2 w w') := by
  have x0 := cell_at h1.h 0 _ rfl
  have y0 := cell_at h2.h 0 _ rfl
  have u0 := frozen_at h2.h 0
  have t1 := (Array.getElem?_eq_some_iff.1 h1.h).1
  have t2 := (Array.getElem?_eq_some_iff.1 h2.h).1
  have dm4 : decide ((b : Int) ≤ 36) = true := decide_eq_true (by omega)
  have dS : decide (0 < S.size) = true := decide_eq_true hS
  have hbut : But g2 w ((w.setCell ⟨g2, 0, none⟩ (.string T)).alloc (.cells #[.bool false, .slice none 0 0] 24)) := (But.refl g2 w).set 0 (.string T) |>.on t2 ((Below.refl _ _).alloc (Nat.le_refl _) _)
  have HT : Blk ((w.setCell ⟨g2, 0, none⟩ (.string T)).alloc (.cells #[.bool false, .slice none 0 0] 24)) g2 #[.string T] 9 := ⟨(Below.heap_alloc _ _ _ (by simp [World.setCell]; omega)).trans (set_blk h2.h 0 _)⟩
  have HR : Blk ((w.setCell ⟨g2, 0, none⟩ (.string T)).alloc (.cells #[.bool false, .slice none 0 0] 24)) w.heap.size #[.bool false, .slice none 0 0] 24 := ⟨by have := World.alloc_heap_new (w.setCell ⟨g2, 0, none⟩ (.string T)) (.cells #[.bool false, .slice none 0 0] 24); rwa [show ((w.setCell ⟨g2, 0, none⟩ (.string T))).heap.size = w.heap.size from by simp [World.setCell]] at this⟩
  obtain ⟨W, hW⟩ : ∃ W, (w.setCell ⟨g2, 0, none⟩ (.string T)).alloc (.cells #[.bool false, .slice none 0 0] 24) = W := ⟨_, rfl⟩
  rw [hW] at hbut HT HR
  have h1W := hbut.blk h12 h1
  have p0 := cell_at h1W.h 0 _ rfl
  have p1 := cell_at HT.h 0 _ rfl
  have p2 := frozen_at HT.h 0
  have p3 := cell_at HR.h 0 _ rfl
  have p4 := cell_at HR.h 1 _ rfl
  go_enter Tryz.func30, Tryz.ntmps30
  have dT : decide (0 < T.size) = false := decide_eq_false h0
  go_wp2_with first
    | (go_at_call 25; refine (must_ok' 1 _).mono ?_; rintro e w5 ⟨rfl, rfl⟩)
    | (go_at_call 25; refine (must_no' 2 _).mono ?_; rintro e w5 ⟨rfl, rfl⟩)
  exact ⟨rfl, rfl, hbut⟩
set_option maxRecDepth 100000 in
set_option maxHeartbeats 4000000 in
theorem parse1_empty_e (g1 g2 : Nat) (b : Nat) (S T : ByteArray) (w : World) (h1 : Blk w g1 #[.int .i64 (b : Int)] 3) (h2 : Blk w g2 #[.string S] 9) (h12 : g1 ≠ g2) (hb1 : 2 ≤ b) (hb2 : b ≤ 36) (hS : ¬ 0 < S.size) (hT : S = T) (_hsm : S.size < 35184372088832) (h0 : ¬ 0 < T.size) :
    Calls Tryz.prog 30 #[.pointer (some ⟨g1, 0, none⟩), .pointer (some ⟨g2, 0, none⟩)] w (fun e w' => e = .panicked (wrong 2) ∧ But g2 w w') := by
  subst hT
  have x0 := cell_at h1.h 0 _ rfl
  have y0 := cell_at h2.h 0 _ rfl
  have u0 := frozen_at h2.h 0
  have t1 := (Array.getElem?_eq_some_iff.1 h1.h).1
  have t2 := (Array.getElem?_eq_some_iff.1 h2.h).1
  have dm4 : decide ((b : Int) ≤ 36) = true := decide_eq_true (by omega)
  have dS : decide (0 < S.size) = false := decide_eq_false hS
  have hbut : But g2 w (w.alloc (.cells #[.bool false, .slice none 0 0] 24)) := (But.refl g2 w) |>.on t2 ((Below.refl _ _).alloc (Nat.le_refl _) _)
  have HT : Blk (w.alloc (.cells #[.bool false, .slice none 0 0] 24)) g2 #[.string S] 9 := ⟨(Below.heap_alloc _ _ _ (t2)).trans (h2.h)⟩
  have HR : Blk (w.alloc (.cells #[.bool false, .slice none 0 0] 24)) w.heap.size #[.bool false, .slice none 0 0] 24 := ⟨by have := World.alloc_heap_new w (.cells #[.bool false, .slice none 0 0] 24); exact this⟩
  obtain ⟨W, hW⟩ : ∃ W, w.alloc (.cells #[.bool false, .slice none 0 0] 24) = W := ⟨_, rfl⟩
  rw [hW] at hbut HT HR
  have h1W := hbut.blk h12 h1
  have p0 := cell_at h1W.h 0 _ rfl
  have p1 := cell_at HT.h 0 _ rfl
  have p2 := frozen_at HT.h 0
  have p3 := cell_at HR.h 0 _ rfl
  have p4 := cell_at HR.h 1 _ rfl
  go_enter Tryz.func30, Tryz.ntmps30
  have dT : decide (0 < S.size) = false := decide_eq_false h0
  go_wp2_with first
    | (go_at_call 25; refine (must_ok' 1 _).mono ?_; rintro e w5 ⟨rfl, rfl⟩)
    | (go_at_call 25; refine (must_no' 2 _).mono ?_; rintro e w5 ⟨rfl, rfl⟩)
  exact ⟨rfl, rfl, hbut⟩
set_option maxRecDepth 100000 in
set_option maxHeartbeats 4000000 in
theorem parse1_bad_t (g1 g2 : Nat) (b : Nat) (S T : ByteArray) (w : World) (h1 : Blk w g1 #[.int .i64 (b : Int)] 3) (h2 : Blk w g2 #[.string S] 9) (h12 : g1 ≠ g2) (hb1 : 2 ≤ b) (hb2 : b ≤ 36) (hS : 0 < S.size) (c0 : Nat) (hc0 : ∀ h, (S[0]'h).toNat = c0) (hneg : ((c0 : Int) == 45) = true) (hT : S.extract 1 S.size = T) (hsm : S.size < 35184372088832) (h0 : 0 < T.size) (p : Nat) (hp : p < T.size) (hbad : b ≤ digV 36 ((bytesN T).getD p 0)) :
    Calls Tryz.prog 30 #[.pointer (some ⟨g1, 0, none⟩), .pointer (some ⟨g2, 0, none⟩)] w (fun e w' => e = .panicked (wrong 2) ∧ But g2 w w') := by
  have x0 := cell_at h1.h 0 _ rfl
  have y0 := cell_at h2.h 0 _ rfl
  have u0 := frozen_at h2.h 0
  have t1 := (Array.getElem?_eq_some_iff.1 h1.h).1
  have t2 := (Array.getElem?_eq_some_iff.1 h2.h).1
  have dm4 : decide ((b : Int) ≤ 36) = true := decide_eq_true (by omega)
  have dS : decide (0 < S.size) = true := decide_eq_true hS
  have hbut : But g2 w ((w.setCell ⟨g2, 0, none⟩ (.string T)).alloc (.cells #[.bool false, .slice none 0 0] 24)) := (But.refl g2 w).set 0 (.string T) |>.on t2 ((Below.refl _ _).alloc (Nat.le_refl _) _)
  have HT : Blk ((w.setCell ⟨g2, 0, none⟩ (.string T)).alloc (.cells #[.bool false, .slice none 0 0] 24)) g2 #[.string T] 9 := ⟨(Below.heap_alloc _ _ _ (by simp [World.setCell]; omega)).trans (set_blk h2.h 0 _)⟩
  have HR : Blk ((w.setCell ⟨g2, 0, none⟩ (.string T)).alloc (.cells #[.bool false, .slice none 0 0] 24)) w.heap.size #[.bool false, .slice none 0 0] 24 := ⟨by have := World.alloc_heap_new (w.setCell ⟨g2, 0, none⟩ (.string T)) (.cells #[.bool false, .slice none 0 0] 24); rwa [show ((w.setCell ⟨g2, 0, none⟩ (.string T))).heap.size = w.heap.size from by simp [World.setCell]] at this⟩
  obtain ⟨W, hW⟩ : ∃ W, (w.setCell ⟨g2, 0, none⟩ (.string T)).alloc (.cells #[.bool false, .slice none 0 0] 24) = W := ⟨_, rfl⟩
  rw [hW] at hbut HT HR
  have h1W := hbut.blk h12 h1
  have p0 := cell_at h1W.h 0 _ rfl
  have p1 := cell_at HT.h 0 _ rfl
  have p2 := frozen_at HT.h 0
  have p3 := cell_at HR.h 0 _ rfl
  have p4 := cell_at HR.h 1 _ rfl
  go_enter Tryz.func30, Tryz.ntmps30
  have dT : decide (0 < T.size) = true := decide_eq_true h0
  have Hbad := Lib.hid hbad
  have hTl : T.size < 35184372088832 := by rw [← hT, ByteArray.size_extract]; omega
  clear hbad
  go_wp2_with first
    | (go_at_call 25; refine (must_ok' _ _).mono ?_; rintro e w5 ⟨rfl, rfl⟩)
  go_loop [4, 36] (fun fv iv => ∃ i f : Nat, i ≤ p ∧ fv = .int .i64 (f : Int) ∧ iv = .int .i64 (i : Int) ∧ f ≤ T.size) (fun _ iv => p + 1 - (intOf iv).toNat)
  case atStart => exact ⟨0, T.size, Nat.zero_le _, rfl, rfl, Nat.le_refl _⟩
  case round =>
    obtain ⟨i, f, hip, rfl, rfl, hf⟩ := hrel
    have hiT : i < T.size := by omega
    have hget := getB hiT
    obtain ⟨c, hc⟩ : ∃ c, (bytesN T).getD i 0 = c := ⟨_, rfl⟩
    rw [hc] at hget
    have hc256 : c < 256 := by
      rw [← hc, List.getD_eq_getElem?_getD, List.getElem?_eq_getElem (by rw [bytesN_length]; exact hiT)]
      exact bytesN_lt _ _ (List.getElem_mem _)
    have hval := value_calls c hc256 W
    obtain ⟨d, hd⟩ : ∃ d, digV 36 c = d := ⟨_, rfl⟩
    rw [hd] at hval
    have Hc := Lib.hid hc
    have Hd := Lib.hid hd
    clear hc hd
    have hiI : (i : Int) < (T.size : Int) := by omega
    by_cases hbd : b ≤ d
    · have db : decide (d < b) = false := decide_eq_false (by omega)
      have dbI : decide ((d : Int) < (b : Int)) = false := decide_eq_false (by omega)
      go_wp2_with first
        | (go_at_call 25; refine (must_no' _ _).mono ?_; rintro e w5 ⟨rfl, rfl⟩)
        | (go_at_call 31; refine hval.mono ?_; rintro e w6 ⟨rfl, rfl⟩)
      exact ⟨rfl, rfl, hbut⟩
    · have db : decide (d < b) = true := decide_eq_true (by omega)
      have dbI : decide ((d : Int) < (b : Int)) = true := decide_eq_true (by omega)
      have hne : i < p := by
        rcases Nat.lt_or_ge i p with h | h
        · exact h
        · have hip' : i = p := by omega
          have h1 := Hbad.out
          rw [← hip', Hc.out, Hd.out] at h1
          exact absurd h1 hbd
      clear hbd
      by_cases hd0 : 0 < d
      · go_wp2_with first
          | (go_at_call 25; refine (must_ok' _ _).mono ?_; rintro e w5 ⟨rfl, rfl⟩)
          | (go_at_call 31; refine hval.mono ?_; rintro e w6 ⟨rfl, rfl⟩)
        go_round
        case rel => exact ⟨i + 1, min f i, by omega, by congr 1; omega, by simp, by omega⟩
        case measure => simp only [intOf]; omega
      · go_wp2_with first
          | (go_at_call 25; refine (must_ok' _ _).mono ?_; rintro e w5 ⟨rfl, rfl⟩)
          | (go_at_call 31; refine hval.mono ?_; rintro e w6 ⟨rfl, rfl⟩)
        go_round
        case rel => exact ⟨i + 1, f, by omega, rfl, by simp, hf⟩
        case measure => simp only [intOf]; omega
set_option maxRecDepth 100000 in
set_option maxHeartbeats 4000000 in
theorem parse1_bad_f (g1 g2 : Nat) (b : Nat) (S T : ByteArray) (w : World) (h1 : Blk w g1 #[.int .i64 (b : Int)] 3) (h2 : Blk w g2 #[.string S] 9) (h12 : g1 ≠ g2) (hb1 : 2 ≤ b) (hb2 : b ≤ 36) (hS : 0 < S.size) (c0 : Nat) (hc0 : ∀ h, (S[0]'h).toNat = c0) (hneg : ((c0 : Int) == 45) = false) (hT : S = T) (hsm : S.size < 35184372088832) (h0 : 0 < T.size) (p : Nat) (hp : p < T.size) (hbad : b ≤ digV 36 ((bytesN T).getD p 0)) :
    Calls Tryz.prog 30 #[.pointer (some ⟨g1, 0, none⟩), .pointer (some ⟨g2, 0, none⟩)] w (fun e w' => e = .panicked (wrong 2) ∧ But g2 w w') := by
  subst hT
  have x0 := cell_at h1.h 0 _ rfl
  have y0 := cell_at h2.h 0 _ rfl
  have u0 := frozen_at h2.h 0
  have t1 := (Array.getElem?_eq_some_iff.1 h1.h).1
  have t2 := (Array.getElem?_eq_some_iff.1 h2.h).1
  have dm4 : decide ((b : Int) ≤ 36) = true := decide_eq_true (by omega)
  have dS : decide (0 < S.size) = true := decide_eq_true hS
  have hbut : But g2 w (w.alloc (.cells #[.bool false, .slice none 0 0] 24)) := (But.refl g2 w) |>.on t2 ((Below.refl _ _).alloc (Nat.le_refl _) _)
  have HT : Blk (w.alloc (.cells #[.bool false, .slice none 0 0] 24)) g2 #[.string S] 9 := ⟨(Below.heap_alloc _ _ _ (t2)).trans (h2.h)⟩
  have HR : Blk (w.alloc (.cells #[.bool false, .slice none 0 0] 24)) w.heap.size #[.bool false, .slice none 0 0] 24 := ⟨by have := World.alloc_heap_new w (.cells #[.bool false, .slice none 0 0] 24); exact this⟩
  obtain ⟨W, hW⟩ : ∃ W, w.alloc (.cells #[.bool false, .slice none 0 0] 24) = W := ⟨_, rfl⟩
  rw [hW] at hbut HT HR
  have h1W := hbut.blk h12 h1
  have p0 := cell_at h1W.h 0 _ rfl
  have p1 := cell_at HT.h 0 _ rfl
  have p2 := frozen_at HT.h 0
  have p3 := cell_at HR.h 0 _ rfl
  have p4 := cell_at HR.h 1 _ rfl
  go_enter Tryz.func30, Tryz.ntmps30
  have dT : decide (0 < S.size) = true := decide_eq_true h0
  have Hbad := Lib.hid hbad
  have hTl : S.size < 35184372088832 := by exact hsm
  clear hbad
  go_wp2_with first
    | (go_at_call 25; refine (must_ok' _ _).mono ?_; rintro e w5 ⟨rfl, rfl⟩)
  go_loop [4, 36] (fun fv iv => ∃ i f : Nat, i ≤ p ∧ fv = .int .i64 (f : Int) ∧ iv = .int .i64 (i : Int) ∧ f ≤ S.size) (fun _ iv => p + 1 - (intOf iv).toNat)
  case atStart => exact ⟨0, S.size, Nat.zero_le _, rfl, rfl, Nat.le_refl _⟩
  case round =>
    obtain ⟨i, f, hip, rfl, rfl, hf⟩ := hrel
    have hiT : i < S.size := by omega
    have hget := getB hiT
    obtain ⟨c, hc⟩ : ∃ c, (bytesN S).getD i 0 = c := ⟨_, rfl⟩
    rw [hc] at hget
    have hc256 : c < 256 := by
      rw [← hc, List.getD_eq_getElem?_getD, List.getElem?_eq_getElem (by rw [bytesN_length]; exact hiT)]
      exact bytesN_lt _ _ (List.getElem_mem _)
    have hval := value_calls c hc256 W
    obtain ⟨d, hd⟩ : ∃ d, digV 36 c = d := ⟨_, rfl⟩
    rw [hd] at hval
    have Hc := Lib.hid hc
    have Hd := Lib.hid hd
    clear hc hd
    have hiI : (i : Int) < (S.size : Int) := by omega
    by_cases hbd : b ≤ d
    · have db : decide (d < b) = false := decide_eq_false (by omega)
      have dbI : decide ((d : Int) < (b : Int)) = false := decide_eq_false (by omega)
      go_wp2_with first
        | (go_at_call 25; refine (must_no' _ _).mono ?_; rintro e w5 ⟨rfl, rfl⟩)
        | (go_at_call 31; refine hval.mono ?_; rintro e w6 ⟨rfl, rfl⟩)
      exact ⟨rfl, rfl, hbut⟩
    · have db : decide (d < b) = true := decide_eq_true (by omega)
      have dbI : decide ((d : Int) < (b : Int)) = true := decide_eq_true (by omega)
      have hne : i < p := by
        rcases Nat.lt_or_ge i p with h | h
        · exact h
        · have hip' : i = p := by omega
          have h1 := Hbad.out
          rw [← hip', Hc.out, Hd.out] at h1
          exact absurd h1 hbd
      clear hbd
      by_cases hd0 : 0 < d
      · go_wp2_with first
          | (go_at_call 25; refine (must_ok' _ _).mono ?_; rintro e w5 ⟨rfl, rfl⟩)
          | (go_at_call 31; refine hval.mono ?_; rintro e w6 ⟨rfl, rfl⟩)
        go_round
        case rel => exact ⟨i + 1, min f i, by omega, by congr 1; omega, by simp, by omega⟩
        case measure => simp only [intOf]; omega
      · go_wp2_with first
          | (go_at_call 25; refine (must_ok' _ _).mono ?_; rintro e w5 ⟨rfl, rfl⟩)
          | (go_at_call 31; refine hval.mono ?_; rintro e w6 ⟨rfl, rfl⟩)
        go_round
        case rel => exact ⟨i + 1, f, by omega, rfl, by simp, hf⟩
        case measure => simp only [intOf]; omega
set_option maxRecDepth 100000 in
set_option maxHeartbeats 4000000 in
theorem parse1_good_t (g1 g2 : Nat) (b : Nat) (S T : ByteArray) (w : World) (h1 : Blk w g1 #[.int .i64 (b : Int)] 3) (h2 : Blk w g2 #[.string S] 9) (h12 : g1 ≠ g2) (hb1 : 2 ≤ b) (hb2 : b ≤ 36) (hS : 0 < S.size) (c0 : Nat) (hc0 : ∀ h, (S[0]'h).toNat = c0) (hneg : ((c0 : Int) == 45) = true) (hT : S.extract 1 S.size = T) (hsm : S.size < 35184372088832) (h0 : 0 < T.size) (hgood : ∀ k, k < T.size → digV 36 ((bytesN T).getD k 0) < b) (V : Nat) (hV : Hid (parV b (bytesN T) = V)) :
    Calls Tryz.prog 30 #[.pointer (some ⟨g1, 0, none⟩), .pointer (some ⟨g2, 0, none⟩)] w (PostB g2 (fitZ (-(V : Int))).1 (fitZ (-(V : Int))).2 w) := by
  have x0 := cell_at h1.h 0 _ rfl
  have y0 := cell_at h2.h 0 _ rfl
  have u0 := frozen_at h2.h 0
  have t1 := (Array.getElem?_eq_some_iff.1 h1.h).1
  have t2 := (Array.getElem?_eq_some_iff.1 h2.h).1
  have dm4 : decide ((b : Int) ≤ 36) = true := decide_eq_true (by omega)
  have dS : decide (0 < S.size) = true := decide_eq_true hS
  have hbut : But g2 w ((w.setCell ⟨g2, 0, none⟩ (.string T)).alloc (.cells #[.bool false, .slice none 0 0] 24)) := (But.refl g2 w).set 0 (.string T) |>.on t2 ((Below.refl _ _).alloc (Nat.le_refl _) _)
  have HT : Blk ((w.setCell ⟨g2, 0, none⟩ (.string T)).alloc (.cells #[.bool false, .slice none 0 0] 24)) g2 #[.string T] 9 := ⟨(Below.heap_alloc _ _ _ (by simp [World.setCell]; omega)).trans (set_blk h2.h 0 _)⟩
  have HR : Blk ((w.setCell ⟨g2, 0, none⟩ (.string T)).alloc (.cells #[.bool false, .slice none 0 0] 24)) w.heap.size #[.bool false, .slice none 0 0] 24 := ⟨by have := World.alloc_heap_new (w.setCell ⟨g2, 0, none⟩ (.string T)) (.cells #[.bool false, .slice none 0 0] 24); rwa [show ((w.setCell ⟨g2, 0, none⟩ (.string T))).heap.size = w.heap.size from by simp [World.setCell]] at this⟩
  obtain ⟨W, hW⟩ : ∃ W, (w.setCell ⟨g2, 0, none⟩ (.string T)).alloc (.cells #[.bool false, .slice none 0 0] 24) = W := ⟨_, rfl⟩
  rw [hW] at hbut HT HR
  have h1W := hbut.blk h12 h1
  have p0 := cell_at h1W.h 0 _ rfl
  have p1 := cell_at HT.h 0 _ rfl
  have p2 := frozen_at HT.h 0
  have p3 := cell_at HR.h 0 _ rfl
  have p4 := cell_at HR.h 1 _ rfl
  go_enter Tryz.func30, Tryz.ntmps30
  have dT : decide (0 < T.size) = true := decide_eq_true h0
  have Hgood := Lib.hid hgood
  have hTl : T.size < 35184372088832 := by rw [← hT, ByteArray.size_extract]; omega
  clear hgood
  go_wp2_with first
    | (go_at_call 25; refine (must_ok' _ _).mono ?_; rintro e w5 ⟨rfl, rfl⟩)
  go_loop [4, 36] (fun fv iv => ∃ i f : Nat, i ≤ T.size ∧ fv = .int .i64 (f : Int) ∧ iv = .int .i64 (i : Int) ∧ f ≤ T.size ∧ Hid ((f = T.size ∧ ∀ k, k < i → digV 36 ((bytesN T).getD k 0) = 0) ∨ (f < i ∧ (∀ k, k < f → digV 36 ((bytesN T).getD k 0) = 0) ∧ 0 < digV 36 ((bytesN T).getD f 0)))) (fun _ iv => T.size - (intOf iv).toNat)
  case atStart => exact ⟨0, T.size, Nat.zero_le _, rfl, rfl, Nat.le_refl _, .inl ⟨rfl, fun k hk => absurd hk (Nat.not_lt_zero _)⟩⟩
  case round =>
    obtain ⟨i, f, hip, rfl, rfl, hf, hfi⟩ := hrel
    by_cases hin : i < T.size
    · have hiI : (i : Int) < (T.size : Int) := by omega
      have hiT : i < T.size := by omega
      have hget := getB hiT
      obtain ⟨c, hc⟩ : ∃ c, (bytesN T).getD i 0 = c := ⟨_, rfl⟩
      rw [hc] at hget
      have hc256 : c < 256 := by
        rw [← hc, List.getD_eq_getElem?_getD, List.getElem?_eq_getElem (by rw [bytesN_length]; exact hiT)]
        exact bytesN_lt _ _ (List.getElem_mem _)
      have hval := value_calls c hc256 W
      obtain ⟨d, hd⟩ : ∃ d, digV 36 c = d := ⟨_, rfl⟩
      rw [hd] at hval
      have Hc := Lib.hid hc
      have Hd := Lib.hid hd
      clear hc hd
      have hdb : d < b := by have := Hgood.out i hin; rwa [Hc.out, Hd.out] at this
      have db : decide (d < b) = true := decide_eq_true (by omega)
      have dbI : decide ((d : Int) < (b : Int)) = true := decide_eq_true (by omega)
      by_cases hd0 : 0 < d
      · go_wp2_with first
          | (go_at_call 25; refine (must_ok' _ _).mono ?_; rintro e w5 ⟨rfl, rfl⟩)
          | (go_at_call 31; refine hval.mono ?_; rintro e w6 ⟨rfl, rfl⟩)
        go_round
        case rel =>
          refine ⟨i + 1, min f i, by omega, by congr 1; omega, by simp, by omega, ?_⟩
          rcases hfi.out with ⟨e1, e2⟩ | ⟨e1, e2, e3⟩
          · rw [show min f i = i by omega]
            exact .inr ⟨by omega, e2, by rw [Hc.out, Hd.out]; exact hd0⟩
          · rw [show min f i = f by omega]
            exact .inr ⟨by omega, e2, e3⟩
        case measure => simp only [intOf]; omega
      · go_wp2_with first
          | (go_at_call 25; refine (must_ok' _ _).mono ?_; rintro e w5 ⟨rfl, rfl⟩)
          | (go_at_call 31; refine hval.mono ?_; rintro e w6 ⟨rfl, rfl⟩)
        go_round
        case rel =>
          refine ⟨i + 1, f, by omega, rfl, by simp, hf, ?_⟩
          rcases hfi.out with ⟨e1, e2⟩ | ⟨e1, e2, e3⟩
          · refine .inl ⟨e1, fun k hk => ?_⟩
            rcases Nat.lt_or_ge k i with h | h
            · exact e2 k h
            · obtain rfl : k = i := by omega
              rw [Hc.out, Hd.out]; omega
          · exact .inr ⟨by omega, e2, e3⟩
        case measure => simp only [intOf]; omega
    · have hin' : i = T.size := by omega
      have hnI : ¬ (i : Int) < (T.size : Int) := by omega
      have Hin := Lib.hid hin'
      clear hin'
      obtain ⟨hfz, hfp⟩ : (∀ k, k < f → digV 36 ((bytesN T).getD k 0) = 0) ∧ (f = T.size ∨ 0 < digV 36 ((bytesN T).getD f 0)) := by
        rcases hfi.out with ⟨e1, e2⟩ | ⟨e1, e2, e3⟩
        · exact ⟨fun k hk => e2 k (by have := Hin.out; omega), .inl e1⟩
        · exact ⟨e2, .inr e3⟩
      obtain ⟨U, hU⟩ : ∃ U, T.extract f T.size = U := ⟨_, rfl⟩
      have hUs : U.size = T.size - f := by rw [← hU, ByteArray.size_extract]; omega
      have hUl : U.size < 35184372088832 := by omega
      have hUb : bytesN U = (bytesN T).drop f := by rw [← hU]; exact bytesN_extract _ _ _ rfl
      have hUV : parV b (bytesN U) = parV b (bytesN T) := by rw [hUb]; exact parV_drop b _ f hfz (by rw [bytesN_length]; exact hf)
      have hUd : Hid (∀ k, k < U.size → digV 36 ((bytesN U).getD k 0) < b) := by
        intro k hk
        rw [hUb, List.getD_eq_getElem?_getD, List.getElem?_drop, ← List.getD_eq_getElem?_getD]
        exact Hgood.out _ (by omega)
      have hU1 : Hid (0 < U.size → 0 < digV 36 ((bytesN U).getD 0 0)) := by
        intro h
        rw [hUb, List.getD_eq_getElem?_getD, List.getElem?_drop, ← List.getD_eq_getElem?_getD, Nat.add_zero]
        rcases hfp with h1 | h1
        · omega
        · exact h1
      have hfI : (f : Int) ≤ (T.size : Int) := by omega
      have HUs := Lib.hid hUs
      rw [hV.out] at hUV
      have HUV := Lib.hid hUV
      have hW2b := hbut.set 0 (.string U)
      have B2 : Blk (W.setCell ⟨g2, 0, none⟩ (.string U)) g2 #[.string U] 9 := ⟨set_blk HT.h 0 _⟩
      have R2 : Blk (W.setCell ⟨g2, 0, none⟩ (.string U)) w.heap.size #[.bool false, .slice none 0 0] 24 := ⟨(Below.heap_setCell _ _ _ _ (by dsimp only; omega)).trans HR.h⟩
      obtain ⟨W2, hW2⟩ : ∃ W2, W.setCell ⟨g2, 0, none⟩ (.string U) = W2 := ⟨_, rfl⟩
      rw [hW2] at hW2b B2 R2
      have h12W := hW2b.blk h12 h1
      have q0 := cell_at h12W.h 0 _ rfl
      have q1 := cell_at B2.h 0 _ rfl
      clear hfz hfp hUs hUb hUV
      by_cases hlg : U.size ≤ 9600
      · have dl : decide (U.size ≤ 9600) = true := decide_eq_true hlg
        have dlI : decide ((U.size : Int) ≤ 9600) = true := decide_eq_true (by omega)
        have hcv := run_bytes_of_string (P := Tryz.prog) W2 9 53 5 U (by kernel_rfl) (by kernel_rfl) (by kernel_rfl)
        have hcl : ∀ j, j < U.size → (W2.drew.alloc (.cells (bytesRow U (grownCap W2 U.size 0 5)) 5 ((bytesRow U (grownCap W2 U.size 0 5)).size, (bytesRow U (grownCap W2 U.size 0 5)).size + 1))).cell? ⟨W2.heap.size, j, none⟩ = some (.int .u8 (((bytesN U).getD j 0 : Nat) : Int)) := by
          intro j hj
          have e1 := World.cell?_alloc_mark W2.drew (bytesRow U (grownCap W2 U.size 0 5)) 5 ((bytesRow U (grownCap W2 U.size 0 5)).size, (bytesRow U (grownCap W2 U.size 0 5)).size + 1) j
          refine e1.trans ?_
          rw [bytesRow_at U _ j hj, ← getB hj hj]
          rfl
        have hb3 : Below W2.heap.size W2 (W2.drew.alloc (.cells (bytesRow U (grownCap W2 U.size 0 5)) 5 ((bytesRow U (grownCap W2 U.size 0 5)).size, (bytesRow U (grownCap W2 U.size 0 5)).size + 1))) := (Below.refl _ W2).drew.alloc (Nat.le_refl _) _
        generalize grownCap W2 U.size 0 5 = C at *
        obtain ⟨W3, hW3⟩ : ∃ W3, W2.drew.alloc (.cells (bytesRow U C) 5 ((bytesRow U C).size, (bytesRow U C).size + 1)) = W3 := ⟨_, rfl⟩
        rw [hW3] at hcv hcl hb3
        have Hcl := Lib.hid hcl
        have HW3s : Hid (¬ W3.heap.size ≤ W2.heap.size) := by
          show ¬ _
          rw [← hW3, World.size_alloc]
          exact Nat.not_succ_le_self _
        have h1W2 := h12W
        clear hcl hW3 hW
        go_wp2_with first
          | (go_at_call 25; refine (must_ok' _ _).mono ?_; rintro e w5 ⟨rfl, rfl⟩)
        have hW3s := hb3.size
        have ha3 : W2.heap.size < W3.heap.size := by
          rcases Nat.lt_or_ge W2.heap.size W3.heap.size with h | h
          · exact h
          · exact absurd h HW3s.out
        have B3 := hW2b.on t2 hb3
        go_loopw [7, 63] (fun ov iv X => ∃ (i x : Nat) (A : Option Addr) (c : Nat), i ≤ U.size ∧ iv = .int .i64 (i : Int) ∧ ov = .slice A (lim x).length c ∧ (lim x).length ≤ c ∧ Rd X A (lim x) ∧ Below W3.heap.size W3 X ∧ Hid (x = parV b ((bytesN U).take i))) (fun _ iv _ => U.size - (intOf iv).toNat)
        case atStart =>
          refine ⟨0, 0, none, 0, Nat.zero_le _, rfl, ?_, ?_, ?_, Below.refl _ _, ?_⟩
          · rw [lim_zero]; rfl
          · rw [lim_zero]; exact Nat.le_refl _
          · rw [lim_zero]; exact Rd.nil _ _
          · show 0 = _
            rw [List.take_zero]; rfl
        case round =>
          obtain ⟨i, x, A, c, hiU, rfl, rfl, hcap, hrd, hbl, hx⟩ := hrel
          have h1X := (h1W2.on hb3).on hbl
          have r0 := cell_at h1X.h 0 _ rfl
          have lr0 : g1 < wr.heap.size := (Array.getElem?_eq_some_iff.1 h1X.h).1
          have hxl : (lim x).length ≤ 1800 := by
            refine len_of_bits (m := 6 * i) ?_ (by omega)
            have h1 := numOf_lt (b := b) (((bytesN U).take i).map (digV 36)) (by
              intro d hd
              rw [List.mem_map] at hd
              obtain ⟨c, hc, rfl⟩ := hd
              have hc' := List.mem_of_mem_take hc
              obtain ⟨k, hk, rfl⟩ := List.getElem_of_mem hc'
              have := hUd.out k (by rwa [bytesN_length] at hk)
              rwa [List.getD_eq_getElem?_getD, List.getElem?_eq_getElem hk] at this)
            rw [hx.out]
            refine Nat.lt_of_lt_of_le h1 ?_
            rw [List.length_map, List.length_take, bytesN_length, Nat.min_eq_left hiU]
            refine Nat.le_trans (Nat.pow_le_pow_left (show b ≤ 2 ^ 6 by omega) i) ?_
            rw [← Nat.pow_mul]
            exact Nat.le_refl _
          by_cases hin : i < U.size
          · have hiI : (i : Int) < (U.size : Int) := by omega
            have hcell := (hbl.cell (p := ⟨W2.heap.size, i, none⟩) ha3).trans (Hcl.out i hin)
            obtain ⟨cc, hcc⟩ : ∃ cc, (bytesN U).getD i 0 = cc := ⟨_, rfl⟩
            rw [hcc] at hcell
            have hc256 : cc < 256 := by
              rw [← hcc, List.getD_eq_getElem?_getD, List.getElem?_eq_getElem (by rw [bytesN_length]; exact hin)]
              exact bytesN_lt _ _ (List.getElem_mem _)
            have hnx := parV_take (b := b) (cs := bytesN U) (by rw [bytesN_length]; exact hin) hcc
            have hdb := hUd.out i hin
            rw [hcc] at hdb
            have hval := fun X => value_calls cc hc256 X
            obtain ⟨d, hd⟩ : ∃ d, digV 36 cc = d := ⟨_, rfl⟩
            rw [hd] at hval hnx hdb
            rw [← hx.out] at hnx
            have hsc := fun X (hX : Below wr.heap.size wr X) => scaled_calls A c b d (lim x) X (hrd.on hX) hcap (by omega) (by omega) (by omega)
            rw [val_lim] at hsc
            have Hnx := Lib.hid hnx
            have hd32 : d < 4294967296 := by omega
            have hb32 : b < 4294967296 := by omega
            have wb : IntKind.u32.wrap (b : Int) = (b : Int) := by rw [IntKind.wrap_u32]; omega
            have wd : IntKind.u32.wrap (d : Int) = (d : Int) := by rw [IntKind.wrap_u32]; omega
            clear hnx hd hcc hdb
            go_wp2_with fail
            clear Hgood Hin hfi HUs hUd hU1 hcv x0 y0 u0 p0 p1 p2 p3 p4 q0 q1
            go_region_held3 (fun w'' => w''.cell? ⟨g1, 0, none⟩ = some (.int .i64 (b : Int))) ((first | (with_reducible exact z7) | exact r0))
              ((first
                | (go_at_call 31; refine (hval _).mono ?_; rintro e w6 ⟨rfl, rfl⟩)
                | (go_at_call 32; refine (hsc _ (below_drew (Below.refl _ _))).mono ?_; rintro e w7 ⟨A7, c7, rfl, n7, r7, b7⟩; replace b7 := (below_drew (Below.refl _ wr)).trans b7; have z7 : w7.cell? ⟨g1, 0, none⟩ = some (.int .i64 (b : Int)) := cell_at (h1X.on b7).h 0 _ rfl)))
            go_wp2_with fail
            refine ⟨⟨i + 1, x * b + d, A7, c7, by omega, by simp, rfl, n7, r7, hbl.trans (b7.mono hbl.size), Hnx.out.symm⟩, by simp only [intOf]; omega⟩
          · have hiI : ¬ (i : Int) < (U.size : Int) := by omega
            have hxV : x = V := by
              rw [hx.out, List.take_of_length_le (by rw [bytesN_length]; omega)]
              exact HUV.out
            subst hxV
            have B8 := B3.on t2 hbl
            have R8 := (R2.on hb3).on hbl
            have ha : ∀ n : Nat, ((n : Int)).natAbs = n ∧ (-(n : Int)).natAbs = n := fun n => by omega
            have HA := Lib.hid ha
            clear ha
            by_cases hs : (lim x).length ≤ 300
            · have hwz := whole_z true x hs A c wr hrd hcap
              simp only [if_true] at hwz
              go_wp2_with (go_at_call 33; refine hwz.mono ?_; rintro e w8 ⟨s8, A8, c8, l8, rfl, z8, n8, r8, b8⟩; have hq8 := R8.on b8; have v0 := cell_at hq8.h 0 _ rfl; have v1 := cell_at hq8.h 1 _ rfl; have f0 := frozen_at hq8.h 0; have f1 := frozen_at hq8.h 1)
              have hfit : fitZ (-(x : Int)) = ((-(x : Int)), 0) := by
                unfold fitZ
                rw [if_pos (by rw [(HA.out x).2]; exact hs)]
              refine ret_cell rfl rfl rfl (set_blk (set_blk hq8.h 0 _) 1 _) ?_
              rw [hfit]
              exact ⟨fun _ => ⟨s8, A8, c8, l8, rfl, z8, n8, rd_sets r8 hq8 _ _, ((B8.on t2 b8).setNew t2 (Nat.le_refl _) _).setNew t2 (Nat.le_refl _) _⟩, fun h => absurd rfl h⟩
            · have hwn := whole_no true A c (lim x) wr hrd hcap (by rw [val_lim]; omega)
              go_wp2_with (go_at_call 33; refine hwn.mono ?_; rintro e w8 ⟨rfl, b8⟩)
              have hfit : fitZ (-(x : Int)) = (0, 3) := by
                unfold fitZ
                rw [if_neg (by rw [(HA.out x).2]; exact hs)]
              rw [hfit]
              exact ⟨rfl, fun h => absurd h (by decide), fun _ => ⟨rfl, rfl, B8.on t2 b8⟩⟩
      · have dl : decide (U.size ≤ 9600) = false := decide_eq_false hlg
        have dlI : decide ((U.size : Int) ≤ 9600) = false := decide_eq_false (by omega)
        have hbig : ¬ (lim V).length ≤ 300 := by
          have e1 := HUV.out
          have hl : 0 < (bytesN U).length := by rw [bytesN_length]; omega
          have e2 : bytesN U = (bytesN U).getD 0 0 :: (bytesN U).drop 1 := by
            conv => lhs; rw [← List.drop_zero (l := bytesN U), List.drop_eq_getElem_cons hl]
            rw [List.getD_eq_getElem?_getD, List.getElem?_eq_getElem hl]; rfl
          have h1 := hU1.out (by omega)
          rw [e2] at e1
          unfold parV at e1
          rw [List.map_cons, numOf_cons, List.length_map, List.length_drop, bytesN_length] at e1
          have h2 : 2 ^ (U.size - 1) ≤ b ^ (U.size - 1) := Nat.pow_le_pow_left hb1 _
          have h3 := Nat.le_mul_of_pos_left (b ^ (U.size - 1)) h1
          exact not_small (m := U.size - 1) (Nat.le_trans h2 (Nat.le_trans h3 (by rw [← e1]; exact Nat.le_add_right _ _))) (by omega)
        have Hbig := Lib.hid hbig
        clear hbig hW
        go_wp2_with first
          | (go_at_call 25; refine (must_no' _ _).mono ?_; rintro e w5 ⟨rfl, rfl⟩)
        have hfit : fitZ (-(V : Int)) = (0, 3) := by
          unfold fitZ
          rw [if_neg (by rw [show ((-(V : Int))).natAbs = V by omega]; exact Hbig.out)]
        rw [hfit]
        exact ⟨rfl, fun h => absurd h (by decide), fun _ => ⟨rfl, rfl, hW2b⟩⟩
set_option maxRecDepth 100000 in
set_option maxHeartbeats 4000000 in
theorem parse1_good_f (g1 g2 : Nat) (b : Nat) (S T : ByteArray) (w : World) (h1 : Blk w g1 #[.int .i64 (b : Int)] 3) (h2 : Blk w g2 #[.string S] 9) (h12 : g1 ≠ g2) (hb1 : 2 ≤ b) (hb2 : b ≤ 36) (hS : 0 < S.size) (c0 : Nat) (hc0 : ∀ h, (S[0]'h).toNat = c0) (hneg : ((c0 : Int) == 45) = false) (hT : S = T) (hsm : S.size < 35184372088832) (h0 : 0 < T.size) (hgood : ∀ k, k < T.size → digV 36 ((bytesN T).getD k 0) < b) (V : Nat) (hV : Hid (parV b (bytesN T) = V)) :
    Calls Tryz.prog 30 #[.pointer (some ⟨g1, 0, none⟩), .pointer (some ⟨g2, 0, none⟩)] w (PostB g2 (fitZ (V : Int)).1 (fitZ (V : Int)).2 w) := by
  subst hT
  have x0 := cell_at h1.h 0 _ rfl
  have y0 := cell_at h2.h 0 _ rfl
  have u0 := frozen_at h2.h 0
  have t1 := (Array.getElem?_eq_some_iff.1 h1.h).1
  have t2 := (Array.getElem?_eq_some_iff.1 h2.h).1
  have dm4 : decide ((b : Int) ≤ 36) = true := decide_eq_true (by omega)
  have dS : decide (0 < S.size) = true := decide_eq_true hS
  have hbut : But g2 w (w.alloc (.cells #[.bool false, .slice none 0 0] 24)) := (But.refl g2 w) |>.on t2 ((Below.refl _ _).alloc (Nat.le_refl _) _)
  have HT : Blk (w.alloc (.cells #[.bool false, .slice none 0 0] 24)) g2 #[.string S] 9 := ⟨(Below.heap_alloc _ _ _ (t2)).trans (h2.h)⟩
  have HR : Blk (w.alloc (.cells #[.bool false, .slice none 0 0] 24)) w.heap.size #[.bool false, .slice none 0 0] 24 := ⟨by have := World.alloc_heap_new w (.cells #[.bool false, .slice none 0 0] 24); exact this⟩
  obtain ⟨W, hW⟩ : ∃ W, w.alloc (.cells #[.bool false, .slice none 0 0] 24) = W := ⟨_, rfl⟩
  rw [hW] at hbut HT HR
  have h1W := hbut.blk h12 h1
  have p0 := cell_at h1W.h 0 _ rfl
  have p1 := cell_at HT.h 0 _ rfl
  have p2 := frozen_at HT.h 0
  have p3 := cell_at HR.h 0 _ rfl
  have p4 := cell_at HR.h 1 _ rfl
  go_enter Tryz.func30, Tryz.ntmps30
  have dT : decide (0 < S.size) = true := decide_eq_true h0
  have Hgood := Lib.hid hgood
  have hTl : S.size < 35184372088832 := by exact hsm
  clear hgood
  go_wp2_with first
    | (go_at_call 25; refine (must_ok' _ _).mono ?_; rintro e w5 ⟨rfl, rfl⟩)
  go_loop [4, 36] (fun fv iv => ∃ i f : Nat, i ≤ S.size ∧ fv = .int .i64 (f : Int) ∧ iv = .int .i64 (i : Int) ∧ f ≤ S.size ∧ Hid ((f = S.size ∧ ∀ k, k < i → digV 36 ((bytesN S).getD k 0) = 0) ∨ (f < i ∧ (∀ k, k < f → digV 36 ((bytesN S).getD k 0) = 0) ∧ 0 < digV 36 ((bytesN S).getD f 0)))) (fun _ iv => S.size - (intOf iv).toNat)
  case atStart => exact ⟨0, S.size, Nat.zero_le _, rfl, rfl, Nat.le_refl _, .inl ⟨rfl, fun k hk => absurd hk (Nat.not_lt_zero _)⟩⟩
  case round =>
    obtain ⟨i, f, hip, rfl, rfl, hf, hfi⟩ := hrel
    by_cases hin : i < S.size
    · have hiI : (i : Int) < (S.size : Int) := by omega
      have hiT : i < S.size := by omega
      have hget := getB hiT
      obtain ⟨c, hc⟩ : ∃ c, (bytesN S).getD i 0 = c := ⟨_, rfl⟩
      rw [hc] at hget
      have hc256 : c < 256 := by
        rw [← hc, List.getD_eq_getElem?_getD, List.getElem?_eq_getElem (by rw [bytesN_length]; exact hiT)]
        exact bytesN_lt _ _ (List.getElem_mem _)
      have hval := value_calls c hc256 W
      obtain ⟨d, hd⟩ : ∃ d, digV 36 c = d := ⟨_, rfl⟩
      rw [hd] at hval
      have Hc := Lib.hid hc
      have Hd := Lib.hid hd
      clear hc hd
      have hdb : d < b := by have := Hgood.out i hin; rwa [Hc.out, Hd.out] at this
      have db : decide (d < b) = true := decide_eq_true (by omega)
      have dbI : decide ((d : Int) < (b : Int)) = true := decide_eq_true (by omega)
      by_cases hd0 : 0 < d
      · go_wp2_with first
          | (go_at_call 25; refine (must_ok' _ _).mono ?_; rintro e w5 ⟨rfl, rfl⟩)
          | (go_at_call 31; refine hval.mono ?_; rintro e w6 ⟨rfl, rfl⟩)
        go_round
        case rel =>
          refine ⟨i + 1, min f i, by omega, by congr 1; omega, by simp, by omega, ?_⟩
          rcases hfi.out with ⟨e1, e2⟩ | ⟨e1, e2, e3⟩
          · rw [show min f i = i by omega]
            exact .inr ⟨by omega, e2, by rw [Hc.out, Hd.out]; exact hd0⟩
          · rw [show min f i = f by omega]
            exact .inr ⟨by omega, e2, e3⟩
        case measure => simp only [intOf]; omega
      · go_wp2_with first
          | (go_at_call 25; refine (must_ok' _ _).mono ?_; rintro e w5 ⟨rfl, rfl⟩)
          | (go_at_call 31; refine hval.mono ?_; rintro e w6 ⟨rfl, rfl⟩)
        go_round
        case rel =>
          refine ⟨i + 1, f, by omega, rfl, by simp, hf, ?_⟩
          rcases hfi.out with ⟨e1, e2⟩ | ⟨e1, e2, e3⟩
          · refine .inl ⟨e1, fun k hk => ?_⟩
            rcases Nat.lt_or_ge k i with h | h
            · exact e2 k h
            · obtain rfl : k = i := by omega
              rw [Hc.out, Hd.out]; omega
          · exact .inr ⟨by omega, e2, e3⟩
        case measure => simp only [intOf]; omega
    · have hin' : i = S.size := by omega
      have hnI : ¬ (i : Int) < (S.size : Int) := by omega
      have Hin := Lib.hid hin'
      clear hin'
      obtain ⟨hfz, hfp⟩ : (∀ k, k < f → digV 36 ((bytesN S).getD k 0) = 0) ∧ (f = S.size ∨ 0 < digV 36 ((bytesN S).getD f 0)) := by
        rcases hfi.out with ⟨e1, e2⟩ | ⟨e1, e2, e3⟩
        · exact ⟨fun k hk => e2 k (by have := Hin.out; omega), .inl e1⟩
        · exact ⟨e2, .inr e3⟩
      obtain ⟨U, hU⟩ : ∃ U, S.extract f S.size = U := ⟨_, rfl⟩
      have hUs : U.size = S.size - f := by rw [← hU, ByteArray.size_extract]; omega
      have hUl : U.size < 35184372088832 := by omega
      have hUb : bytesN U = (bytesN S).drop f := by rw [← hU]; exact bytesN_extract _ _ _ rfl
      have hUV : parV b (bytesN U) = parV b (bytesN S) := by rw [hUb]; exact parV_drop b _ f hfz (by rw [bytesN_length]; exact hf)
      have hUd : Hid (∀ k, k < U.size → digV 36 ((bytesN U).getD k 0) < b) := by
        intro k hk
        rw [hUb, List.getD_eq_getElem?_getD, List.getElem?_drop, ← List.getD_eq_getElem?_getD]
        exact Hgood.out _ (by omega)
      have hU1 : Hid (0 < U.size → 0 < digV 36 ((bytesN U).getD 0 0)) := by
        intro h
        rw [hUb, List.getD_eq_getElem?_getD, List.getElem?_drop, ← List.getD_eq_getElem?_getD, Nat.add_zero]
        rcases hfp with h1 | h1
        · omega
        · exact h1
      have hfI : (f : Int) ≤ (S.size : Int) := by omega
      have HUs := Lib.hid hUs
      rw [hV.out] at hUV
      have HUV := Lib.hid hUV
      have hW2b := hbut.set 0 (.string U)
      have B2 : Blk (W.setCell ⟨g2, 0, none⟩ (.string U)) g2 #[.string U] 9 := ⟨set_blk HT.h 0 _⟩
      have R2 : Blk (W.setCell ⟨g2, 0, none⟩ (.string U)) w.heap.size #[.bool false, .slice none 0 0] 24 := ⟨(Below.heap_setCell _ _ _ _ (by dsimp only; omega)).trans HR.h⟩
      obtain ⟨W2, hW2⟩ : ∃ W2, W.setCell ⟨g2, 0, none⟩ (.string U) = W2 := ⟨_, rfl⟩
      rw [hW2] at hW2b B2 R2
      have h12W := hW2b.blk h12 h1
      have q0 := cell_at h12W.h 0 _ rfl
      have q1 := cell_at B2.h 0 _ rfl
      clear hfz hfp hUs hUb hUV
      by_cases hlg : U.size ≤ 9600
      · have dl : decide (U.size ≤ 9600) = true := decide_eq_true hlg
        have dlI : decide ((U.size : Int) ≤ 9600) = true := decide_eq_true (by omega)
        have hcv := run_bytes_of_string (P := Tryz.prog) W2 9 53 5 U (by kernel_rfl) (by kernel_rfl) (by kernel_rfl)
        have hcl : ∀ j, j < U.size → (W2.drew.alloc (.cells (bytesRow U (grownCap W2 U.size 0 5)) 5 ((bytesRow U (grownCap W2 U.size 0 5)).size, (bytesRow U (grownCap W2 U.size 0 5)).size + 1))).cell? ⟨W2.heap.size, j, none⟩ = some (.int .u8 (((bytesN U).getD j 0 : Nat) : Int)) := by
          intro j hj
          have e1 := World.cell?_alloc_mark W2.drew (bytesRow U (grownCap W2 U.size 0 5)) 5 ((bytesRow U (grownCap W2 U.size 0 5)).size, (bytesRow U (grownCap W2 U.size 0 5)).size + 1) j
          refine e1.trans ?_
          rw [bytesRow_at U _ j hj, ← getB hj hj]
          rfl
        have hb3 : Below W2.heap.size W2 (W2.drew.alloc (.cells (bytesRow U (grownCap W2 U.size 0 5)) 5 ((bytesRow U (grownCap W2 U.size 0 5)).size, (bytesRow U (grownCap W2 U.size 0 5)).size + 1))) := (Below.refl _ W2).drew.alloc (Nat.le_refl _) _
        generalize grownCap W2 U.size 0 5 = C at *
        obtain ⟨W3, hW3⟩ : ∃ W3, W2.drew.alloc (.cells (bytesRow U C) 5 ((bytesRow U C).size, (bytesRow U C).size + 1)) = W3 := ⟨_, rfl⟩
        rw [hW3] at hcv hcl hb3
        have Hcl := Lib.hid hcl
        have HW3s : Hid (¬ W3.heap.size ≤ W2.heap.size) := by
          show ¬ _
          rw [← hW3, World.size_alloc]
          exact Nat.not_succ_le_self _
        have h1W2 := h12W
        clear hcl hW3 hW
        go_wp2_with first
          | (go_at_call 25; refine (must_ok' _ _).mono ?_; rintro e w5 ⟨rfl, rfl⟩)
        have hW3s := hb3.size
        have ha3 : W2.heap.size < W3.heap.size := by
          rcases Nat.lt_or_ge W2.heap.size W3.heap.size with h | h
          · exact h
          · exact absurd h HW3s.out
        have B3 := hW2b.on t2 hb3
        go_loopw [7, 63] (fun ov iv X => ∃ (i x : Nat) (A : Option Addr) (c : Nat), i ≤ U.size ∧ iv = .int .i64 (i : Int) ∧ ov = .slice A (lim x).length c ∧ (lim x).length ≤ c ∧ Rd X A (lim x) ∧ Below W3.heap.size W3 X ∧ Hid (x = parV b ((bytesN U).take i))) (fun _ iv _ => U.size - (intOf iv).toNat)
        case atStart =>
          refine ⟨0, 0, none, 0, Nat.zero_le _, rfl, ?_, ?_, ?_, Below.refl _ _, ?_⟩
          · rw [lim_zero]; rfl
          · rw [lim_zero]; exact Nat.le_refl _
          · rw [lim_zero]; exact Rd.nil _ _
          · show 0 = _
            rw [List.take_zero]; rfl
        case round =>
          obtain ⟨i, x, A, c, hiU, rfl, rfl, hcap, hrd, hbl, hx⟩ := hrel
          have h1X := (h1W2.on hb3).on hbl
          have r0 := cell_at h1X.h 0 _ rfl
          have lr0 : g1 < wr.heap.size := (Array.getElem?_eq_some_iff.1 h1X.h).1
          have hxl : (lim x).length ≤ 1800 := by
            refine len_of_bits (m := 6 * i) ?_ (by omega)
            have h1 := numOf_lt (b := b) (((bytesN U).take i).map (digV 36)) (by
              intro d hd
              rw [List.mem_map] at hd
              obtain ⟨c, hc, rfl⟩ := hd
              have hc' := List.mem_of_mem_take hc
              obtain ⟨k, hk, rfl⟩ := List.getElem_of_mem hc'
              have := hUd.out k (by rwa [bytesN_length] at hk)
              rwa [List.getD_eq_getElem?_getD, List.getElem?_eq_getElem hk] at this)
            rw [hx.out]
            refine Nat.lt_of_lt_of_le h1 ?_
            rw [List.length_map, List.length_take, bytesN_length, Nat.min_eq_left hiU]
            refine Nat.le_trans (Nat.pow_le_pow_left (show b ≤ 2 ^ 6 by omega) i) ?_
            rw [← Nat.pow_mul]
            exact Nat.le_refl _
          by_cases hin : i < U.size
          · have hiI : (i : Int) < (U.size : Int) := by omega
            have hcell := (hbl.cell (p := ⟨W2.heap.size, i, none⟩) ha3).trans (Hcl.out i hin)
            obtain ⟨cc, hcc⟩ : ∃ cc, (bytesN U).getD i 0 = cc := ⟨_, rfl⟩
            rw [hcc] at hcell
            have hc256 : cc < 256 := by
              rw [← hcc, List.getD_eq_getElem?_getD, List.getElem?_eq_getElem (by rw [bytesN_length]; exact hin)]
              exact bytesN_lt _ _ (List.getElem_mem _)
            have hnx := parV_take (b := b) (cs := bytesN U) (by rw [bytesN_length]; exact hin) hcc
            have hdb := hUd.out i hin
            rw [hcc] at hdb
            have hval := fun X => value_calls cc hc256 X
            obtain ⟨d, hd⟩ : ∃ d, digV 36 cc = d := ⟨_, rfl⟩
            rw [hd] at hval hnx hdb
            rw [← hx.out] at hnx
            have hsc := fun X (hX : Below wr.heap.size wr X) => scaled_calls A c b d (lim x) X (hrd.on hX) hcap (by omega) (by omega) (by omega)
            rw [val_lim] at hsc
            have Hnx := Lib.hid hnx
            have hd32 : d < 4294967296 := by omega
            have hb32 : b < 4294967296 := by omega
            have wb : IntKind.u32.wrap (b : Int) = (b : Int) := by rw [IntKind.wrap_u32]; omega
            have wd : IntKind.u32.wrap (d : Int) = (d : Int) := by rw [IntKind.wrap_u32]; omega
            clear hnx hd hcc hdb
            go_wp2_with fail
            clear Hgood Hin hfi HUs hUd hU1 hcv x0 y0 u0 p0 p1 p2 p3 p4 q0 q1
            go_region_held3 (fun w'' => w''.cell? ⟨g1, 0, none⟩ = some (.int .i64 (b : Int))) ((first | (with_reducible exact z7) | exact r0))
              ((first
                | (go_at_call 31; refine (hval _).mono ?_; rintro e w6 ⟨rfl, rfl⟩)
                | (go_at_call 32; refine (hsc _ (below_drew (Below.refl _ _))).mono ?_; rintro e w7 ⟨A7, c7, rfl, n7, r7, b7⟩; replace b7 := (below_drew (Below.refl _ wr)).trans b7; have z7 : w7.cell? ⟨g1, 0, none⟩ = some (.int .i64 (b : Int)) := cell_at (h1X.on b7).h 0 _ rfl)))
            go_wp2_with fail
            refine ⟨⟨i + 1, x * b + d, A7, c7, by omega, by simp, rfl, n7, r7, hbl.trans (b7.mono hbl.size), Hnx.out.symm⟩, by simp only [intOf]; omega⟩
          · have hiI : ¬ (i : Int) < (U.size : Int) := by omega
            have hxV : x = V := by
              rw [hx.out, List.take_of_length_le (by rw [bytesN_length]; omega)]
              exact HUV.out
            subst hxV
            have B8 := B3.on t2 hbl
            have R8 := (R2.on hb3).on hbl
            have ha : ∀ n : Nat, ((n : Int)).natAbs = n ∧ (-(n : Int)).natAbs = n := fun n => by omega
            have HA := Lib.hid ha
            clear ha
            by_cases hs : (lim x).length ≤ 300
            · have hwz := whole_z false x hs A c wr hrd hcap
              simp only [Bool.false_eq_true, if_false] at hwz
              go_wp2_with (go_at_call 33; refine hwz.mono ?_; rintro e w8 ⟨s8, A8, c8, l8, rfl, z8, n8, r8, b8⟩; have hq8 := R8.on b8; have v0 := cell_at hq8.h 0 _ rfl; have v1 := cell_at hq8.h 1 _ rfl; have f0 := frozen_at hq8.h 0; have f1 := frozen_at hq8.h 1)
              have hfit : fitZ (x : Int) = ((x : Int), 0) := by
                unfold fitZ
                rw [if_pos (by rw [(HA.out x).1]; exact hs)]
              refine ret_cell rfl rfl rfl (set_blk (set_blk hq8.h 0 _) 1 _) ?_
              rw [hfit]
              exact ⟨fun _ => ⟨s8, A8, c8, l8, rfl, z8, n8, rd_sets r8 hq8 _ _, ((B8.on t2 b8).setNew t2 (Nat.le_refl _) _).setNew t2 (Nat.le_refl _) _⟩, fun h => absurd rfl h⟩
            · have hwn := whole_no false A c (lim x) wr hrd hcap (by rw [val_lim]; omega)
              go_wp2_with (go_at_call 33; refine hwn.mono ?_; rintro e w8 ⟨rfl, b8⟩)
              have hfit : fitZ (x : Int) = (0, 3) := by
                unfold fitZ
                rw [if_neg (by rw [(HA.out x).1]; exact hs)]
              rw [hfit]
              exact ⟨rfl, fun h => absurd h (by decide), fun _ => ⟨rfl, rfl, B8.on t2 b8⟩⟩
      · have dl : decide (U.size ≤ 9600) = false := decide_eq_false hlg
        have dlI : decide ((U.size : Int) ≤ 9600) = false := decide_eq_false (by omega)
        have hbig : ¬ (lim V).length ≤ 300 := by
          have e1 := HUV.out
          have hl : 0 < (bytesN U).length := by rw [bytesN_length]; omega
          have e2 : bytesN U = (bytesN U).getD 0 0 :: (bytesN U).drop 1 := by
            conv => lhs; rw [← List.drop_zero (l := bytesN U), List.drop_eq_getElem_cons hl]
            rw [List.getD_eq_getElem?_getD, List.getElem?_eq_getElem hl]; rfl
          have h1 := hU1.out (by omega)
          rw [e2] at e1
          unfold parV at e1
          rw [List.map_cons, numOf_cons, List.length_map, List.length_drop, bytesN_length] at e1
          have h2 : 2 ^ (U.size - 1) ≤ b ^ (U.size - 1) := Nat.pow_le_pow_left hb1 _
          have h3 := Nat.le_mul_of_pos_left (b ^ (U.size - 1)) h1
          exact not_small (m := U.size - 1) (Nat.le_trans h2 (Nat.le_trans h3 (by rw [← e1]; exact Nat.le_add_right _ _))) (by omega)
        have Hbig := Lib.hid hbig
        clear hbig hW
        go_wp2_with first
          | (go_at_call 25; refine (must_no' _ _).mono ?_; rintro e w5 ⟨rfl, rfl⟩)
        have hfit : fitZ (V : Int) = (0, 3) := by
          unfold fitZ
          rw [if_neg (by rw [show ((V : Int)).natAbs = V by omega]; exact Hbig.out)]
        rw [hfit]
        exact ⟨rfl, fun h => absurd h (by decide), fun _ => ⟨rfl, rfl, hW2b⟩⟩
end Nm
end Go.Proofs.YtlhmbbpkhahbeaaGreatDoor
namespace Go.Proofs.YtlhmbbpkhahbeaaGreatDoor
namespace Nm
open Go.RowKit Go.Shelf Go.BigFrame
attribute [local go_sem] Oper.semAt_some
theorem parR_zero (b : Int) (cs : List Nat) : (parR b cs).2 ≠ 0 → (parR b cs).1 = 0 := by
  unfold parR
  split
  · split
    · exact fit_zero _
    · intro _; rfl
  · intro _; rfl
theorem parOk_true {b : Nat} {cs : List Nat} (h : parOk b cs = true) : 0 < cs.length ∧ ∀ k, k < cs.length → digV 36 (cs.getD k 0) < b := by
  unfold parOk at h
  rw [Bool.and_eq_true, List.all_eq_true] at h
  refine ⟨?_, fun k hk => ?_⟩
  · cases cs
    · simp at h
    · exact Nat.succ_pos _
  · have := h.2 (cs.getD k 0) (by rw [List.getD_eq_getElem?_getD, List.getElem?_eq_getElem hk]; exact List.getElem_mem _)
    simpa using this
theorem parOk_false {b : Nat} {cs : List Nat} (h : parOk b cs = false) : cs.length = 0 ∨ ∃ p, p < cs.length ∧ b ≤ digV 36 (cs.getD p 0) := by
  rcases Nat.eq_zero_or_pos cs.length with h0 | h0
  · exact .inl h0
  · right
    unfold parOk at h
    have h1 : (!cs.isEmpty) = true := by cases cs <;> simp_all
    rw [h1, Bool.true_and, List.all_eq_false] at h
    obtain ⟨c, hc, hb⟩ := h
    obtain ⟨p, hp, rfl⟩ := List.getElem_of_mem hc
    refine ⟨p, hp, ?_⟩
    rw [List.getD_eq_getElem?_getD, List.getElem?_eq_getElem hp]
    simpa using hb
theorem PostB.no {g : Nat} {er : Int} {w : World} {e : Ending} {w' : World} (h : e = .panicked (wrong er) ∧ But g w w') (hn : er ≠ 0) : PostB g 0 er w e w' := ⟨fun h => absurd h hn, fun _ => ⟨h.1, rfl, h.2⟩⟩
theorem parse1_calls (g1 g2 : Nat) (b : Int) (S : ByteArray) (w : World) (h1 : Blk w g1 #[.int .i64 b] 3) (h2 : Blk w g2 #[.string S] 9) (h12 : g1 ≠ g2) (hsm : S.size < 35184372088832) :
    Calls Tryz.prog 30 #[.pointer (some ⟨g1, 0, none⟩), .pointer (some ⟨g2, 0, none⟩)] w (PostB g2 (parR b (bytesN S)).1 (parR b (bytesN S)).2 w) := by
  unfold parR
  by_cases hr : 2 ≤ b ∧ b ≤ 36
  · rw [if_pos hr]
    obtain ⟨m, rfl⟩ : ∃ m : Nat, b = (m : Int) := ⟨b.toNat, by omega⟩
    rw [Int.toNat_natCast]
    have hm1 : 2 ≤ m := by omega
    have hm2 : m ≤ 36 := by omega
    have hlen := bytesN_length S
    by_cases hS : 0 < S.size
    · have hl : 0 < (bytesN S).length := by omega
      obtain ⟨c0, hc0⟩ : ∃ c0, (bytesN S).getD 0 0 = c0 := ⟨_, rfl⟩
      have hget := getB hS
      rw [hc0] at hget
      have hh : (bytesN S).head? = some c0 := by
        rw [List.head?_eq_getElem?, List.getElem?_eq_getElem hl, ← hc0, List.getD_eq_getElem?_getD, List.getElem?_eq_getElem hl]; rfl
      by_cases hn : c0 = 45
      · have hp : pneg (bytesN S) = true := by unfold pneg; rw [hh, hn]; rfl
        have hbd : pbody (bytesN S) = bytesN (S.extract 1 S.size) := by
          unfold pbody; rw [if_pos hp, bytesN_extract _ _ _ rfl, List.drop_one]
        have hTl := bytesN_length (S.extract 1 S.size)
        have hneg : ((c0 : Int) == 45) = true := by subst hn; rfl
        rw [hbd, hp]
        cases hok : parOk m (bytesN (S.extract 1 S.size))
        · rw [if_neg (by decide)]
          rcases parOk_false hok with h0 | ⟨p, hp, hbad⟩
          · exact (parse1_empty_t g1 g2 m S _ w h1 h2 h12 hm1 hm2 hS c0 hget hneg rfl hsm (by omega)).mono fun e w' h => .no h (by decide)
          · exact (parse1_bad_t g1 g2 m S _ w h1 h2 h12 hm1 hm2 hS c0 hget hneg rfl hsm (by omega) p (by omega) hbad).mono fun e w' h => .no h (by decide)
        · rw [if_pos rfl, if_pos rfl]
          obtain ⟨h0, hg⟩ := parOk_true hok
          exact parse1_good_t g1 g2 m S _ w h1 h2 h12 hm1 hm2 hS c0 hget hneg rfl hsm (by omega) (fun k hk => hg k (by omega)) _ rfl
      · have hp : pneg (bytesN S) = false := by
          unfold pneg
          rw [hh, beq_eq_false_iff_ne]
          intro e; exact hn (by injection e)
        have hbd : pbody (bytesN S) = bytesN S := by unfold pbody; rw [hp]; rfl
        have hneg : ((c0 : Int) == 45) = false := by rw [beq_eq_false_iff_ne]; omega
        rw [hbd, hp]
        cases hok : parOk m (bytesN S)
        · rw [if_neg (by decide)]
          rcases parOk_false hok with h0 | ⟨p, hp, hbad⟩
          · omega
          · exact (parse1_bad_f g1 g2 m S _ w h1 h2 h12 hm1 hm2 hS c0 hget hneg rfl hsm (by omega) p (by omega) hbad).mono fun e w' h => .no h (by decide)
        · rw [if_pos rfl, if_neg (by decide)]
          obtain ⟨h0, hg⟩ := parOk_true hok
          exact parse1_good_f g1 g2 m S _ w h1 h2 h12 hm1 hm2 hS c0 hget hneg rfl hsm (by omega) (fun k hk => hg k (by omega)) _ rfl
    · have he : bytesN S = [] := List.length_eq_zero_iff.1 (by omega)
      rw [he]
      have hok : parOk m (pbody []) = false := rfl
      rw [hok, if_neg (by decide)]
      exact (parse1_empty_e g1 g2 m S _ w h1 h2 h12 hm1 hm2 hS rfl hsm (by omega)).mono fun e w' h => .no h (by decide)
  · rw [if_neg hr]
    have t2 := (Array.getElem?_eq_some_iff.1 h2.h).1
    exact (parse1_range g1 g2 b S w h1 h2 hr).mono fun e w' h => .no ⟨h.1, (But.refl _ _).on t2 h.2⟩ (by decide)
set_option maxRecDepth 100000 in
set_option maxHeartbeats 4000000 in
theorem Parse_calls (b : Int) (S : ByteArray) (w : World) (hsm : S.size < 35184372088832) :
    Calls Tryz.prog 7 #[.string S, .int .i64 b] w (RetZE (parR b (bytesN S)).1 (parR b (bytesN S)).2 w) := by
  have hmf : ∀ (fn : Fn) (first cap : Array Value) (w : World), (Instr.makeFunc fn first cap).run Tryz.prog w = .ok (.func fn first cap) w := fun _ _ _ _ => rfl
  obtain ⟨W3, hW3⟩ : ∃ W3, ((w.alloc (.cells #[.string S] 9)).alloc (.cells #[.int .i64 b] 3)).alloc (.cells #[.bool false, .slice none 0 0] 24) = W3 := ⟨_, rfl⟩
  have hb3 : Below w.heap.size w W3 := by rw [← hW3]; exact (((Below.refl _ w).alloc (Nat.le_refl _) _).alloc (by simp) _).alloc (by simp; omega) _
  have B1 : Blk W3 w.heap.size #[.string S] 9 := ⟨by rw [← hW3]; exact (Below.heap_alloc _ _ _ (by simp; omega)).trans ((Below.heap_alloc _ _ _ (by simp)).trans (World.alloc_heap_new w _))⟩
  have B2 : Blk W3 (w.heap.size + 1) #[.int .i64 b] 3 := ⟨by rw [← hW3]; exact (Below.heap_alloc _ _ _ (by simp)).trans (two_blk w _ _)⟩
  have hsz : W3.heap.size = w.heap.size + 3 := by rw [← hW3]; simp
  have hR : Blk W3 (w.heap.size + 1 + 1) #[.bool false, .slice none 0 0] 24 := ⟨by rw [← hW3]; have := World.alloc_heap_new ((w.alloc (.cells #[.string S] 9)).alloc (.cells #[.int .i64 b] 3)) (.cells #[.bool false, .slice none 0 0] 24); rwa [World.size_alloc, World.size_alloc] at this⟩
  have hB4 : ∀ o o', Below W3.heap.size W3 ((W3.alloc o).alloc o') := fun o o' => ((Below.refl _ W3).alloc (Nat.le_refl _) _).alloc (by simp) _
  have hcl := fun o o' => parse1_calls (w.heap.size + 1) w.heap.size b S ((W3.alloc o).alloc o') (B2.on (hB4 o o')) (B1.on (hB4 o o')) (by omega) hsm
  have hfz := parR_zero b (bytesN S)
  generalize (parR b (bytesN S)).1 = z at *
  generalize (parR b (bytesN S)).2 = er at *
  have hlt : w.heap.size < W3.heap.size := by omega
  have ht := try_low w.heap.size 30 #[.pointer (some ⟨w.heap.size + 1, 0, none⟩), .pointer (some ⟨w.heap.size, 0, none⟩)] (enters_of Tryz.func30 (by kernel_rfl) rfl) W3 hlt z er (hcl _ _) hfz
  clear hsz hcl hfz
  go_enter Tryz.func7, Tryz.ntmps7
  go_wp2_with (go_at_call 29; refine ht.mono ?_; rintro e w' ⟨s, A, c, l, rfl, hz, hc, hr, hb⟩; have hq := hb.blk (by omega) hR; have z0 := cell_at hq.h 0 _ rfl; have z1 := cell_at hq.h 1 _ rfl; have u0 := frozen_at hq.h 0; have u1 := frozen_at hq.h 1)
  exact ret_cell_tmp (x := .bool s) (y := .slice A l.length c) rfl rfl rfl (set_blk (set_blk hq.h 0 _) 1 _) ⟨s, A, c, l, rfl, hz, hc, rd_sets hr hq _ _, ((hb3.trans hb.low).setCell (by dsimp only; omega) _).setCell (by dsimp only; omega) _⟩
end Nm
end Go.Proofs.YtlhmbbpkhahbeaaGreatDoor
namespace Go.Proofs.YtlhmbbpkhahbeaaGreatDoor
namespace Nm
open Go.RowKit Go.Shelf Go.BigFrame
attribute [local go_sem] Oper.semAt_some
/-- integers that fit -/
structure OkZ (s : Bool) (l : List Nat) (z : Int) : Prop where
  isZ : IsZ s l z
  small : l.length ≤ 300
theorem OkZ.ok {s : Bool} {l : List Nat} {z : Int} (h : OkZ s l z) : okI s l = true := okI_of h.isZ h.small
theorem OkZ.val {s : Bool} {l : List Nat} {z : Int} (h : OkZ s l z) : toZ s l = z := h.isZ.toZ
theorem OkZ.nat {s : Bool} {l : List Nat} {z : Int} (h : OkZ s l z) : Nm.val l = z.natAbs := h.isZ.val
theorem okZ_of {s : Bool} {l : List Nat} (hw : Words l) (h : okI s l = true) : OkZ s l (toZ s l) := ⟨(okI_isInt hw h).isZ, (okI_isInt hw h).small⟩
theorem IsZ.okZ {s : Bool} {l : List Nat} {z : Int} (h : IsZ s l z) (hz : z.natAbs < 18446744073709551616) : OkZ s l z :=
  ⟨h, by rw [h.abs]; exact Nat.le_trans (length_le_of_lt (k := 2) (Nat.lt_of_lt_of_le hz (by decide))) (by decide)⟩
theorem divR_z {n1 n2 : Bool} {l1 l2 : List Nat} {z1 z2 : Int} (h1 : OkZ n1 l1 z1) (h2 : OkZ n2 l2 z2) : divR n1 l1 n2 l2 = if z2 = 0 then (0, 0, 20) else (divZ z1 z2, modZ z1 z2, 0) := by
  unfold divR
  rw [h1.ok, h2.ok, h1.val, h2.val, if_pos (by rfl)]
  by_cases h0 : z2 = 0
  · have : l2.length = 0 := by
      have := h2.isZ.abs
      rw [h0] at this
      rw [this]; exact congrArg List.length lim_zero
    rw [if_pos this, if_pos h0]
  · rw [if_neg, if_neg h0]
    have := h2.isZ.abs
    have h3 := lim_length_pos (n := z2.natAbs) (by omega)
    rw [← this] at h3
    omega
theorem powR_z {n1 : Bool} {l1 : List Nat} {z1 : Int} (h1 : OkZ n1 l1 z1) (n : Int) : powR n1 l1 n = if 0 ≤ n ∧ n ≤ 9600 then fitZ (z1 ^ n.toNat) else (0, 1) := by
  unfold powR
  rw [h1.ok, h1.val, if_pos rfl]
theorem textR_z {n1 : Bool} {l1 : List Nat} {z1 : Int} (h1 : OkZ n1 l1 z1) (n : Int) : textR n1 l1 n = if 2 ≤ n ∧ n ≤ 36 then (textL (decide (z1 < 0)) n.toNat z1.natAbs, 0) else ([], 1) := by
  unfold textR
  rw [h1.ok, h1.nat, ← h1.isZ.sgn, Bool.true_and]
  by_cases h : 2 ≤ n ∧ n ≤ 36
  · rw [if_pos h, if_pos (by rw [decide_eq_true h.1, decide_eq_true h.2]; rfl)]
  · rw [if_neg h, if_neg]
    intro hh
    rw [Bool.and_eq_true, decide_eq_true_eq, decide_eq_true_eq] at hh
    exact h hh
theorem sameI_z {n1 n2 : Bool} {l1 l2 : List Nat} {z1 z2 : Int} (h1 : IsZ n1 l1 z1) (h2 : IsZ n2 l2 z2) : sameI n1 l1 n2 l2 = decide (z1 = z2) := by
  unfold sameI
  rw [h1.sgn, h2.sgn, h1.abs, h2.abs]
  by_cases h : z1 = z2
  · subst h; simp
  · rw [decide_eq_false h]
    by_cases hs : z1 < 0 ↔ z2 < 0
    · have hne : z1.natAbs ≠ z2.natAbs := by
        intro e
        by_cases h1 : z1 < 0
        · have := hs.1 h1; omega
        · have : ¬ z2 < 0 := fun h => h1 (hs.2 h)
          omega
      have : (lim z1.natAbs == lim z2.natAbs) = false := by
        rw [beq_eq_false_iff_ne]
        intro e
        have := congrArg Nm.val e
        rw [val_lim, val_lim] at this
        exact hne this
      rw [this, Bool.and_false]
    · have : (decide (z1 < 0) == decide (z2 < 0)) = false := by
        rw [beq_eq_false_iff_ne]
        intro e
        exact hs (by simpa using e)
      rw [this, Bool.false_and]
end Nm
end Go.Proofs.YtlhmbbpkhahbeaaGreatDoor
namespace Go.Proofs.YtlhmbbpkhahbeaaGreatDoor
namespace Nm
open Go.RowKit Go.Shelf Go.BigFrame
attribute [local go_sem] Oper.semAt_some
theorem sane_div : divZ (-7) 2 = -4 ∧ modZ (-7) 2 = 1 := by decide
theorem sane_pow : fitZ ((2 : Int) ^ (32 : Int).toNat) = (4294967296, 0) := by
  unfold fitZ
  rw [if_pos]
  · rfl
  · exact Nat.le_trans (length_le_of_lt (k := 2) (by decide)) (by decide)
theorem sane_text : textL (decide ((255 : Int) < 0)) (16 : Int).toNat (255 : Int).natAbs = [102, 102] := by
  show textL false 16 255 = _
  unfold textL
  rw [if_neg (by decide), digs_pos (by decide) (by decide), digs_pos (by decide) (by decide), show 255 / 16 / 16 = 0 from rfl, digs_zero]
  rfl
theorem sane_parse : parR 16 (bytesN ⟨#[45, 48, 65]⟩) = (-10, 0) := by
  have h : bytesN ⟨#[45, 48, 65]⟩ = [45, 48, 65] := rfl
  rw [h]
  unfold parR
  rw [if_pos (by decide), if_pos (by decide)]
  have e : (if pneg [45, 48, 65] = true then -(parV (16 : Int).toNat (pbody [45, 48, 65]) : Int) else (parV (16 : Int).toNat (pbody [45, 48, 65]) : Int)) = -10 := by decide
  rw [e]
  unfold fitZ
  rw [if_pos]
  exact Nat.le_trans (length_le_of_lt (k := 1) (by decide)) (by decide)
theorem sane_root {s : Bool} {l : List Nat} (h : OkZ s l (-27)) : rootR s l 3 = (-3, 0) := by
  unfold rootR
  rw [h.ok, h.nat, h.isZ.sgn]
  decide
theorem sane_none {s : Bool} {l : List Nat} (h : OkZ s l (-1)) : rootR s l 2 = (0, 5) := by
  unfold rootR
  rw [h.ok, h.nat, h.isZ.sgn]
  decide
theorem two_boxes (w : World) (n1 n2 : Bool) (A1 A2 : Option Addr) (c1 c2 : Nat) (l1 l2 : List Nat) (h1 : Rd w A1 l1) (h2 : Rd w A2 l2) (hc1 : l1.length ≤ c1) (hc2 : l2.length ≤ c2) :
    Below w.heap.size w ((w.alloc (.cells #[.bool n1, .slice A1 l1.length c1] 24)).alloc (.cells #[.bool n2, .slice A2 l2.length c2] 24)) ∧
    IntBox ((w.alloc (.cells #[.bool n1, .slice A1 l1.length c1] 24)).alloc (.cells #[.bool n2, .slice A2 l2.length c2] 24)) w.heap.size n1 A1 c1 l1 ∧
    IntBox ((w.alloc (.cells #[.bool n1, .slice A1 l1.length c1] 24)).alloc (.cells #[.bool n2, .slice A2 l2.length c2] 24)) (w.heap.size + 1) n2 A2 c2 l2 :=
  ⟨two_below _ _, ⟨(two_old w _ _ rfl).h, h1.on (two_below _ _), hc1⟩, ⟨two_blk w _ _, h2.on (two_below _ _), hc2⟩⟩
theorem three_below (w : World) (n1 n2 n3 : Bool) (A1 A2 A3 : Option Addr) (c1 c2 c3 : Nat) (l1 l2 l3 : List Nat) :
    Below w.heap.size w (((w.alloc (.cells #[.bool n1, .slice A1 l1.length c1] 24)).alloc (.cells #[.bool n2, .slice A2 l2.length c2] 24)).alloc (.cells #[.bool n3, .slice A3 l3.length c3] 24)) :=
  (two_below _ _).alloc (by simp; omega) _
theorem three_box (w : World) (n1 n2 n3 : Bool) (A1 A2 A3 : Option Addr) (c1 c2 c3 : Nat) (l1 l2 l3 : List Nat) (h1 : Rd w A1 l1) (hc1 : l1.length ≤ c1) :
    IntBox (((w.alloc (.cells #[.bool n1, .slice A1 l1.length c1] 24)).alloc (.cells #[.bool n2, .slice A2 l2.length c2] 24)).alloc (.cells #[.bool n3, .slice A3 l3.length c3] 24)) w.heap.size n1 A1 c1 l1 :=
  ⟨(Below.heap_alloc _ _ _ (by simp; omega)).trans (two_old w _ _ rfl).h, h1.on (three_below ..), hc1⟩
theorem one_box (w : World) (n1 : Bool) (A1 : Option Addr) (c1 : Nat) (l1 : List Nat) (h1 : Rd w A1 l1) (hc1 : l1.length ≤ c1) :
    Below w.heap.size w (w.alloc (.cells #[.bool n1, .slice A1 l1.length c1] 24)) ∧
    IntBox (w.alloc (.cells #[.bool n1, .slice A1 l1.length c1] 24)) w.heap.size n1 A1 c1 l1 :=
  have hb : Below w.heap.size w (w.alloc (.cells #[.bool n1, .slice A1 l1.length c1] 24)) := (Below.refl _ w).alloc (Nat.le_refl _) _
  ⟨hb, ⟨World.alloc_heap_new w _, h1.on hb, hc1⟩⟩
set_option maxRecDepth 100000 in
set_option maxHeartbeats 8000000 in
theorem sane_calls (w : World) (hd0 : DigW w) :
    Calls Tryz.prog 5 #[] w fun e w' => e = .returned (.bool true) ∧ Below w.heap.size w w' := by
  go_enter Tryz.func5, Tryz.ntmps5
  go_wp2_with first
    | (go_at_call_of 20 (Value.int IntKind.i64 2); have hc := Root_calls s17 2 A17 c17 l17 w17 r17 n17; rw [sane_none k17] at hc; refine hc.mono ?_; rintro e w18 ⟨s18, A18, c18, l18, rfl, z18, n18, r18, b18⟩; clear hc; have bb18 := bb17.trans (b18.mono bb17.size); replace B3 := B3.on b18; replace B4 := B4.on b18; replace B6 := B6.on b18; replace B9 := B9.on b18; replace B14 := B14.on b18; replace B16 := B16.on b18; obtain ⟨bx, -⟩ := one_box w18 s18 A18 c18 l18 r18 n18; have by18 := bb18.trans (bx.mono bb18.size); replace B3 := B3.on bx; replace B4 := B4.on bx; replace B6 := B6.on bx; replace B9 := B9.on bx; replace B14 := B14.on bx; replace B16 := B16.on bx; clear bx z17 k17 r17 n17 b17 b18 bb17 bb18 z18 n18 r18)
    | (go_at_call 17; have hmark := by16; refine (ROf_calls (-1) _ (by decide) (by decide)).mono ?_; rintro e w17 ⟨s17, A17, c17, l17, rfl, z17, n17, r17, b17⟩; have k17 := z17.okZ (by decide); have bb17 := by16.trans (b17.mono by16.size); replace B3 := B3.on b17; replace B4 := B4.on b17; replace B6 := B6.on b17; replace B9 := B9.on b17; replace B14 := B14.on b17; replace B16 := B16.on b17)
    | (go_at_call_of 20 (Value.int IntKind.i64 3); have hc := Root_calls s15 3 A15 c15 l15 w15 r15 n15; rw [sane_root k15] at hc; refine hc.mono ?_; rintro e w16 ⟨s16, A16, c16, l16, rfl, z16, n16, r16, b16⟩; clear hc; have bb16 := bb15.trans (b16.mono bb15.size); replace B3 := B3.on b16; replace B4 := B4.on b16; replace B6 := B6.on b16; replace B9 := B9.on b16; replace B14 := B14.on b16; obtain ⟨bx, B16⟩ := one_box w16 s16 A16 c16 l16 r16 n16; have by16 := bb16.trans (bx.mono bb16.size); replace B3 := B3.on bx; replace B4 := B4.on bx; replace B6 := B6.on bx; replace B9 := B9.on bx; replace B14 := B14.on bx; clear bx z15 k15 r15 n15 b15 b16 bb15 bb16)
    | (go_at_call 17; have hmark := by14; refine (ROf_calls (-27) _ (by decide) (by decide)).mono ?_; rintro e w15 ⟨s15, A15, c15, l15, rfl, z15, n15, r15, b15⟩; have k15 := z15.okZ (by decide); have bb15 := by14.trans (b15.mono by14.size); replace B3 := B3.on b15; replace B4 := B4.on b15; replace B6 := B6.on b15; replace B9 := B9.on b15; replace B14 := B14.on b15)
    | (go_at_call 7; have hc := Parse_calls 16 ⟨#[45, 48, 65]⟩ w13 (by decide); rw [sane_parse] at hc; refine hc.mono ?_; rintro e w14 ⟨s14, A14, c14, l14, rfl, z14, n14, r14, b14⟩; clear hc; have bb14 := bb13.trans (b14.mono bb13.size); replace B3 := B3.on b14; replace B4 := B4.on b14; replace B6 := B6.on b14; replace B9 := B9.on b14; obtain ⟨bx, B14⟩ := one_box w14 s14 A14 c14 l14 r14 n14; have by14 := bb14.trans (bx.mono bb14.size); replace B3 := B3.on bx; replace B4 := B4.on bx; replace B6 := B6.on bx; replace B9 := B9.on bx; clear bx b14 bb13 bb14)
    | (go_at_call 6; have hp := textR_z k12 16; rw [if_pos (by decide), sane_text] at hp; have hc := Text_calls s12 16 A12 c12 l12 w12 r12 n12 (hd0.on bb12); rw [hp, show strB [102, 102] = ⟨#[102, 102]⟩ from rfl] at hc; refine hc.mono ?_; rintro e w13 ⟨rfl, b13⟩; clear hp hc; have bb13 := bb12.trans (b13.mono bb12.size); replace B3 := B3.on b13; replace B4 := B4.on b13; replace B6 := B6.on b13; replace B9 := B9.on b13; clear z12 k12 r12 n12 b12 b13 bb12)
    | (go_at_call 17; have hmark := by9; refine (ROf_calls (255) _ (by decide) (by decide)).mono ?_; rintro e w12 ⟨s12, A12, c12, l12, rfl, z12, n12, r12, b12⟩; have k12 := z12.okZ (by decide); have bb12 := by9.trans (b12.mono by9.size); replace B3 := B3.on b12; replace B4 := B4.on b12; replace B6 := B6.on b12; replace B9 := B9.on b12)
    | (go_at_call 19; have hc := Gcd_calls s7 s8 A7 A8 c7 c8 l7 l8 w8 r7 r8 n7 n8; rw [k7.ok, k8.ok, k7.val, k8.val] at hc; refine hc.mono ?_; rintro e w9 ⟨zg, zx, zy, er, s9, A9, c9, l9, s10, A10, c10, l10, s11, A11, c11, l11, hg, rfl, z9, z10, z11, n9, n10, n11, r9, r10, r11, b9⟩; obtain ⟨rfl, hgo⟩ := hg.1 rfl; have hg6 : zg = 6 := hgo.gcd; subst hg6; clear hg hgo hc; have bb9 := bb8.trans (b9.mono bb8.size); replace B3 := B3.on b9; replace B4 := B4.on b9; replace B6 := B6.on b9; have B9 := three_box w9 s9 s10 s11 A9 A10 A11 c9 c10 c11 l9 l10 l11 r9 n9; have bx := three_below w9 s9 s10 s11 A9 A10 A11 c9 c10 c11 l9 l10 l11; have by9 := bb9.trans (bx.mono bb9.size); replace B3 := B3.on bx; replace B4 := B4.on bx; replace B6 := B6.on bx; clear bx z7 z8 z10 z11 n10 n11 r10 r11 k7 k8 r7 r8 b7 b8 b9 bb7 bb8 bb9)
    | (go_at_call 17; have hmark := bb7; refine (ROf_calls (-18) _ (by decide) (by decide)).mono ?_; rintro e w8 ⟨s8, A8, c8, l8, rfl, z8, n8, r8, b8⟩; have k8 := z8.okZ (by decide); replace r7 := r7.on b8; have bb8 := bb7.trans (b8.mono bb7.size); replace B3 := B3.on b8; replace B4 := B4.on b8; replace B6 := B6.on b8)
    | (go_at_call 17; have hmark := by6; refine (ROf_calls (12) _ (by decide) (by decide)).mono ?_; rintro e w7 ⟨s7, A7, c7, l7, rfl, z7, n7, r7, b7⟩; have k7 := z7.okZ (by decide); have bb7 := by6.trans (b7.mono by6.size); replace B3 := B3.on b7; replace B4 := B4.on b7; replace B6 := B6.on b7)
    | (go_at_call 18; have hp := powR_z k5 32; rw [if_pos (by decide), sane_pow] at hp; have hc := Pow_calls s5 32 A5 c5 l5 w5 r5 n5; rw [hp] at hc; refine hc.mono ?_; rintro e w6 ⟨s6, A6, c6, l6, rfl, z6, n6, r6, b6⟩; clear hp hc; have bb6 := bb5.trans (b6.mono bb5.size); replace B3 := B3.on b6; replace B4 := B4.on b6; obtain ⟨bx, B6⟩ := one_box w6 s6 A6 c6 l6 r6 n6; have by6 := bb6.trans (bx.mono bb6.size); replace B3 := B3.on bx; replace B4 := B4.on bx; clear bx z5 k5 r5 b5 b6 bb5 bb6)
    | (go_at_call 17; have hmark := by3; refine (ROf_calls (2) _ (by decide) (by decide)).mono ?_; rintro e w5 ⟨s5, A5, c5, l5, rfl, z5, n5, r5, b5⟩; have k5 := z5.okZ (by decide); have bb5 := by3.trans (b5.mono by3.size); replace B3 := B3.on b5; replace B4 := B4.on b5)
    | (go_at_call 16; have hd := divR_z k1 k2; rw [if_neg (by decide), sane_div.1, sane_div.2] at hd; have hc := Div_calls s1 s2 A1 A2 c1 c2 l1 l2 w2 r1 r2 n1 n2; rw [hd] at hc; refine hc.mono ?_; rintro e w3 ⟨s3, A3, c3, l3, s4, A4, c4, l4, rfl, z3, z4, n3, n4, r3, r4, b3⟩; clear hd hc; have bb3 := bb2.trans (b3.mono bb2.size); obtain ⟨bx, B3, B4⟩ := two_boxes w3 s3 s4 A3 A4 c3 c4 l3 l4 r3 r4 n3 n4; have by3 := bb3.trans (bx.mono bb3.size); clear bx z1 z2 k1 k2 r1 r2 b1 b2 b3 bb1 bb2)
    | (go_at_call 17; have hmark := bb1; refine (ROf_calls (2) _ (by decide) (by decide)).mono ?_; rintro e w2 ⟨s2, A2, c2, l2, rfl, z2, n2, r2, b2⟩; have k2 := z2.okZ (by decide); replace r1 := r1.on b2; have bb2 := bb1.trans (b2.mono bb1.size))
    | (go_at_call 17; refine (ROf_calls (-7) _ (by decide) (by decide)).mono ?_; rintro e w1 ⟨s1, A1, c1, l1, rfl, z1, n1, r1, b1⟩; have k1 := z1.okZ (by decide); have bb1 := b1)
  generalize w3.heap.size = g3 at *
  generalize w6.heap.size = g6 at *
  generalize w9.heap.size = g9 at *
  generalize w14.heap.size = g14 at *
  generalize w16.heap.size = g16 at *
  obtain ⟨W, hW⟩ : ∃ W, w18.alloc (.cells #[.bool s18, .slice A18 l18.length c18] 24) = W := ⟨_, rfl⟩
  rw [hW] at B3 B4 B6 B9 B14 B16 by18 ⊢
  clear hW
  have y3a : W.cell? ⟨g3, 0, none⟩ = some (.bool s3) := cell_at B3.blk 0 _ rfl
  have y3b : W.cell? ⟨g3, 1, none⟩ = some (.slice A3 l3.length c3) := cell_at B3.blk 1 _ rfl
  have y4a : W.cell? ⟨g3 + 1, 0, none⟩ = some (.bool s4) := cell_at B4.blk 0 _ rfl
  have y4b : W.cell? ⟨g3 + 1, 1, none⟩ = some (.slice A4 l4.length c4) := cell_at B4.blk 1 _ rfl
  have y6a : W.cell? ⟨g6, 0, none⟩ = some (.bool s6) := cell_at B6.blk 0 _ rfl
  have y6b : W.cell? ⟨g6, 1, none⟩ = some (.slice A6 l6.length c6) := cell_at B6.blk 1 _ rfl
  have y9a : W.cell? ⟨g9, 0, none⟩ = some (.bool s9) := cell_at B9.blk 0 _ rfl
  have y9b : W.cell? ⟨g9, 1, none⟩ = some (.slice A9 l9.length c9) := cell_at B9.blk 1 _ rfl
  have y14a : W.cell? ⟨g14, 0, none⟩ = some (.bool s14) := cell_at B14.blk 0 _ rfl
  have y14b : W.cell? ⟨g14, 1, none⟩ = some (.slice A14 l14.length c14) := cell_at B14.blk 1 _ rfl
  have y16a : W.cell? ⟨g16, 0, none⟩ = some (.bool s16) := cell_at B16.blk 0 _ rfl
  have y16b : W.cell? ⟨g16, 1, none⟩ = some (.slice A16 l16.length c16) := cell_at B16.blk 1 _ rfl
  go_region_held3 (fun w'' => w''.cell? ⟨g3, 0, none⟩ = some (.bool s3) ∧ w''.cell? ⟨g3, 1, none⟩ = some (.slice A3 l3.length c3) ∧ w''.cell? ⟨g3 + 1, 0, none⟩ = some (.bool s4) ∧ w''.cell? ⟨g3 + 1, 1, none⟩ = some (.slice A4 l4.length c4) ∧ w''.cell? ⟨g6, 0, none⟩ = some (.bool s6) ∧ w''.cell? ⟨g6, 1, none⟩ = some (.slice A6 l6.length c6) ∧ w''.cell? ⟨g9, 0, none⟩ = some (.bool s9) ∧ w''.cell? ⟨g9, 1, none⟩ = some (.slice A9 l9.length c9) ∧ w''.cell? ⟨g14, 0, none⟩ = some (.bool s14) ∧ w''.cell? ⟨g14, 1, none⟩ = some (.slice A14 l14.length c14) ∧ w''.cell? ⟨g16, 0, none⟩ = some (.bool s16) ∧ w''.cell? ⟨g16, 1, none⟩ = some (.slice A16 l16.length c16)) ((first | (with_reducible exact ⟨y3a, y3b, y4a, y4b, y6a, y6b, y9a, y9b, y14a, y14b, y16a, y16b⟩) | exact ⟨y3a, y3b, y4a, y4b, y6a, y6b, y9a, y9b, y14a, y14b, y16a, y16b⟩))
    ((first
      | (go_at_call 8; have hmark := q33; have hc := Same_calls s32 s33 A32 A33 c32 c33 l32 l33 w33 r32 r33 n32 n33; rw [sameI_z z32 z33, show decide ((-5 : Int) = -5) = true from by decide] at hc; refine hc.mono ?_; rintro e w34 ⟨rfl, b34⟩; clear hc; clear y3a y3b y4a y4b y6a y6b y9a y9b y14a y14b y16a y16b; have q34 := q33.trans (b34.mono q33.size); have y3a : w34.cell? ⟨g3, 0, none⟩ = some (.bool s3) := cell_at (B3.on q34).blk 0 _ rfl; have y3b : w34.cell? ⟨g3, 1, none⟩ = some (.slice A3 l3.length c3) := cell_at (B3.on q34).blk 1 _ rfl; have y4a : w34.cell? ⟨g3 + 1, 0, none⟩ = some (.bool s4) := cell_at (B4.on q34).blk 0 _ rfl; have y4b : w34.cell? ⟨g3 + 1, 1, none⟩ = some (.slice A4 l4.length c4) := cell_at (B4.on q34).blk 1 _ rfl; have y6a : w34.cell? ⟨g6, 0, none⟩ = some (.bool s6) := cell_at (B6.on q34).blk 0 _ rfl; have y6b : w34.cell? ⟨g6, 1, none⟩ = some (.slice A6 l6.length c6) := cell_at (B6.on q34).blk 1 _ rfl; have y9a : w34.cell? ⟨g9, 0, none⟩ = some (.bool s9) := cell_at (B9.on q34).blk 0 _ rfl; have y9b : w34.cell? ⟨g9, 1, none⟩ = some (.slice A9 l9.length c9) := cell_at (B9.on q34).blk 1 _ rfl; have y14a : w34.cell? ⟨g14, 0, none⟩ = some (.bool s14) := cell_at (B14.on q34).blk 0 _ rfl; have y14b : w34.cell? ⟨g14, 1, none⟩ = some (.slice A14 l14.length c14) := cell_at (B14.on q34).blk 1 _ rfl; have y16a : w34.cell? ⟨g16, 0, none⟩ = some (.bool s16) := cell_at (B16.on q34).blk 0 _ rfl; have y16b : w34.cell? ⟨g16, 1, none⟩ = some (.slice A16 l16.length c16) := cell_at (B16.on q34).blk 1 _ rfl)
      | (go_at_call 17; have hmark := q32; refine (ROf_calls (-5) _ (by decide) (by decide)).mono ?_; rintro e w33 ⟨s33, A33, c33, l33, rfl, z33, n33, r33, b33⟩; clear y3a y3b y4a y4b y6a y6b y9a y9b y14a y14b y16a y16b; have q33 := q32.trans (b33.mono q32.size); replace r32 := r32.on b33; have y3a : w33.cell? ⟨g3, 0, none⟩ = some (.bool s3) := cell_at (B3.on q33).blk 0 _ rfl; have y3b : w33.cell? ⟨g3, 1, none⟩ = some (.slice A3 l3.length c3) := cell_at (B3.on q33).blk 1 _ rfl; have y4a : w33.cell? ⟨g3 + 1, 0, none⟩ = some (.bool s4) := cell_at (B4.on q33).blk 0 _ rfl; have y4b : w33.cell? ⟨g3 + 1, 1, none⟩ = some (.slice A4 l4.length c4) := cell_at (B4.on q33).blk 1 _ rfl; have y6a : w33.cell? ⟨g6, 0, none⟩ = some (.bool s6) := cell_at (B6.on q33).blk 0 _ rfl; have y6b : w33.cell? ⟨g6, 1, none⟩ = some (.slice A6 l6.length c6) := cell_at (B6.on q33).blk 1 _ rfl; have y9a : w33.cell? ⟨g9, 0, none⟩ = some (.bool s9) := cell_at (B9.on q33).blk 0 _ rfl; have y9b : w33.cell? ⟨g9, 1, none⟩ = some (.slice A9 l9.length c9) := cell_at (B9.on q33).blk 1 _ rfl; have y14a : w33.cell? ⟨g14, 0, none⟩ = some (.bool s14) := cell_at (B14.on q33).blk 0 _ rfl; have y14b : w33.cell? ⟨g14, 1, none⟩ = some (.slice A14 l14.length c14) := cell_at (B14.on q33).blk 1 _ rfl; have y16a : w33.cell? ⟨g16, 0, none⟩ = some (.bool s16) := cell_at (B16.on q33).blk 0 _ rfl; have y16b : w33.cell? ⟨g16, 1, none⟩ = some (.slice A16 l16.length c16) := cell_at (B16.on q33).blk 1 _ rfl)
      | (go_at_call 21; have hmark := q31; refine (Of_calls (-5) _ (by decide) (by decide)).mono ?_; rintro e w32 ⟨s32, A32, c32, l32, rfl, z32, n32, r32, b32⟩; clear y3a y3b y4a y4b y6a y6b y9a y9b y14a y14b y16a y16b; have q32 := q31.trans (b32.mono q31.size); have y3a : w32.cell? ⟨g3, 0, none⟩ = some (.bool s3) := cell_at (B3.on q32).blk 0 _ rfl; have y3b : w32.cell? ⟨g3, 1, none⟩ = some (.slice A3 l3.length c3) := cell_at (B3.on q32).blk 1 _ rfl; have y4a : w32.cell? ⟨g3 + 1, 0, none⟩ = some (.bool s4) := cell_at (B4.on q32).blk 0 _ rfl; have y4b : w32.cell? ⟨g3 + 1, 1, none⟩ = some (.slice A4 l4.length c4) := cell_at (B4.on q32).blk 1 _ rfl; have y6a : w32.cell? ⟨g6, 0, none⟩ = some (.bool s6) := cell_at (B6.on q32).blk 0 _ rfl; have y6b : w32.cell? ⟨g6, 1, none⟩ = some (.slice A6 l6.length c6) := cell_at (B6.on q32).blk 1 _ rfl; have y9a : w32.cell? ⟨g9, 0, none⟩ = some (.bool s9) := cell_at (B9.on q32).blk 0 _ rfl; have y9b : w32.cell? ⟨g9, 1, none⟩ = some (.slice A9 l9.length c9) := cell_at (B9.on q32).blk 1 _ rfl; have y14a : w32.cell? ⟨g14, 0, none⟩ = some (.bool s14) := cell_at (B14.on q32).blk 0 _ rfl; have y14b : w32.cell? ⟨g14, 1, none⟩ = some (.slice A14 l14.length c14) := cell_at (B14.on q32).blk 1 _ rfl; have y16a : w32.cell? ⟨g16, 0, none⟩ = some (.bool s16) := cell_at (B16.on q32).blk 0 _ rfl; have y16b : w32.cell? ⟨g16, 1, none⟩ = some (.slice A16 l16.length c16) := cell_at (B16.on q32).blk 1 _ rfl)
      | (go_at_call 8; have hmark := q30; have hc := Same_calls s16 s30 A16 A30 c16 c30 l16 l30 w30 (B16.rd.on q30) r30 B16.cap n30; rw [sameI_z z16 z30, show decide ((-3 : Int) = -3) = true from by decide] at hc; refine hc.mono ?_; rintro e w31 ⟨rfl, b31⟩; clear hc z30 n30 r30; clear y3a y3b y4a y4b y6a y6b y9a y9b y14a y14b y16a y16b; have q31 := q30.trans (b31.mono q30.size); have y3a : w31.cell? ⟨g3, 0, none⟩ = some (.bool s3) := cell_at (B3.on q31).blk 0 _ rfl; have y3b : w31.cell? ⟨g3, 1, none⟩ = some (.slice A3 l3.length c3) := cell_at (B3.on q31).blk 1 _ rfl; have y4a : w31.cell? ⟨g3 + 1, 0, none⟩ = some (.bool s4) := cell_at (B4.on q31).blk 0 _ rfl; have y4b : w31.cell? ⟨g3 + 1, 1, none⟩ = some (.slice A4 l4.length c4) := cell_at (B4.on q31).blk 1 _ rfl; have y6a : w31.cell? ⟨g6, 0, none⟩ = some (.bool s6) := cell_at (B6.on q31).blk 0 _ rfl; have y6b : w31.cell? ⟨g6, 1, none⟩ = some (.slice A6 l6.length c6) := cell_at (B6.on q31).blk 1 _ rfl; have y9a : w31.cell? ⟨g9, 0, none⟩ = some (.bool s9) := cell_at (B9.on q31).blk 0 _ rfl; have y9b : w31.cell? ⟨g9, 1, none⟩ = some (.slice A9 l9.length c9) := cell_at (B9.on q31).blk 1 _ rfl; have y14a : w31.cell? ⟨g14, 0, none⟩ = some (.bool s14) := cell_at (B14.on q31).blk 0 _ rfl; have y14b : w31.cell? ⟨g14, 1, none⟩ = some (.slice A14 l14.length c14) := cell_at (B14.on q31).blk 1 _ rfl; have y16a : w31.cell? ⟨g16, 0, none⟩ = some (.bool s16) := cell_at (B16.on q31).blk 0 _ rfl; have y16b : w31.cell? ⟨g16, 1, none⟩ = some (.slice A16 l16.length c16) := cell_at (B16.on q31).blk 1 _ rfl)
      | (go_at_call 17; have hmark := q29; refine (ROf_calls (-3) _ (by decide) (by decide)).mono ?_; rintro e w30 ⟨s30, A30, c30, l30, rfl, z30, n30, r30, b30⟩; clear y3a y3b y4a y4b y6a y6b y9a y9b y14a y14b y16a y16b; have q30 := q29.trans (b30.mono q29.size); have y3a : w30.cell? ⟨g3, 0, none⟩ = some (.bool s3) := cell_at (B3.on q30).blk 0 _ rfl; have y3b : w30.cell? ⟨g3, 1, none⟩ = some (.slice A3 l3.length c3) := cell_at (B3.on q30).blk 1 _ rfl; have y4a : w30.cell? ⟨g3 + 1, 0, none⟩ = some (.bool s4) := cell_at (B4.on q30).blk 0 _ rfl; have y4b : w30.cell? ⟨g3 + 1, 1, none⟩ = some (.slice A4 l4.length c4) := cell_at (B4.on q30).blk 1 _ rfl; have y6a : w30.cell? ⟨g6, 0, none⟩ = some (.bool s6) := cell_at (B6.on q30).blk 0 _ rfl; have y6b : w30.cell? ⟨g6, 1, none⟩ = some (.slice A6 l6.length c6) := cell_at (B6.on q30).blk 1 _ rfl; have y9a : w30.cell? ⟨g9, 0, none⟩ = some (.bool s9) := cell_at (B9.on q30).blk 0 _ rfl; have y9b : w30.cell? ⟨g9, 1, none⟩ = some (.slice A9 l9.length c9) := cell_at (B9.on q30).blk 1 _ rfl; have y14a : w30.cell? ⟨g14, 0, none⟩ = some (.bool s14) := cell_at (B14.on q30).blk 0 _ rfl; have y14b : w30.cell? ⟨g14, 1, none⟩ = some (.slice A14 l14.length c14) := cell_at (B14.on q30).blk 1 _ rfl; have y16a : w30.cell? ⟨g16, 0, none⟩ = some (.bool s16) := cell_at (B16.on q30).blk 0 _ rfl; have y16b : w30.cell? ⟨g16, 1, none⟩ = some (.slice A16 l16.length c16) := cell_at (B16.on q30).blk 1 _ rfl)
      | (go_at_call 8; have hmark := q28; have hc := Same_calls s14 s28 A14 A28 c14 c28 l14 l28 w28 (B14.rd.on q28) r28 B14.cap n28; rw [sameI_z z14 z28, show decide ((-10 : Int) = -10) = true from by decide] at hc; refine hc.mono ?_; rintro e w29 ⟨rfl, b29⟩; clear hc z28 n28 r28; clear y3a y3b y4a y4b y6a y6b y9a y9b y14a y14b y16a y16b; have q29 := q28.trans (b29.mono q28.size); have y3a : w29.cell? ⟨g3, 0, none⟩ = some (.bool s3) := cell_at (B3.on q29).blk 0 _ rfl; have y3b : w29.cell? ⟨g3, 1, none⟩ = some (.slice A3 l3.length c3) := cell_at (B3.on q29).blk 1 _ rfl; have y4a : w29.cell? ⟨g3 + 1, 0, none⟩ = some (.bool s4) := cell_at (B4.on q29).blk 0 _ rfl; have y4b : w29.cell? ⟨g3 + 1, 1, none⟩ = some (.slice A4 l4.length c4) := cell_at (B4.on q29).blk 1 _ rfl; have y6a : w29.cell? ⟨g6, 0, none⟩ = some (.bool s6) := cell_at (B6.on q29).blk 0 _ rfl; have y6b : w29.cell? ⟨g6, 1, none⟩ = some (.slice A6 l6.length c6) := cell_at (B6.on q29).blk 1 _ rfl; have y9a : w29.cell? ⟨g9, 0, none⟩ = some (.bool s9) := cell_at (B9.on q29).blk 0 _ rfl; have y9b : w29.cell? ⟨g9, 1, none⟩ = some (.slice A9 l9.length c9) := cell_at (B9.on q29).blk 1 _ rfl; have y14a : w29.cell? ⟨g14, 0, none⟩ = some (.bool s14) := cell_at (B14.on q29).blk 0 _ rfl; have y14b : w29.cell? ⟨g14, 1, none⟩ = some (.slice A14 l14.length c14) := cell_at (B14.on q29).blk 1 _ rfl; have y16a : w29.cell? ⟨g16, 0, none⟩ = some (.bool s16) := cell_at (B16.on q29).blk 0 _ rfl; have y16b : w29.cell? ⟨g16, 1, none⟩ = some (.slice A16 l16.length c16) := cell_at (B16.on q29).blk 1 _ rfl)
      | (go_at_call 17; have hmark := q27; refine (ROf_calls (-10) _ (by decide) (by decide)).mono ?_; rintro e w28 ⟨s28, A28, c28, l28, rfl, z28, n28, r28, b28⟩; clear y3a y3b y4a y4b y6a y6b y9a y9b y14a y14b y16a y16b; have q28 := q27.trans (b28.mono q27.size); have y3a : w28.cell? ⟨g3, 0, none⟩ = some (.bool s3) := cell_at (B3.on q28).blk 0 _ rfl; have y3b : w28.cell? ⟨g3, 1, none⟩ = some (.slice A3 l3.length c3) := cell_at (B3.on q28).blk 1 _ rfl; have y4a : w28.cell? ⟨g3 + 1, 0, none⟩ = some (.bool s4) := cell_at (B4.on q28).blk 0 _ rfl; have y4b : w28.cell? ⟨g3 + 1, 1, none⟩ = some (.slice A4 l4.length c4) := cell_at (B4.on q28).blk 1 _ rfl; have y6a : w28.cell? ⟨g6, 0, none⟩ = some (.bool s6) := cell_at (B6.on q28).blk 0 _ rfl; have y6b : w28.cell? ⟨g6, 1, none⟩ = some (.slice A6 l6.length c6) := cell_at (B6.on q28).blk 1 _ rfl; have y9a : w28.cell? ⟨g9, 0, none⟩ = some (.bool s9) := cell_at (B9.on q28).blk 0 _ rfl; have y9b : w28.cell? ⟨g9, 1, none⟩ = some (.slice A9 l9.length c9) := cell_at (B9.on q28).blk 1 _ rfl; have y14a : w28.cell? ⟨g14, 0, none⟩ = some (.bool s14) := cell_at (B14.on q28).blk 0 _ rfl; have y14b : w28.cell? ⟨g14, 1, none⟩ = some (.slice A14 l14.length c14) := cell_at (B14.on q28).blk 1 _ rfl; have y16a : w28.cell? ⟨g16, 0, none⟩ = some (.bool s16) := cell_at (B16.on q28).blk 0 _ rfl; have y16b : w28.cell? ⟨g16, 1, none⟩ = some (.slice A16 l16.length c16) := cell_at (B16.on q28).blk 1 _ rfl)
      | (go_at_call 8; have hmark := q26; have hc := Same_calls s9 s26 A9 A26 c9 c26 l9 l26 w26 (B9.rd.on q26) r26 B9.cap n26; rw [sameI_z z9 z26, show decide ((6 : Int) = 6) = true from by decide] at hc; refine hc.mono ?_; rintro e w27 ⟨rfl, b27⟩; clear hc z26 n26 r26; clear y3a y3b y4a y4b y6a y6b y9a y9b y14a y14b y16a y16b; have q27 := q26.trans (b27.mono q26.size); have y3a : w27.cell? ⟨g3, 0, none⟩ = some (.bool s3) := cell_at (B3.on q27).blk 0 _ rfl; have y3b : w27.cell? ⟨g3, 1, none⟩ = some (.slice A3 l3.length c3) := cell_at (B3.on q27).blk 1 _ rfl; have y4a : w27.cell? ⟨g3 + 1, 0, none⟩ = some (.bool s4) := cell_at (B4.on q27).blk 0 _ rfl; have y4b : w27.cell? ⟨g3 + 1, 1, none⟩ = some (.slice A4 l4.length c4) := cell_at (B4.on q27).blk 1 _ rfl; have y6a : w27.cell? ⟨g6, 0, none⟩ = some (.bool s6) := cell_at (B6.on q27).blk 0 _ rfl; have y6b : w27.cell? ⟨g6, 1, none⟩ = some (.slice A6 l6.length c6) := cell_at (B6.on q27).blk 1 _ rfl; have y9a : w27.cell? ⟨g9, 0, none⟩ = some (.bool s9) := cell_at (B9.on q27).blk 0 _ rfl; have y9b : w27.cell? ⟨g9, 1, none⟩ = some (.slice A9 l9.length c9) := cell_at (B9.on q27).blk 1 _ rfl; have y14a : w27.cell? ⟨g14, 0, none⟩ = some (.bool s14) := cell_at (B14.on q27).blk 0 _ rfl; have y14b : w27.cell? ⟨g14, 1, none⟩ = some (.slice A14 l14.length c14) := cell_at (B14.on q27).blk 1 _ rfl; have y16a : w27.cell? ⟨g16, 0, none⟩ = some (.bool s16) := cell_at (B16.on q27).blk 0 _ rfl; have y16b : w27.cell? ⟨g16, 1, none⟩ = some (.slice A16 l16.length c16) := cell_at (B16.on q27).blk 1 _ rfl)
      | (go_at_call 17; have hmark := q25; refine (ROf_calls (6) _ (by decide) (by decide)).mono ?_; rintro e w26 ⟨s26, A26, c26, l26, rfl, z26, n26, r26, b26⟩; clear y3a y3b y4a y4b y6a y6b y9a y9b y14a y14b y16a y16b; have q26 := q25.trans (b26.mono q25.size); have y3a : w26.cell? ⟨g3, 0, none⟩ = some (.bool s3) := cell_at (B3.on q26).blk 0 _ rfl; have y3b : w26.cell? ⟨g3, 1, none⟩ = some (.slice A3 l3.length c3) := cell_at (B3.on q26).blk 1 _ rfl; have y4a : w26.cell? ⟨g3 + 1, 0, none⟩ = some (.bool s4) := cell_at (B4.on q26).blk 0 _ rfl; have y4b : w26.cell? ⟨g3 + 1, 1, none⟩ = some (.slice A4 l4.length c4) := cell_at (B4.on q26).blk 1 _ rfl; have y6a : w26.cell? ⟨g6, 0, none⟩ = some (.bool s6) := cell_at (B6.on q26).blk 0 _ rfl; have y6b : w26.cell? ⟨g6, 1, none⟩ = some (.slice A6 l6.length c6) := cell_at (B6.on q26).blk 1 _ rfl; have y9a : w26.cell? ⟨g9, 0, none⟩ = some (.bool s9) := cell_at (B9.on q26).blk 0 _ rfl; have y9b : w26.cell? ⟨g9, 1, none⟩ = some (.slice A9 l9.length c9) := cell_at (B9.on q26).blk 1 _ rfl; have y14a : w26.cell? ⟨g14, 0, none⟩ = some (.bool s14) := cell_at (B14.on q26).blk 0 _ rfl; have y14b : w26.cell? ⟨g14, 1, none⟩ = some (.slice A14 l14.length c14) := cell_at (B14.on q26).blk 1 _ rfl; have y16a : w26.cell? ⟨g16, 0, none⟩ = some (.bool s16) := cell_at (B16.on q26).blk 0 _ rfl; have y16b : w26.cell? ⟨g16, 1, none⟩ = some (.slice A16 l16.length c16) := cell_at (B16.on q26).blk 1 _ rfl)
      | (go_at_call 8; have hmark := q24; have hc := Same_calls s6 s24 A6 A24 c6 c24 l6 l24 w24 (B6.rd.on q24) r24 B6.cap n24; rw [sameI_z z6 z24, show decide ((4294967296 : Int) = 4294967296) = true from by decide] at hc; refine hc.mono ?_; rintro e w25 ⟨rfl, b25⟩; clear hc z24 n24 r24; clear y3a y3b y4a y4b y6a y6b y9a y9b y14a y14b y16a y16b; have q25 := q24.trans (b25.mono q24.size); have y3a : w25.cell? ⟨g3, 0, none⟩ = some (.bool s3) := cell_at (B3.on q25).blk 0 _ rfl; have y3b : w25.cell? ⟨g3, 1, none⟩ = some (.slice A3 l3.length c3) := cell_at (B3.on q25).blk 1 _ rfl; have y4a : w25.cell? ⟨g3 + 1, 0, none⟩ = some (.bool s4) := cell_at (B4.on q25).blk 0 _ rfl; have y4b : w25.cell? ⟨g3 + 1, 1, none⟩ = some (.slice A4 l4.length c4) := cell_at (B4.on q25).blk 1 _ rfl; have y6a : w25.cell? ⟨g6, 0, none⟩ = some (.bool s6) := cell_at (B6.on q25).blk 0 _ rfl; have y6b : w25.cell? ⟨g6, 1, none⟩ = some (.slice A6 l6.length c6) := cell_at (B6.on q25).blk 1 _ rfl; have y9a : w25.cell? ⟨g9, 0, none⟩ = some (.bool s9) := cell_at (B9.on q25).blk 0 _ rfl; have y9b : w25.cell? ⟨g9, 1, none⟩ = some (.slice A9 l9.length c9) := cell_at (B9.on q25).blk 1 _ rfl; have y14a : w25.cell? ⟨g14, 0, none⟩ = some (.bool s14) := cell_at (B14.on q25).blk 0 _ rfl; have y14b : w25.cell? ⟨g14, 1, none⟩ = some (.slice A14 l14.length c14) := cell_at (B14.on q25).blk 1 _ rfl; have y16a : w25.cell? ⟨g16, 0, none⟩ = some (.bool s16) := cell_at (B16.on q25).blk 0 _ rfl; have y16b : w25.cell? ⟨g16, 1, none⟩ = some (.slice A16 l16.length c16) := cell_at (B16.on q25).blk 1 _ rfl)
      | (go_at_call 17; have hmark := q23; refine (ROf_calls (4294967296) _ (by decide) (by decide)).mono ?_; rintro e w24 ⟨s24, A24, c24, l24, rfl, z24, n24, r24, b24⟩; clear y3a y3b y4a y4b y6a y6b y9a y9b y14a y14b y16a y16b; have q24 := q23.trans (b24.mono q23.size); have y3a : w24.cell? ⟨g3, 0, none⟩ = some (.bool s3) := cell_at (B3.on q24).blk 0 _ rfl; have y3b : w24.cell? ⟨g3, 1, none⟩ = some (.slice A3 l3.length c3) := cell_at (B3.on q24).blk 1 _ rfl; have y4a : w24.cell? ⟨g3 + 1, 0, none⟩ = some (.bool s4) := cell_at (B4.on q24).blk 0 _ rfl; have y4b : w24.cell? ⟨g3 + 1, 1, none⟩ = some (.slice A4 l4.length c4) := cell_at (B4.on q24).blk 1 _ rfl; have y6a : w24.cell? ⟨g6, 0, none⟩ = some (.bool s6) := cell_at (B6.on q24).blk 0 _ rfl; have y6b : w24.cell? ⟨g6, 1, none⟩ = some (.slice A6 l6.length c6) := cell_at (B6.on q24).blk 1 _ rfl; have y9a : w24.cell? ⟨g9, 0, none⟩ = some (.bool s9) := cell_at (B9.on q24).blk 0 _ rfl; have y9b : w24.cell? ⟨g9, 1, none⟩ = some (.slice A9 l9.length c9) := cell_at (B9.on q24).blk 1 _ rfl; have y14a : w24.cell? ⟨g14, 0, none⟩ = some (.bool s14) := cell_at (B14.on q24).blk 0 _ rfl; have y14b : w24.cell? ⟨g14, 1, none⟩ = some (.slice A14 l14.length c14) := cell_at (B14.on q24).blk 1 _ rfl; have y16a : w24.cell? ⟨g16, 0, none⟩ = some (.bool s16) := cell_at (B16.on q24).blk 0 _ rfl; have y16b : w24.cell? ⟨g16, 1, none⟩ = some (.slice A16 l16.length c16) := cell_at (B16.on q24).blk 1 _ rfl)
      | (go_at_call 8; have hmark := q22; have hc := Same_calls s4 s22 A4 A22 c4 c22 l4 l22 w22 (B4.rd.on q22) r22 B4.cap n22; rw [sameI_z z4 z22, show decide ((1 : Int) = 1) = true from by decide] at hc; refine hc.mono ?_; rintro e w23 ⟨rfl, b23⟩; clear hc z22 n22 r22; clear y3a y3b y4a y4b y6a y6b y9a y9b y14a y14b y16a y16b; have q23 := q22.trans (b23.mono q22.size); have y3a : w23.cell? ⟨g3, 0, none⟩ = some (.bool s3) := cell_at (B3.on q23).blk 0 _ rfl; have y3b : w23.cell? ⟨g3, 1, none⟩ = some (.slice A3 l3.length c3) := cell_at (B3.on q23).blk 1 _ rfl; have y4a : w23.cell? ⟨g3 + 1, 0, none⟩ = some (.bool s4) := cell_at (B4.on q23).blk 0 _ rfl; have y4b : w23.cell? ⟨g3 + 1, 1, none⟩ = some (.slice A4 l4.length c4) := cell_at (B4.on q23).blk 1 _ rfl; have y6a : w23.cell? ⟨g6, 0, none⟩ = some (.bool s6) := cell_at (B6.on q23).blk 0 _ rfl; have y6b : w23.cell? ⟨g6, 1, none⟩ = some (.slice A6 l6.length c6) := cell_at (B6.on q23).blk 1 _ rfl; have y9a : w23.cell? ⟨g9, 0, none⟩ = some (.bool s9) := cell_at (B9.on q23).blk 0 _ rfl; have y9b : w23.cell? ⟨g9, 1, none⟩ = some (.slice A9 l9.length c9) := cell_at (B9.on q23).blk 1 _ rfl; have y14a : w23.cell? ⟨g14, 0, none⟩ = some (.bool s14) := cell_at (B14.on q23).blk 0 _ rfl; have y14b : w23.cell? ⟨g14, 1, none⟩ = some (.slice A14 l14.length c14) := cell_at (B14.on q23).blk 1 _ rfl; have y16a : w23.cell? ⟨g16, 0, none⟩ = some (.bool s16) := cell_at (B16.on q23).blk 0 _ rfl; have y16b : w23.cell? ⟨g16, 1, none⟩ = some (.slice A16 l16.length c16) := cell_at (B16.on q23).blk 1 _ rfl)
      | (go_at_call 17; have hmark := q21; refine (ROf_calls (1) _ (by decide) (by decide)).mono ?_; rintro e w22 ⟨s22, A22, c22, l22, rfl, z22, n22, r22, b22⟩; clear y3a y3b y4a y4b y6a y6b y9a y9b y14a y14b y16a y16b; have q22 := q21.trans (b22.mono q21.size); have y3a : w22.cell? ⟨g3, 0, none⟩ = some (.bool s3) := cell_at (B3.on q22).blk 0 _ rfl; have y3b : w22.cell? ⟨g3, 1, none⟩ = some (.slice A3 l3.length c3) := cell_at (B3.on q22).blk 1 _ rfl; have y4a : w22.cell? ⟨g3 + 1, 0, none⟩ = some (.bool s4) := cell_at (B4.on q22).blk 0 _ rfl; have y4b : w22.cell? ⟨g3 + 1, 1, none⟩ = some (.slice A4 l4.length c4) := cell_at (B4.on q22).blk 1 _ rfl; have y6a : w22.cell? ⟨g6, 0, none⟩ = some (.bool s6) := cell_at (B6.on q22).blk 0 _ rfl; have y6b : w22.cell? ⟨g6, 1, none⟩ = some (.slice A6 l6.length c6) := cell_at (B6.on q22).blk 1 _ rfl; have y9a : w22.cell? ⟨g9, 0, none⟩ = some (.bool s9) := cell_at (B9.on q22).blk 0 _ rfl; have y9b : w22.cell? ⟨g9, 1, none⟩ = some (.slice A9 l9.length c9) := cell_at (B9.on q22).blk 1 _ rfl; have y14a : w22.cell? ⟨g14, 0, none⟩ = some (.bool s14) := cell_at (B14.on q22).blk 0 _ rfl; have y14b : w22.cell? ⟨g14, 1, none⟩ = some (.slice A14 l14.length c14) := cell_at (B14.on q22).blk 1 _ rfl; have y16a : w22.cell? ⟨g16, 0, none⟩ = some (.bool s16) := cell_at (B16.on q22).blk 0 _ rfl; have y16b : w22.cell? ⟨g16, 1, none⟩ = some (.slice A16 l16.length c16) := cell_at (B16.on q22).blk 1 _ rfl)
      | (go_at_call 8; have hmark := q20; have hc := Same_calls s3 s20 A3 A20 c3 c20 l3 l20 w20 (B3.rd.on q20) r20 B3.cap n20; rw [sameI_z z3 z20, show decide ((-4 : Int) = -4) = true from by decide] at hc; refine hc.mono ?_; rintro e w21 ⟨rfl, b21⟩; clear hc z20 n20 r20; clear y3a y3b y4a y4b y6a y6b y9a y9b y14a y14b y16a y16b; have q21 := q20.trans (b21.mono q20.size); have y3a : w21.cell? ⟨g3, 0, none⟩ = some (.bool s3) := cell_at (B3.on q21).blk 0 _ rfl; have y3b : w21.cell? ⟨g3, 1, none⟩ = some (.slice A3 l3.length c3) := cell_at (B3.on q21).blk 1 _ rfl; have y4a : w21.cell? ⟨g3 + 1, 0, none⟩ = some (.bool s4) := cell_at (B4.on q21).blk 0 _ rfl; have y4b : w21.cell? ⟨g3 + 1, 1, none⟩ = some (.slice A4 l4.length c4) := cell_at (B4.on q21).blk 1 _ rfl; have y6a : w21.cell? ⟨g6, 0, none⟩ = some (.bool s6) := cell_at (B6.on q21).blk 0 _ rfl; have y6b : w21.cell? ⟨g6, 1, none⟩ = some (.slice A6 l6.length c6) := cell_at (B6.on q21).blk 1 _ rfl; have y9a : w21.cell? ⟨g9, 0, none⟩ = some (.bool s9) := cell_at (B9.on q21).blk 0 _ rfl; have y9b : w21.cell? ⟨g9, 1, none⟩ = some (.slice A9 l9.length c9) := cell_at (B9.on q21).blk 1 _ rfl; have y14a : w21.cell? ⟨g14, 0, none⟩ = some (.bool s14) := cell_at (B14.on q21).blk 0 _ rfl; have y14b : w21.cell? ⟨g14, 1, none⟩ = some (.slice A14 l14.length c14) := cell_at (B14.on q21).blk 1 _ rfl; have y16a : w21.cell? ⟨g16, 0, none⟩ = some (.bool s16) := cell_at (B16.on q21).blk 0 _ rfl; have y16b : w21.cell? ⟨g16, 1, none⟩ = some (.slice A16 l16.length c16) := cell_at (B16.on q21).blk 1 _ rfl)
      | (go_at_call 17; refine (ROf_calls (-4) _ (by decide) (by decide)).mono ?_; rintro e w20 ⟨s20, A20, c20, l20, rfl, z20, n20, r20, b20⟩; clear y3a y3b y4a y4b y6a y6b y9a y9b y14a y14b y16a y16b; have q20 := (below_drew (Below.refl _ W)).trans b20; have y3a : w20.cell? ⟨g3, 0, none⟩ = some (.bool s3) := cell_at (B3.on q20).blk 0 _ rfl; have y3b : w20.cell? ⟨g3, 1, none⟩ = some (.slice A3 l3.length c3) := cell_at (B3.on q20).blk 1 _ rfl; have y4a : w20.cell? ⟨g3 + 1, 0, none⟩ = some (.bool s4) := cell_at (B4.on q20).blk 0 _ rfl; have y4b : w20.cell? ⟨g3 + 1, 1, none⟩ = some (.slice A4 l4.length c4) := cell_at (B4.on q20).blk 1 _ rfl; have y6a : w20.cell? ⟨g6, 0, none⟩ = some (.bool s6) := cell_at (B6.on q20).blk 0 _ rfl; have y6b : w20.cell? ⟨g6, 1, none⟩ = some (.slice A6 l6.length c6) := cell_at (B6.on q20).blk 1 _ rfl; have y9a : w20.cell? ⟨g9, 0, none⟩ = some (.bool s9) := cell_at (B9.on q20).blk 0 _ rfl; have y9b : w20.cell? ⟨g9, 1, none⟩ = some (.slice A9 l9.length c9) := cell_at (B9.on q20).blk 1 _ rfl; have y14a : w20.cell? ⟨g14, 0, none⟩ = some (.bool s14) := cell_at (B14.on q20).blk 0 _ rfl; have y14b : w20.cell? ⟨g14, 1, none⟩ = some (.slice A14 l14.length c14) := cell_at (B14.on q20).blk 1 _ rfl; have y16a : w20.cell? ⟨g16, 0, none⟩ = some (.bool s16) := cell_at (B16.on q20).blk 0 _ rfl; have y16b : w20.cell? ⟨g16, 1, none⟩ = some (.slice A16 l16.length c16) := cell_at (B16.on q20).blk 1 _ rfl)))
  go_wp2_with fail
  go_ret
  exact ⟨rfl, by18.trans (q34.mono by18.size)⟩
end Nm
end Go.Proofs.YtlhmbbpkhahbeaaGreatDoor
namespace Go.Proofs.YtlhmbbpkhahbeaaGreatDoor
namespace Nm
open Go.RowKit Go.Shelf Go.BigFrame
attribute [local go_sem] Oper.semAt_some
theorem Formed_is (n : Bool) (A : Option Addr) (c : Nat) (l : List Nat) (w : World) (hA : Rd w A l) (hc : l.length ≤ c) (b : Bool) (hb : okI n l = b) :
    Calls Tryz.prog 15 #[iv n A l.length c] w fun e w' => e = .returned (.bool b) ∧ Below w.heap.size w w' := by
  subst hb
  exact Formed_calls n A c l w hA hc
/-- a block with the two arguments -/
theorem args_blk (w : World) (n1 n2 : Bool) (A1 A2 : Option Addr) (c1 c2 : Nat) (l1 l2 : List Nat) : (w.alloc (.cells #[.bool n1, .slice A1 l1.length c1, .bool n2, .slice A2 l2.length c2] 24)).heap[w.heap.size]? = some (.cells #[.bool n1, .slice A1 l1.length c1, .bool n2, .slice A2 l2.length c2] 24 (0, 0)) := World.alloc_heap_new w _
end Nm
end Go.Proofs.YtlhmbbpkhahbeaaGreatDoor
namespace Go.Proofs.YtlhmbbpkhahbeaaGreatDoor
namespace Nm
open Go.ChangeShapes Go.WideShapes Go.ChangeAt Go.WideMaps Go.WideElems Go.RowKit
theorem own : ownKnob Tryz.prog.godebug = none := by kernel_rfl
theorem gDigits : Tryz.prog.globalNamed "zermelo/num.digits" = some 0 := by kernel_rfl
theorem tDigits : (Tryz.prog.globals[0]?).map (·.type) = some 57 := by kernel_rfl
theorem uDigits : Tryz.prog.underlying 57 = some (.array 36 5) := by kernel_rfl
theorem uByte : Tryz.prog.underlying 5 = some (.int .u8) := by kernel_rfl
abbrev laidL : List (String × DataW Unit) := [("zermelo/num.digits", Rows.laid_zermelo_num_digits)]
def tabZ : List Int := [48, 49, 50, 51, 52, 53, 54, 55, 56, 57, 97, 98, 99, 100, 101, 102, 103, 104, 105, 106, 107, 108, 109, 110, 111, 112, 113, 114, 115, 116, 117, 118, 119, 120, 121, 122]
theorem laid_tab : laidL = [("zermelo/num.digits", Lib.tabData .u8 tabZ)] := rfl
theorem dig_of_laid {W : World} (h : laidMetH Tryz.prog laidL W) : DigW W := by
  rw [MakeChecks.laidMetH_plain _ _ _ (by kernel_rfl), laid_tab] at h
  have hT := Lib.tabIs_of_head gDigits tDigits uDigits uByte (by kernel_rfl) (by kernel_rfl) h
  intro i hi
  have hc := hT.cell gDigits i hi
  have e : ∀ i : Fin 36, tabZ.getD i.val 0 = ((chr i.val : Nat) : Int) := by decide
  rw [hc, e ⟨i, hi⟩]
theorem uInt : ∃ f0 f1 : Field, Tryz.prog.underlying 24 = some (.struct #[f0, f1]) ∧ f0.type = 4 ∧ f0.offset = 0 ∧ f1.type = 22 ∧ f1.offset = 1 := ⟨_, _, Tryz.underlying24, rfl, rfl, rfl, rfl⟩
theorem uBool : Tryz.prog.underlying 4 = some .bool := by kernel_rfl
theorem uWord : Tryz.prog.underlying 50 = some (.int .u32) := by kernel_rfl
theorem cInt : Tryz.prog.cellsOf 24 = 2 := by kernel_rfl
theorem cBool : Tryz.prog.cellsOf 4 = 1 := by kernel_rfl
theorem cWord : Tryz.prog.cellsOf 50 = 1 := by kernel_rfl
theorem cWords : Tryz.prog.cellsOf 22 = 1 := by kernel_rfl
set_option maxRecDepth 100000 in
/-- an integer that came in: a sign and limbs -/
theorem open_intZ {H : Type} {enc : TypeId × Value → H} {W : World} {base : Nat} {v : Value} {d : DataW H} {p : List MemPlace} (hv : Value.okWide Tryz.prog W .any base 24 v) (h : DataW.Trod enc Tryz.prog W 0 (fun _ => true) true 24 v d p) (hwt : ∀ n ∈ d.weights Tryz.prog 24, n ≤ reachBytes) :
    ∃ n A c l, v = iv n A l.length c ∧ Rd W A l ∧ l.length ≤ c := by
  obtain ⟨f0, f1, hu, ht0, ho0, ht1, ho1⟩ := uInt
  obtain ⟨cs, rfl, hsz, -⟩ : ∃ cs, v = .agg cs ∧ cs.size = Tryz.prog.cellsOf 24 ∧ _ := by
    unfold Value.okWide at hv
    rw [hu] at hv
    exact hv
  rw [cInt] at hsz
  obtain ⟨fuel, hd⟩ := h
  obtain ⟨y0, y1, m, hx, -, h0, h1⟩ := trod_struct2 hu hd
  rw [ht0, ho0, cBool] at h0
  rw [ht1, ho1, cWords] at h1
  have hl : cs.toList.length = 2 := by rw [Array.length_toList]; exact hsz
  obtain ⟨c0, c1, hcs⟩ : ∃ c0 c1, cs.toList = [c0, c1] := by
    match hh : cs.toList, hl with
    | [c0, c1], _ => exact ⟨c0, c1, rfl⟩
  obtain rfl : cs = #[c0, c1] := by rw [← Array.toArray_toList (xs := cs), hcs]
  obtain ⟨n, hb, -⟩ := DataW.trod_bool uBool h0
  have e0 : c0 = .bool n := by simpa [Value.cells] using hb
  have h1' : DataW.trod enc Tryz.prog W 0 (fun _ => true) true m 22 [c1] = some y1 := by simpa [Value.cells] using h1
  rcases open_ints underl_u32 uWord cWord h1' with ⟨e1, -⟩ | ⟨a, len, cap, zs, e1, -, hlc, hmax, hzl, hy, hcell, hwf⟩
  · refine ⟨n, none, 0, [], ?_, Rd.nil _ _, Nat.le_refl _⟩
    rw [e0, show c1 = .slice none 0 0 by simpa using e1]; rfl
  · have e1' : c1 = .slice (some a) len cap := by simpa using e1
    rw [if_pos rfl] at hzl
    refine ⟨n, some a, cap, (zs.take len).map Int.toNat, ?_, ?_, ?_⟩
    · rw [e0, e1', List.length_map, List.length_take, Nat.min_eq_left (by omega)]
    · have hlen : ((zs.take len).map Int.toNat).length = len := by rw [List.length_map, List.length_take, Nat.min_eq_left (by omega)]
      have hz : ∀ i, i < len → (((zs.take len).map Int.toNat).getD i 0 : Int) = zs.getD i 0 ∧ ((zs.take len).map Int.toNat).getD i 0 < 4294967296 := by
        intro i hi
        have hi' : i < zs.length := by omega
        have hw := hwf zs[i] (List.getElem_mem hi')
        have hw2 : 0 ≤ zs[i] ∧ zs[i] ≤ 4294967295 := by simpa [Lit.wf, IntKind.has, IntKind.min, IntKind.max, IntKind.signed, IntKind.bits, ← Int.lt_iff_add_one_le] using hw
        rw [List.getD_eq_getElem?_getD, List.getElem?_map, List.getElem?_take_of_lt hi, List.getElem?_eq_getElem hi', List.getD_eq_getElem?_getD, List.getElem?_eq_getElem hi']
        simp only [Option.map_some, Option.getD_some]
        omega
      refine ⟨fun i hi => ?_, fun x hx => ?_, ?_⟩
      · rw [hlen] at hi
        have hc := hcell i (by omega)
        rw [← (hz i hi).1] at hc
        obtain ⟨b, o, s⟩ := a
        cases s with
        | none =>
          refine ⟨b, o, rfl, ?_⟩
          have e : (⟨b, o, none⟩ : Addr).add i = ⟨b, o + i, none⟩ := by unfold Addr.add; split <;> simp_all
          rwa [e] at hc
        | some s =>
          have h0 := hcell 0 (by omega)
          simp [World.cell?, Addr.add] at h0
          split at h0 <;> cases h0
      · obtain ⟨i, hi, rfl⟩ := List.getElem_of_mem hx
        have := (hz i (by omega)).2
        rwa [List.getD_eq_getElem?_getD, List.getElem?_eq_getElem hi] at this
      · rw [hlen]
        have h3 := hwt ((zs.take len).length * 4 + (zs.drop len).length * 4) (by
          have hb4 : Tryz.prog.bytesOf 50 = 4 := by kernel_rfl
          have e : d = .agg [y0.1, y1.1] := congrArg Prod.fst hx
          rw [e, DataW.weights, hu]
          simp only [List.map_cons, List.map_nil, ht0, ht1, DataW.weightsEach]
          rw [hy]
          simp only [DataW.weights, underl_u32, hb4, lits, List.length_map, ← Nat.add_mul]
          simp)
        rw [List.length_take, List.length_drop] at h3
        simp only [reachBytes] at h3
        omega
    · rw [List.length_map, List.length_take]
      omega
end Nm
end Go.Proofs.YtlhmbbpkhahbeaaGreatDoor
namespace Go.Proofs.YtlhmbbpkhahbeaaGreatDoor
namespace Nm
open Go.RowKit Go.Shelf Go.BigFrame
attribute [local go_sem] Oper.semAt_some
set_option maxRecDepth 100000 in
set_option maxHeartbeats 2000000 in
theorem lformed_calls (m : Nat) (g : Nat) (xs : List IntArg) (w : World) (hg : g < w.heap.size) (hx : ArgsAt w g xs) (hn : xs.length ≤ 8) :
    Calls Tryz.prog 4 #[.int .i64 (m : Int), .slice (some ⟨g, 0, none⟩) xs.length xs.length] w fun e w' => e = .returned (.bool (xs.all fun x => x.ok && decide (x.l.length ≤ m))) ∧ Below w.heap.size w w' := by
  go_enter Tryz.func4, Tryz.ntmps4
  go_wp2_with fail
  go_loopw [9] (fun i W => ∃ k : Nat, i = .int .i64 (k : Int) ∧ k ≤ xs.length ∧ Hid ((xs.take k).all (fun x => x.ok && decide (x.l.length ≤ m)) = true) ∧ Below w.heap.size w W) (fun i _ => xs.length - (intOf i).toNat)
  case atStart => exact ⟨0, rfl, Nat.zero_le _, rfl, Below.refl _ _⟩
  case round =>
    obtain ⟨k, rfl, hk, hall, hbl⟩ := hrel
    by_cases hlt : k < xs.length
    · have x0 := (hbl.cell (p := ⟨g, k * 2, none⟩) hg).trans (hx.neg k hlt)
      have x1 := (hbl.cell (p := ⟨g, k * 2 + 1, none⟩) hg).trans (hx.abs k hlt)
      obtain ⟨hrd, hcc⟩ := hx.rd k hlt
      obtain ⟨x, hxk⟩ : ∃ x, xs[k] = x := ⟨_, rfl⟩
      rw [hxk] at x0 x1 hrd hcc
      have hs := hrd.small
      have hrw := hrd.on hbl
      have Hxk := Lib.hid hxk
      obtain ⟨b, hb⟩ : ∃ b, okI x.neg x.l = b := ⟨_, rfl⟩
      obtain ⟨bx, B1⟩ := one_box wr x.neg x.A x.c x.l hrw hcc
      obtain ⟨W2, hW2⟩ : ∃ W2, wr.alloc (.cells #[.bool x.neg, .slice x.A x.l.length x.c] 24) = W2 := ⟨_, rfl⟩
      rw [hW2] at bx B1
      have hck := Formed_is x.neg x.A x.c x.l W2 B1.rd hcc b hb
      have Hb := Lib.hid hb
      have y0 := cell_at B1.blk 0 _ rfl
      have y1 := cell_at B1.blk 1 _ rfl
      have bw2 := hbl.trans (bx.mono hbl.size)
      clear hx hxk hb
      cases b
      · go_wp2_with (go_at_call 15; refine hck.mono ?_; rintro e w4 ⟨rfl, hb4⟩)
        go_ret
        refine ⟨?_, bw2.trans (hb4.mono bw2.size)⟩
        have : (xs.all fun x => x.ok && decide (x.l.length ≤ m)) = false := by
          rw [List.all_eq_false]
          refine ⟨xs[k], List.getElem_mem hlt, ?_⟩
          rw [Hxk.out]
          unfold IntArg.ok
          rw [Hb.out]
          simp
        rw [this]; rfl
      · by_cases hok : x.l.length ≤ m
        · have hn1 : ¬ (m : Int) < (x.l.length : Int) := by omega
          go_wp2_with (go_at_call 15; refine hck.mono ?_; rintro e w4 ⟨rfl, hb4⟩; have z0 := cell_at (B1.on hb4).blk 0 _ rfl; have z1 := cell_at (B1.on hb4).blk 1 _ rfl)
          refine ⟨⟨k + 1, by simp, by omega, ?_, bw2.trans (hb4.mono bw2.size)⟩, by simp only [intOf]; omega⟩
          show (xs.take (k + 1)).all _ = true
          rw [List.take_succ_eq_append_getElem hlt, List.all_append, hall.out, Hxk.out]
          simp [hok, IntArg.ok, Hb.out]
        · have hn1 : (m : Int) < (x.l.length : Int) := by omega
          go_wp2_with (go_at_call 15; refine hck.mono ?_; rintro e w4 ⟨rfl, hb4⟩; have z0 := cell_at (B1.on hb4).blk 0 _ rfl; have z1 := cell_at (B1.on hb4).blk 1 _ rfl)
          go_ret
          refine ⟨?_, bw2.trans (hb4.mono bw2.size)⟩
          have : (xs.all fun x => x.ok && decide (x.l.length ≤ m)) = false := by
            rw [List.all_eq_false]
            refine ⟨xs[k], List.getElem_mem hlt, ?_⟩
            rw [Hxk.out]
            simp [hok]
          rw [this]; rfl
    · go_wp2_with fail
      go_ret
      have h := hall.out
      rw [List.take_of_length_le (by omega)] at h
      rw [h]
      exact ⟨rfl, hbl⟩
end Nm
end Go.Proofs.YtlhmbbpkhahbeaaGreatDoor
namespace Go.Proofs.YtlhmbbpkhahbeaaGreatDoor
namespace Nm
open Go.RowKit Go.Shelf Go.BigFrame
attribute [local go_sem] Oper.semAt_some
/-- an integer that fits, and no error -/
def RetOk (z : Int) (w : World) (e : Ending) (w' : World) : Prop :=
  ∃ s A c l, e = .returned (.tuple #[iv s A l.length c, .int .i64 0]) ∧ OkZ s l z ∧ l.length ≤ c ∧ Rd w' A l ∧ Below w.heap.size w w'
theorem RetZE.ok {z : Int} {w : World} {e : Ending} {w' : World} (h : RetZE z 0 w e w') (hs : (lim z.natAbs).length ≤ 300) : RetOk z w e w' := by
  obtain ⟨s, A, c, l, h1, h2, h3, h4, h5⟩ := h
  exact ⟨s, A, c, l, h1, ⟨h2, by rw [h2.abs]; exact hs⟩, h3, h4, h5⟩
theorem OkZ.len {s : Bool} {l : List Nat} {z : Int} (h : OkZ s l z) : (lim z.natAbs).length = l.length := by rw [← h.isZ.abs]
end Nm
end Go.Proofs.YtlhmbbpkhahbeaaGreatDoor
namespace Go.Proofs.YtlhmbbpkhahbeaaGreatDoor
namespace Nm
open Go.RowKit Go.Shelf Go.BigFrame
attribute [local go_sem] Oper.semAt_some
theorem formed_ok {n : Bool} {l : List Nat} {m : Nat} (hw : Words l) (h : (okI n l && decide (l.length ≤ m)) = true) : OkZ n l (toZ n l) ∧ l.length ≤ m := by
  rw [Bool.and_eq_true, decide_eq_true_eq] at h
  exact ⟨okZ_of hw h.1, h.2⟩
end Nm
end Go.Proofs.YtlhmbbpkhahbeaaGreatDoor
namespace Go.Proofs.YtlhmbbpkhahbeaaGreatDoor
namespace Nm
open Go.RowKit Go.Shelf Go.BigFrame
attribute [local go_sem] Oper.semAt_some
theorem OkZ.nil {s : Bool} {l : List Nat} {z : Int} (h : OkZ s l z) (h0 : z = 0) : l.length = 0 := by
  rw [h.isZ.abs, h0]; exact congrArg List.length lim_zero
theorem OkZ.pos {s : Bool} {l : List Nat} {z : Int} (h : OkZ s l z) (h0 : z ≠ 0) : 0 < l.length := by
  rw [h.isZ.abs]; exact lim_length_pos (by omega)
end Nm
end Go.Proofs.YtlhmbbpkhahbeaaGreatDoor
namespace Go.Proofs.YtlhmbbpkhahbeaaGreatDoor
namespace Nm
open Go.RowKit Go.Shelf Go.BigFrame
attribute [local go_sem] Oper.semAt_some
theorem HoldsZ.on {W W' : World} {g : Nat} {s : Bool} {A : Option Addr} {c : Nat} {l : List Nat} {z : Int} (h : HoldsZ W g s A c l z) (hb : Below W.heap.size W W') : HoldsZ W' g s A c l z := ⟨h.blk.on hb, h.isz, h.rd.on hb, h.cap⟩
end Nm
end Go.Proofs.YtlhmbbpkhahbeaaGreatDoor
namespace Go.Proofs.YtlhmbbpkhahbeaaGreatDoor
namespace Nm
open Go.RowKit Go.Shelf Go.BigFrame
attribute [local go_sem] Oper.semAt_some
theorem OkZ.formed {n1 : Bool} {l1 : List Nat} {z1 : Int} (k1 : OkZ n1 l1 z1) (A : Option Addr) (c : Nat) (w : World) (hA : Rd w A l1) (hc : l1.length ≤ c) :
    Calls Tryz.prog 15 #[iv n1 A l1.length c] w fun e w' => e = .returned (.bool true) ∧ Below w.heap.size w w' := Formed_is n1 A c l1 w hA hc true k1.ok
end Nm
end Go.Proofs.YtlhmbbpkhahbeaaGreatDoor
namespace Go.Proofs.YtlhmbbpkhahbeaaGreatDoor
namespace Nm
theorem digs_rev {b : Nat} (hb : 2 ≤ b) : ∀ ys : List Nat, (∀ d ∈ ys, d < b) → (∀ h : ys ≠ [], ys.getLast h ≠ 0) → digs b (numOf b ys.reverse) = ys
  | [], _, _ => digs_zero b
  | d :: t, h, hl => by
    have hd := h d (List.mem_cons_self)
    rw [List.reverse_cons, numOf_snoc]
    by_cases ht : t = []
    · subst ht
      have h0 : d ≠ 0 := hl (by simp)
      show digs b (numOf b [] * b + d) = [d]
      have e : numOf b [] * b + d = d := by show 0 * b + d = d; omega
      rw [e, digs_pos hb (by omega), Nat.mod_eq_of_lt hd, Nat.div_eq_of_lt hd, digs_zero]
    · have ih := digs_rev hb t (fun y hy => h y (List.mem_cons_of_mem _ hy)) (fun h' => by have := hl (by simp); rwa [List.getLast_cons h'] at this)
      have hp : 0 < numOf b t.reverse := by
        rcases Nat.eq_zero_or_pos (numOf b t.reverse) with h0 | h0
        · rw [h0, digs_zero] at ih; exact absurd ih.symm ht
        · exact h0
      have hpos : 0 < numOf b t.reverse * b + d := Nat.lt_of_lt_of_le (Nat.mul_pos hp (by omega)) (Nat.le_add_right _ _)
      rw [digs_pos hb hpos, Nat.add_comm, Nat.mul_comm, Nat.add_mul_mod_self_left, Nat.mod_eq_of_lt hd, Nat.add_mul_div_left _ _ (by omega), Nat.div_eq_of_lt hd, Nat.zero_add, ih]
/-- the digits of a number, highest first; one zero for zero -/
def hdigs (b n : Nat) : List Nat := if n = 0 then [0] else (digs b n).reverse
theorem hdigs_num {b : Nat} (hb : 2 ≤ b) (n : Nat) : numOf b (hdigs b n) = n := by
  unfold hdigs
  split
  · rename_i h; rw [h]; show (0 * b + 0 : Nat) = 0; omega
  · exact numOf_digs hb n
theorem hdigs_lt {b : Nat} (hb : 2 ≤ b) (n : Nat) : ∀ d ∈ hdigs b n, d < b := by
  unfold hdigs
  split
  · intro d hd; simp at hd; omega
  · intro d hd; exact digs_lt hb n d (List.mem_reverse.1 hd)
theorem text_hdigs (b n : Nat) : textL false b n = (hdigs b n).map chr := by
  unfold textL hdigs
  split
  · rfl
  · rw [if_neg (by decide), List.nil_append, List.map_reverse]
theorem text_neg {b n : Nat} (hn : n ≠ 0) : textL true b n = 45 :: textL false b n := by
  unfold textL
  rw [if_neg hn, if_neg hn]; rfl
theorem chr_48 (d : Nat) : 48 ≤ chr d := by unfold chr; split <;> omega
theorem hdigs_ne {b : Nat} (hb : 2 ≤ b) (n : Nat) : hdigs b n ≠ [] := by
  unfold hdigs
  split
  · simp
  · rename_i h
    rw [digs_pos hb (by omega)]; simp
/-- what Text writes, Parse reads -/
theorem par_text {b : Nat} (hb : 2 ≤ b) (h36 : b ≤ 36) (neg : Bool) (n : Nat) (hneg : neg = true → n ≠ 0) : parR (b : Int) (textL neg b n) = fitZ (if neg = true then -(n : Int) else (n : Int)) := by
  have hbody : ∀ ds : List Nat, ds ≠ [] → (∀ d ∈ ds, d < b) → parOk b (ds.map chr) = true ∧ parV b (ds.map chr) = numOf b ds := by
    intro ds hne hlt
    have hm : (ds.map chr).map (digV 36) = ds := by
      rw [List.map_map]
      conv => rhs; rw [← List.map_id ds]
      refine List.map_congr_left fun d hd => ?_
      exact digV_chr 36 (Nat.lt_of_lt_of_le (hlt d hd) h36)
    refine ⟨?_, by unfold parV; rw [hm]⟩
    unfold parOk
    rw [Bool.and_eq_true, List.all_eq_true]
    refine ⟨?_, ?_⟩
    · cases ds
      · exact absurd rfl hne
      · rfl
    · intro c hc
      rw [List.mem_map] at hc
      obtain ⟨d, hd, rfl⟩ := hc
      rw [digV_chr 36 (Nat.lt_of_lt_of_le (hlt d hd) h36)]
      exact decide_eq_true (hlt d hd)
  obtain ⟨h1, h2⟩ := hbody (hdigs b n) (hdigs_ne hb n) (hdigs_lt hb n)
  rw [hdigs_num hb] at h2
  unfold parR
  rw [if_pos ⟨by omega, by omega⟩, Int.toNat_natCast]
  cases neg
  · have hp : pneg (textL false b n) = false := by
      rw [text_hdigs]
      unfold pneg
      rcases hh : hdigs b n with _ | ⟨d, t⟩
      · rfl
      · have := chr_48 d
        simp; omega
    have hb2 : pbody (textL false b n) = (hdigs b n).map chr := by unfold pbody; rw [hp, if_neg (by decide), text_hdigs]
    rw [hb2, h1, hp, if_pos rfl, if_neg (by decide), if_neg (by decide), h2]
  · have hn := hneg rfl
    have hp : pneg (textL true b n) = true := by rw [text_neg hn]; rfl
    have hb2 : pbody (textL true b n) = (hdigs b n).map chr := by unfold pbody; rw [hp, if_pos rfl, text_neg hn, text_hdigs]; rfl
    rw [hb2, h1, hp, if_pos rfl, if_pos rfl, if_pos rfl, h2]
theorem ofNat_lt {x y : Nat} (hx : x < 256) (hy : y < 256) : (UInt8.ofNat x < UInt8.ofNat y) ↔ x < y := by
  rw [UInt8.lt_iff_toNat_lt, UInt8.toNat_ofNat', UInt8.toNat_ofNat', Nat.mod_eq_of_lt hx, Nat.mod_eq_of_lt hy]
theorem chr_lt_iff {x y : Nat} : chr x < chr y ↔ x < y := by unfold chr; split <;> split <;> omega
/-- texts of as many digits have the order of the numbers -/
theorem compare_digits {b : Nat} (h36 : b ≤ 36) : ∀ xs ys : List Nat, xs.length = ys.length → (∀ d ∈ xs, d < b) → (∀ d ∈ ys, d < b) →
    Lib.compareBytes ((xs.map chr).map UInt8.ofNat) ((ys.map chr).map UInt8.ofNat) = cmpZ (numOf b xs : Int) (numOf b ys : Int)
  | [], [], _, _, _ => by unfold cmpZ; simp [Lib.compareBytes]
  | x :: xs, y :: ys, hl, hx, hy => by
    have hb : 1 ≤ b := by have := hx x (List.mem_cons_self); omega
    have ih := compare_digits h36 xs ys (by simpa using hl) (fun d hd => hx d (List.mem_cons_of_mem _ hd)) (fun d hd => hy d (List.mem_cons_of_mem _ hd))
    have hle : xs.length = ys.length := by simpa using hl
    have a1 := numOf_lt xs (fun d hd => hx d (List.mem_cons_of_mem _ hd))
    have a2 := numOf_lt ys (fun d hd => hy d (List.mem_cons_of_mem _ hd))
    have c1 : chr x < 256 := by have := chr_lt (Nat.lt_of_lt_of_le (hx x (List.mem_cons_self)) h36); omega
    have c2 : chr y < 256 := by have := chr_lt (Nat.lt_of_lt_of_le (hy y (List.mem_cons_self)) h36); omega
    simp only [List.map_cons, Lib.compareBytes]
    rw [numOf_cons, numOf_cons, hle]
    rw [hle] at a1
    generalize b ^ ys.length = P at *
    by_cases h1 : x < y
    · rw [if_pos ((ofNat_lt c1 c2).2 (chr_lt_iff.2 h1))]
      have h3 : (x + 1) * P ≤ y * P := Nat.mul_le_mul_right _ h1
      rw [Nat.add_mul, Nat.one_mul] at h3
      unfold cmpZ
      rw [if_pos (by omega)]
    · rw [if_neg (fun h => h1 (chr_lt_iff.1 ((ofNat_lt c1 c2).1 h)))]
      by_cases h2 : y < x
      · rw [if_pos ((ofNat_lt c2 c1).2 (chr_lt_iff.2 h2))]
        have h3 : (y + 1) * P ≤ x * P := Nat.mul_le_mul_right _ h2
        rw [Nat.add_mul, Nat.one_mul] at h3
        unfold cmpZ
        rw [if_neg (by omega), if_pos (by omega)]
      · rw [if_neg (fun h => h2 (chr_lt_iff.1 ((ofNat_lt c2 c1).1 h))), ih]
        obtain rfl : x = y := by omega
        unfold cmpZ
        generalize x * P = Q at *
        by_cases h4 : numOf b xs < numOf b ys
        · rw [if_pos (by omega), if_pos (by omega)]
        · by_cases h5 : numOf b ys < numOf b xs
          · rw [if_neg (by omega), if_pos (by omega), if_neg (by omega), if_pos (by omega)]
          · rw [if_neg (by omega), if_neg (by omega), if_neg (by omega), if_neg (by omega)]
theorem numOf_drop (b : Nat) : ∀ ds : List Nat, numOf b (ds.dropWhile (· == 0)) = numOf b ds
  | [] => rfl
  | d :: t => by
    rw [List.dropWhile_cons]
    by_cases h : d = 0
    · subst h
      rw [if_pos (by rfl), numOf_drop b t, numOf_cons, Nat.zero_mul, Nat.zero_add]
    · rw [if_neg (by simpa using h)]
theorem dropWhile_head {α : Type} (p : α → Bool) : ∀ (l : List α) (x : α) (t : List α), l.dropWhile p = x :: t → p x = false
  | [], x, t, h => by simp at h
  | y :: l, x, t, h => by
    rw [List.dropWhile_cons] at h
    by_cases hp : p y = true
    · rw [if_pos hp] at h; exact dropWhile_head p l x t h
    · rw [if_neg hp] at h
      obtain ⟨rfl, -⟩ := List.cons.inj h
      simpa using hp
theorem mem_dropWhile {α : Type} (p : α → Bool) {l : List α} {x : α} (h : x ∈ l.dropWhile p) : x ∈ l := (List.dropWhile_suffix p).subset h
/-- the small letter, or digit, of a byte that is a digit -/
theorem lower_digit {c : UInt8} {b : Nat} (h36 : b ≤ 36) (h : digV 36 c.toNat < b) : Lib.lowerB c = UInt8.ofNat (chr (digV 36 c.toNat)) ∧ c.toNat < 128 ∧ c ≠ 45 := by
  have hc := c.toNat_lt
  unfold Lib.lowerB Lib.isUpperB
  have e1 : ((65 : UInt8) ≤ c) ↔ 65 ≤ c.toNat := by rw [UInt8.le_iff_toNat_le]; rfl
  have e2 : (c ≤ (90 : UInt8)) ↔ c.toNat ≤ 90 := by rw [UInt8.le_iff_toNat_le]; rfl
  unfold digV at *
  by_cases h1 : 65 ≤ c.toNat ∧ c.toNat ≤ 90
  · rw [if_pos h1] at h ⊢
    rw [if_pos (by rw [Bool.and_eq_true, decide_eq_true_eq, decide_eq_true_eq]; exact ⟨e1.2 h1.1, e2.2 h1.2⟩)]
    refine ⟨?_, by omega, by rintro rfl; simp at h1⟩
    rw [← UInt8.toNat_inj, UInt8.toNat_add, UInt8.toNat_ofNat']
    unfold chr
    rw [if_neg (by omega)]
    show (c.toNat + 32) % 256 = _
    omega
  · rw [if_neg h1] at h ⊢
    rw [if_neg (by rw [Bool.and_eq_true, decide_eq_true_eq, decide_eq_true_eq, e1, e2]; exact h1)]
    by_cases h2 : 97 ≤ c.toNat ∧ c.toNat ≤ 122
    · rw [if_pos h2] at h ⊢
      refine ⟨?_, by omega, by rintro rfl; simp at h2⟩
      rw [← UInt8.toNat_inj, UInt8.toNat_ofNat']
      unfold chr
      rw [if_neg (by omega)]
      omega
    · rw [if_neg h2] at h ⊢
      by_cases h3 : 48 ≤ c.toNat ∧ c.toNat ≤ 57
      · rw [if_pos h3] at h ⊢
        refine ⟨?_, by omega, by rintro rfl; simp at h3⟩
        rw [← UInt8.toNat_inj, UInt8.toNat_ofNat']
        unfold chr
        rw [if_pos (by omega)]
        omega
      · rw [if_neg h3] at h; omega
theorem chr_zero {d : Nat} (h : d < 36) : (UInt8.ofNat (chr d) == (48 : UInt8)) = (d == 0) := by
  rw [Bool.eq_iff_iff, beq_iff_eq, beq_iff_eq, ← UInt8.toNat_inj, UInt8.toNat_ofNat']
  have h1 := chr_lt h
  show chr d % 256 = 48 ↔ d = 0
  rw [Nat.mod_eq_of_lt (by omega)]
  unfold chr
  split <;> omega
theorem drop_chr : ∀ ds : List Nat, (∀ d ∈ ds, d < 36) → ((ds.map chr).map UInt8.ofNat).dropWhile (· == (48 : UInt8)) = ((ds.dropWhile (· == 0)).map chr).map UInt8.ofNat
  | [], _ => rfl
  | d :: t, h => by
    rw [List.map_cons, List.map_cons, List.dropWhile_cons, List.dropWhile_cons, chr_zero (h d (List.mem_cons_self))]
    split
    · exact drop_chr t (fun y hy => h y (List.mem_cons_of_mem _ hy))
    · rfl
theorem hdigs_of {b : Nat} (hb : 2 ≤ b) {ds : List Nat} {d : Nat} {t : List Nat} (h : ∀ y ∈ ds, y < b) (e : ds = d :: t) (hd : d ≠ 0) : numOf b ds ≠ 0 ∧ hdigs b (numOf b ds) = ds := by
  have h1 := digs_rev hb ds.reverse (fun y hy => h y (List.mem_reverse.1 hy)) (fun h' => by
    subst e
    simpa using hd)
  rw [List.reverse_reverse] at h1
  have hn : numOf b ds ≠ 0 := by
    intro h0
    rw [h0, digs_zero] at h1
    have := congrArg List.length h1
    rw [e] at this; simp at this
  refine ⟨hn, ?_⟩
  unfold hdigs
  rw [if_neg hn, h1, List.reverse_reverse]
/-- what Parse reads, Text writes without zeros in front, in small letters -/
theorem again_facts {b : Nat} (hb : 2 ≤ b) (h36 : b ≤ 36) (l : List UInt8) (hok : parOk b (pbody (l.map UInt8.toNat)) = true) (dg : List UInt8) (hdg : Lib.trimLeftB (Lib.trimPrefix (Lib.toLowerA l) [45]) 48 = dg) :
    (∀ x ∈ l, x.toNat < 128) ∧ Lib.hasPrefix l [45] = pneg (l.map UInt8.toNat) ∧ (dg = [] → parV b (pbody (l.map UInt8.toNat)) = 0) ∧
      (dg ≠ [] → parV b (pbody (l.map UInt8.toNat)) ≠ 0 ∧ (textL false b (parV b (pbody (l.map UInt8.toNat)))).map UInt8.ofNat = dg) ∧ (∀ c t, dg = c :: t → c ≠ 45) := by
  -- the bytes behind the sign
  obtain ⟨m, hm1, hm2, hm3, hm4⟩ : ∃ m : List UInt8, pbody (l.map UInt8.toNat) = m.map UInt8.toNat ∧ Lib.hasPrefix l [45] = pneg (l.map UInt8.toNat) ∧ Lib.trimPrefix (Lib.toLowerA l) [45] = m.map Lib.lowerB ∧ (∀ x ∈ l, x = 45 ∨ x ∈ m) := by
    rcases l with _ | ⟨c, t⟩
    · exact ⟨[], rfl, rfl, rfl, fun x hx => by cases hx⟩
    · by_cases h45 : c = 45
      · subst h45
        refine ⟨t, rfl, rfl, rfl, fun x hx => ?_⟩
        rcases List.mem_cons.1 hx with h | h
        · exact .inl h
        · exact .inr h
      · have hp : pneg ((c :: t).map UInt8.toNat) = false := by
          unfold pneg
          rw [List.map_cons, List.head?_cons]
          rw [beq_eq_false_iff_ne]
          intro h
          apply h45
          rw [← UInt8.toNat_inj]
          exact Option.some.inj h
        have hq : Lib.hasPrefix (c :: t) [45] = false := by
          unfold Lib.hasPrefix
          simp [List.isPrefixOf]
          exact fun h => h45 h.symm
        have hl : Lib.lowerB c ≠ 45 := by
          intro h
          unfold Lib.lowerB Lib.isUpperB at h
          split at h
          · rename_i hu
            rw [Bool.and_eq_true, decide_eq_true_eq, decide_eq_true_eq, UInt8.le_iff_toNat_le, UInt8.le_iff_toNat_le] at hu
            have := congrArg UInt8.toNat h
            rw [UInt8.toNat_add] at this
            have h1 : 65 ≤ c.toNat := hu.1
            have h2 : c.toNat ≤ 90 := hu.2
            have h3 : (c.toNat + 32) % 256 = 45 := this
            omega
          · exact h45 h
        refine ⟨c :: t, ?_, by rw [hq, hp], ?_, fun x hx => .inr hx⟩
        · unfold pbody; rw [hp, if_neg (by decide)]
        · unfold Lib.trimPrefix Lib.toLowerA
          rw [if_neg]
          unfold Lib.hasPrefix
          simp [List.isPrefixOf]
          exact fun h => hl h.symm
  rw [hm1] at hok ⊢
  obtain ⟨hpos, hall⟩ := parOk_true hok
  have hdig : ∀ x ∈ m, digV 36 x.toNat < b := by
    intro x hx
    obtain ⟨i, hi, rfl⟩ := List.getElem_of_mem hx
    have := hall i (by rw [List.length_map]; exact hi)
    rw [List.getD_eq_getElem?_getD, List.getElem?_map, List.getElem?_eq_getElem hi] at this
    exact this
  -- the digits
  have hlow : m.map Lib.lowerB = ((m.map fun x => digV 36 x.toNat).map chr).map UInt8.ofNat := by
    rw [List.map_map, List.map_map]
    exact List.map_congr_left fun x hx => (lower_digit h36 (hdig x hx)).1
  have hV : parV b (m.map UInt8.toNat) = numOf b (m.map fun x => digV 36 x.toNat) := by
    unfold parV; rw [List.map_map]; rfl
  have hlt : ∀ d ∈ m.map (fun x => digV 36 x.toNat), d < b := by
    intro d hd
    rw [List.mem_map] at hd
    obtain ⟨x, hx, rfl⟩ := hd
    exact hdig x hx
  rw [hV]
  generalize m.map (fun x => digV 36 x.toNat) = ds at *
  rw [hm3, hlow] at hdg
  unfold Lib.trimLeftB at hdg
  rw [drop_chr ds (fun d hd => Nat.lt_of_lt_of_le (hlt d hd) h36)] at hdg
  rw [← numOf_drop b ds]
  have hlt2 : ∀ d ∈ ds.dropWhile (· == 0), d < b := fun d hd => hlt d (mem_dropWhile _ hd)
  refine ⟨fun x hx => ?_, hm2, ?_, ?_, ?_⟩
  · rcases hm4 x hx with rfl | h
    · decide
    · exact (lower_digit h36 (hdig x h)).2.1
  · intro h0
    rw [h0, List.map_eq_nil_iff, List.map_eq_nil_iff] at hdg
    rw [hdg]; rfl
  · intro hne
    rcases hh : ds.dropWhile (· == 0) with _ | ⟨d, t⟩
    · rw [hh] at hdg; exact absurd hdg.symm hne
    · have hd := dropWhile_head _ _ _ _ hh
      rw [hh] at hdg hlt2
      obtain ⟨h1, h2⟩ := hdigs_of hb hlt2 rfl (by simpa using hd)
      exact ⟨h1, by rw [text_hdigs, h2]; exact hdg⟩
  · intro c t e
    rw [e] at hdg
    rcases hh : ds.dropWhile (· == 0) with _ | ⟨d, t'⟩
    · rw [hh] at hdg; cases hdg
    · rw [hh, List.map_cons, List.map_cons] at hdg
      obtain ⟨rfl, -⟩ := List.cons.inj hdg
      intro h45
      have := congrArg UInt8.toNat h45
      rw [UInt8.toNat_ofNat'] at this
      have h1 := chr_48 d
      have h2 : d < b := hlt2 d (by rw [hh]; exact List.mem_cons_self)
      have h3 := chr_lt (Nat.lt_of_lt_of_le h2 h36)
      rw [Nat.mod_eq_of_lt (by omega)] at this
      have h4 : chr d = 45 := this
      omega
end Nm
end Go.Proofs.YtlhmbbpkhahbeaaGreatDoor
