/-
  Contracts of the walks below.
-/
import Derived.Test.YtjghnghceeijeaaGreatDoorDb19
set_option maxRecDepth 100000
set_option maxHeartbeats 4000000
set_option linter.unusedVariables false
set_option linter.unusedSimpArgs false
namespace Go.Proofs.YtjghnghceeijeaaGreatDoor
namespace Dc
def strip (z : Int) : Nat → Int × Nat
 | 0 => (z, 0)
 | 1 => (z, 1)
 | p + 2 => if z % 10 = 0 then strip (z / 10) (p + 1) else (z, p + 2)
def madeZ (z : Int) (p : Nat) : Int × Nat := if p = 0 then (z * 10, 1) else strip z p
theorem strip_scale (z : Int) : ∀ (k p : Nat), 1 ≤ p → strip (z * 10 ^ k) (p + k) = strip z p := by
 intro k
 induction k with
 | zero => intro p _; rw [Int.pow_zero, Int.mul_one, Nat.add_zero]
 | succ k ih =>
  intro p hp
  obtain ⟨m, hm⟩ : ∃ m, p + (k + 1) = m + 2 := ⟨p + k - 1, by omega⟩
  have e : z * 10 ^ (k + 1) = (z * 10 ^ k) * 10 := by rw [Int.pow_succ, Int.mul_assoc]
  rw [hm, strip, e, if_pos (Int.mul_emod_left _ _), Int.mul_ediv_cancel _ (by decide), show m + 1 = p + k by omega]
  exact ih p hp
theorem strip_id (z : Int) (p : Nat) (h : p ≤ 1 ∨ z % 10 ≠ 0) : strip z p = (z, p) := by
 rcases p with _ | _ | p
 · rfl
 · rfl
 · rw [strip, if_neg]
   rcases h with h | h
   · omega
   · exact h
theorem made_scale (z : Int) (p k : Nat) : madeZ z p = if p + k = 0 then madeZ z 0 else strip (z * 10 ^ k) (p + k) := by
 by_cases h0 : p + k = 0
 · rw [if_pos h0, show p = 0 by omega]
 · rw [if_neg h0]
   unfold madeZ
   by_cases hp : p = 0
   · subst hp
     rw [if_pos rfl, Nat.zero_add]
     obtain ⟨m, rfl⟩ : ∃ m, k = m + 1 := ⟨k - 1, by omega⟩
     have e : z * 10 ^ (m + 1) = (z * 10) * 10 ^ m := by rw [Int.pow_succ, Int.mul_comm ((10 : Int) ^ m), Int.mul_assoc]
     rw [e, Nat.add_comm m 1, strip_scale _ m 1 (Nat.le_refl _)]
     rfl
   · rw [if_neg hp, strip_scale z k p (by omega)]
def nearP (n d : Int) : Int := if d < 2 * (n % d) ∨ 2 * (n % d) = d ∧ (n / d) % 2 = 1 then n / d + 1 else n / d
def nearZ (n d : Int) : Int := if d < 0 then nearP (-n) (-d) else nearP n d
theorem nearP_scale {n d k : Int} (hk : 0 < k) : nearP (n * k) (d * k) = nearP n d := by
 unfold nearP
 have e1 : n * k / (d * k) = n / d := Int.mul_ediv_mul_of_pos_left n d hk
 have e2 : n * k % (d * k) = n % d * k := by rw [Int.mul_comm n k, Int.mul_comm d k, Int.mul_emod_mul_of_pos _ _ hk, Int.mul_comm]
 rw [e1, e2]
 have h1 : d * k < 2 * (n % d * k) ↔ d < 2 * (n % d) := by
  rw [← Int.mul_assoc]
  exact ⟨fun h => Int.lt_of_mul_lt_mul_right h (Int.le_of_lt hk), fun h => Int.mul_lt_mul_of_pos_right h hk⟩
 have h2 : 2 * (n % d * k) = d * k ↔ 2 * (n % d) = d := by
  rw [← Int.mul_assoc]
  exact ⟨fun h => Int.eq_of_mul_eq_mul_right (by omega) h, fun h => by rw [h]⟩
 simp only [h1, h2]
theorem nearZ_scale {n d k : Int} (hk : 0 < k) : nearZ (n * k) (d * k) = nearZ n d := by
 unfold nearZ
 have h : d * k < 0 ↔ d < 0 := by
  constructor
  · intro h
    rcases Int.lt_or_le d 0 with h' | h'
    · exact h'
    · have := Int.mul_nonneg h' (Int.le_of_lt hk); omega
  · intro h; exact Int.mul_neg_of_neg_of_pos h hk
 simp only [h]
 rw [← Int.neg_mul, ← Int.neg_mul, nearP_scale hk, nearP_scale hk]
theorem near_one (n : Int) : nearZ n 1 = n := by
 unfold nearZ nearP
 rw [if_neg (by decide), Int.emod_one, Int.ediv_one, if_neg (by omega)]
def unitsZ (z : Int) (p : Nat) : Int := z * 10 ^ (20 - p)
theorem made_units (x y : Int) (p q : Nat) (h1 : 1 ≤ p) (hp : p ≤ 20) (hq : q ≤ 20) (f : Int → Int → Int) (hf : ∀ a b k, f (a * k) (b * k) = f a b * k) :
 madeZ (f (x * 10 ^ (max p q - p)) (y * 10 ^ (max p q - q))) (max p q) = strip (f (unitsZ x p) (unitsZ y q)) 20 := by
 unfold unitsZ
 have e1 : x * 10 ^ (20 - p) = (x * 10 ^ (max p q - p)) * 10 ^ (20 - max p q) := by
  rw [Int.mul_assoc, ← Int.pow_add, show max p q - p + (20 - max p q) = 20 - p by omega]
 have e2 : y * 10 ^ (20 - q) = (y * 10 ^ (max p q - q)) * 10 ^ (20 - max p q) := by
  rw [Int.mul_assoc, ← Int.pow_add, show max p q - q + (20 - max p q) = 20 - q by omega]
 rw [e1, e2, hf]
 have h := strip_scale (f (x * 10 ^ (max p q - p)) (y * 10 ^ (max p q - q))) (20 - max p q) (max p q) (by omega)
 rw [show max p q + (20 - max p q) = 20 by omega] at h
 rw [h]
 unfold madeZ
 rw [if_neg (by omega)]
end Dc
end Go.Proofs.YtjghnghceeijeaaGreatDoor
namespace Go.Proofs.YtjghnghceeijeaaGreatDoor
namespace Dc
open Go.RowKit Go.Shelf Go.BigFrame Go.Proofs.YtjghnghceeijeaaGreatDoor.Nm
theorem box1 (w : World) (c0 : Array Value) (t0 : TypeId) : ∃ W, (w.alloc (.cells c0 t0)) = W ∧ Below w.heap.size w W ∧ Blk W (w.heap.size) c0 t0 ∧ W.heap.size = w.heap.size + 1 := by
 exact ⟨_, rfl, (allocs_stp w [.cells c0 t0] (Nat.le_refl _)).below, ⟨allocs_get w [.cells c0 t0] 0 (by simp)⟩, by simp⟩
theorem box2 (w : World) (c0 : Array Value) (t0 : TypeId) (c1 : Array Value) (t1 : TypeId) : ∃ W, ((w.alloc (.cells c0 t0)).alloc (.cells c1 t1)) = W ∧ Below w.heap.size w W ∧ Blk W (w.heap.size) c0 t0 ∧ Blk W (w.heap.size + 1) c1 t1 ∧ W.heap.size = w.heap.size + 2 := by
 exact ⟨_, rfl, (allocs_stp w [.cells c0 t0, .cells c1 t1] (Nat.le_refl _)).below, ⟨allocs_get w [.cells c0 t0, .cells c1 t1] 0 (by simp)⟩, ⟨allocs_get w [.cells c0 t0, .cells c1 t1] 1 (by simp)⟩, by simp⟩
theorem box3 (w : World) (c0 : Array Value) (t0 : TypeId) (c1 : Array Value) (t1 : TypeId) (c2 : Array Value) (t2 : TypeId) : ∃ W, (((w.alloc (.cells c0 t0)).alloc (.cells c1 t1)).alloc (.cells c2 t2)) = W ∧ Below w.heap.size w W ∧ Blk W (w.heap.size) c0 t0 ∧ Blk W (w.heap.size + 1) c1 t1 ∧ Blk W (w.heap.size + 1 + 1) c2 t2 ∧ W.heap.size = w.heap.size + 3 := by
 exact ⟨_, rfl, (allocs_stp w [.cells c0 t0, .cells c1 t1, .cells c2 t2] (Nat.le_refl _)).below, ⟨allocs_get w [.cells c0 t0, .cells c1 t1, .cells c2 t2] 0 (by simp)⟩, ⟨allocs_get w [.cells c0 t0, .cells c1 t1, .cells c2 t2] 1 (by simp)⟩, ⟨allocs_get w [.cells c0 t0, .cells c1 t1, .cells c2 t2] 2 (by simp)⟩, by simp⟩
theorem box4 (w : World) (c0 : Array Value) (t0 : TypeId) (c1 : Array Value) (t1 : TypeId) (c2 : Array Value) (t2 : TypeId) (c3 : Array Value) (t3 : TypeId) : ∃ W, ((((w.alloc (.cells c0 t0)).alloc (.cells c1 t1)).alloc (.cells c2 t2)).alloc (.cells c3 t3)) = W ∧ Below w.heap.size w W ∧ Blk W (w.heap.size) c0 t0 ∧ Blk W (w.heap.size + 1) c1 t1 ∧ Blk W (w.heap.size + 1 + 1) c2 t2 ∧ Blk W (w.heap.size + 1 + 1 + 1) c3 t3 ∧ W.heap.size = w.heap.size + 4 := by
 exact ⟨_, rfl, (allocs_stp w [.cells c0 t0, .cells c1 t1, .cells c2 t2, .cells c3 t3] (Nat.le_refl _)).below, ⟨allocs_get w [.cells c0 t0, .cells c1 t1, .cells c2 t2, .cells c3 t3] 0 (by simp)⟩, ⟨allocs_get w [.cells c0 t0, .cells c1 t1, .cells c2 t2, .cells c3 t3] 1 (by simp)⟩, ⟨allocs_get w [.cells c0 t0, .cells c1 t1, .cells c2 t2, .cells c3 t3] 2 (by simp)⟩, ⟨allocs_get w [.cells c0 t0, .cells c1 t1, .cells c2 t2, .cells c3 t3] 3 (by simp)⟩, by simp⟩
theorem box5 (w : World) (c0 : Array Value) (t0 : TypeId) (c1 : Array Value) (t1 : TypeId) (c2 : Array Value) (t2 : TypeId) (c3 : Array Value) (t3 : TypeId) (c4 : Array Value) (t4 : TypeId) : ∃ W, (((((w.alloc (.cells c0 t0)).alloc (.cells c1 t1)).alloc (.cells c2 t2)).alloc (.cells c3 t3)).alloc (.cells c4 t4)) = W ∧ Below w.heap.size w W ∧ Blk W (w.heap.size) c0 t0 ∧ Blk W (w.heap.size + 1) c1 t1 ∧ Blk W (w.heap.size + 1 + 1) c2 t2 ∧ Blk W (w.heap.size + 1 + 1 + 1) c3 t3 ∧ Blk W (w.heap.size + 1 + 1 + 1 + 1) c4 t4 ∧ W.heap.size = w.heap.size + 5 := by
 exact ⟨_, rfl, (allocs_stp w [.cells c0 t0, .cells c1 t1, .cells c2 t2, .cells c3 t3, .cells c4 t4] (Nat.le_refl _)).below, ⟨allocs_get w [.cells c0 t0, .cells c1 t1, .cells c2 t2, .cells c3 t3, .cells c4 t4] 0 (by simp)⟩, ⟨allocs_get w [.cells c0 t0, .cells c1 t1, .cells c2 t2, .cells c3 t3, .cells c4 t4] 1 (by simp)⟩, ⟨allocs_get w [.cells c0 t0, .cells c1 t1, .cells c2 t2, .cells c3 t3, .cells c4 t4] 2 (by simp)⟩, ⟨allocs_get w [.cells c0 t0, .cells c1 t1, .cells c2 t2, .cells c3 t3, .cells c4 t4] 3 (by simp)⟩, ⟨allocs_get w [.cells c0 t0, .cells c1 t1, .cells c2 t2, .cells c3 t3, .cells c4 t4] 4 (by simp)⟩, by simp⟩
end Dc
end Go.Proofs.YtjghnghceeijeaaGreatDoor
namespace Go.Proofs.YtjghnghceeijeaaGreatDoor
namespace Dc
theorem near_spec (n : Int) {d : Int} (hd : 0 < d) : 2 * ((n - nearP n d * d).natAbs : Int) < d ∨ 2 * ((n - nearP n d * d).natAbs : Int) = d ∧ nearP n d % 2 = 0 := by
 have h1 := Int.mul_ediv_add_emod n d
 have h2 := Int.emod_nonneg n (show d ≠ 0 by omega)
 have h3 := Int.emod_lt_of_pos n hd
 unfold nearP
 generalize n / d = q at *
 generalize n % d = r at *
 have e1 : n - q * d = r := by rw [Int.mul_comm]; omega
 have e2 : n - (q + 1) * d = r - d := by rw [Int.add_mul, Int.one_mul]; omega
 split
 · rw [e2]
   omega
 · rw [e1]
   omega
theorem near_by (n : Int) {d : Int} (hd : 0 < d) : nearP n d = if n % d > d - n % d ∨ n % d = d - n % d ∧ (n / d) % 2 = 1 then n / d + 1 else n / d := by
 unfold nearP
 have h1 : d < 2 * (n % d) ↔ n % d > d - n % d := by omega
 have h2 : 2 * (n % d) = d ↔ n % d = d - n % d := by omega
 simp only [h1, h2]
def rootUp (x r : Int) : Int := if x - r * r > r then r + 1 else r
theorem ten_pos (k : Nat) : (0 : Int) < 10 ^ k := Int.pow_pos (by decide)
theorem ten_split {p : Nat} (hp : p ≤ 20) : (10 : Int) ^ 20 = 10 ^ p * 10 ^ (20 - p) := by
 rw [← Int.pow_add, show p + (20 - p) = 20 by omega]
theorem div_units (a b : Int) {p q : Nat} (hp : p ≤ 20) (hq : q ≤ 20) : nearZ (a * 10 ^ q * 10 ^ 20) (b * 10 ^ p) = nearZ (unitsZ a p * 10 ^ 20) (unitsZ b q) := by
 have h := nearZ_scale (n := unitsZ a p * 10 ^ 20) (d := unitsZ b q) (k := 10 ^ p * 10 ^ q) (Int.mul_pos (ten_pos _) (ten_pos _))
 rw [← h, ← nearZ_scale (n := a * 10 ^ q * 10 ^ 20) (d := b * 10 ^ p) (k := 10 ^ 20) (ten_pos _)]
 have h1 := ten_split hp
 have h2 := ten_split hq
 have e1 : a * 10 ^ q * 10 ^ 20 * 10 ^ 20 = unitsZ a p * 10 ^ 20 * (10 ^ p * 10 ^ q) := by
  unfold unitsZ
  generalize (10 : Int) ^ (20 - p) = P at *
  generalize (10 : Int) ^ (20 - q) = Q at *
  generalize (10 : Int) ^ p = p1 at *
  generalize (10 : Int) ^ q = q1 at *
  generalize (10 : Int) ^ 20 = T at *
  calc a * q1 * T * T = a * q1 * T * (p1 * P) := by rw [← h1]
   _ = a * P * T * (p1 * q1) := by simp only [Int.mul_assoc, Int.mul_comm, Int.mul_left_comm]
 have e2 : b * 10 ^ p * 10 ^ 20 = unitsZ b q * (10 ^ p * 10 ^ q) := by
  unfold unitsZ
  generalize (10 : Int) ^ (20 - p) = P at *
  generalize (10 : Int) ^ (20 - q) = Q at *
  generalize (10 : Int) ^ p = p1 at *
  generalize (10 : Int) ^ q = q1 at *
  generalize (10 : Int) ^ 20 = T at *
  calc b * p1 * T = b * p1 * (q1 * Q) := by rw [← h2]
   _ = b * Q * (p1 * q1) := by simp only [Int.mul_assoc, Int.mul_comm, Int.mul_left_comm]
 rw [e1, e2]
theorem pow_zero (x : Int) : strip (nearZ (x * 10 ^ 20) (10 ^ 0)) 20 = madeZ x 0 := by
 rw [Int.pow_zero, near_one]
 have h := made_scale x 0 20
 rw [if_neg (by decide), Nat.zero_add] at h
 exact h.symm
end Dc
end Go.Proofs.YtjghnghceeijeaaGreatDoor
namespace Go.Proofs.YtjghnghceeijeaaGreatDoor
namespace Dc
open Go.RowKit Go.Shelf Go.BigFrame Go.Proofs.YtjghnghceeijeaaGreatDoor.Nm
attribute [local go_sem] Oper.semAt_some
structure Off (P : Nat → Prop) (w w' : World) : Prop where
 os : w'.os = w.os
 tape : w'.tape = w.tape
 output : w'.output = w.output
 size : w.heap.size ≤ w'.heap.size
 block : ∀ k, k < w.heap.size → ¬ P k → w'.heap[k]? = w.heap[k]?
theorem Off.refl (P : Nat → Prop) (w : World) : Off P w w := ⟨rfl, rfl, rfl, Nat.le_refl _, fun _ _ _ => rfl⟩
theorem Off.trans {P : Nat → Prop} {a b c : World} (h : Off P a b) (k : Off P b c) : Off P a c :=
 ⟨k.os.trans h.os, k.tape.trans h.tape, k.output.trans h.output, Nat.le_trans h.size k.size, fun i h1 h2 => (k.block i (Nat.lt_of_lt_of_le h1 h.size) h2).trans (h.block i h1 h2)⟩
theorem Off.of_below {P : Nat → Prop} {w w' : World} (h : Below w.heap.size w w') : Off P w w' := ⟨h.os, h.tape, h.output, h.size, fun k h1 _ => h.block k h1⟩
theorem Off.below {P : Nat → Prop} {w w' : World} {m : Nat} (h : Off P w w') (hm : m ≤ w.heap.size) (hP : ∀ k, P k → m ≤ k) : Below m w w' :=
 ⟨h.os, h.tape, h.output, h.size, fun k hk => h.block k (by omega) (fun hp => by have := hP k hp; omega)⟩
theorem Off.full {w w' : World} (h : Off (fun _ => False) w w') : Below w.heap.size w w' := h.below (Nat.le_refl _) (fun _ h => h.elim)
theorem Off.blk {P : Nat → Prop} {w w' : World} {g : Nat} {cur : Array Value} {t : TypeId} (h : Off P w w') (hg : ¬ P g) (hb : Blk w g cur t) : Blk w' g cur t :=
 ⟨(h.block g (Array.getElem?_eq_some_iff.1 hb.h).1 hg).trans hb.h⟩
theorem Off.on {P : Nat → Prop} {w W W' : World} (h : Off P w W) (k : Below W.heap.size W W') : Off P w W' := h.trans (.of_below k)
theorem Off.set {P : Nat → Prop} {w W : World} (h : Off P w W) {g : Nat} (hg : P g ∨ w.heap.size ≤ g) (i : Nat) (v : Value) : Off P w (W.setCell ⟨g, i, none⟩ v) :=
 ⟨h.os, h.tape, h.output, by simpa [World.setCell] using h.size, fun k h1 h2 => (Below.heap_setCell _ _ _ _ (by
  rintro rfl
  rcases hg with hg | hg
  · exact h2 hg
  · omega)).trans (h.block k h1 h2)⟩
structure Nudge (n : Nat) (w w' : World) : Prop where
 low : Below n w w'
 rd : ∀ A l, Rd w A l → Rd w' A l
theorem Nudge.trans {n : Nat} {a b c : World} (h : Nudge n a b) (k : Nudge n b c) : Nudge n a c := ⟨h.low.trans k.low, fun A l hA => k.rd A l (h.rd A l hA)⟩
theorem Nudge.mono {n m : Nat} {a b : World} (h : Nudge n a b) (hm : m ≤ n) : Nudge m a b := ⟨h.low.mono hm, h.rd⟩
theorem Nudge.of_below {n : Nat} {a b : World} (h : Below a.heap.size a b) (hn : n ≤ a.heap.size) : Nudge n a b := ⟨h.mono hn, fun _ _ hA => hA.on h⟩
theorem rd_off {W : World} {A : Option Addr} {l : List Nat} {g : Nat} {t : TypeId} {cur : Array Value} (h : Rd W A l) (hb : Blk W g cur t) (hc : ∀ (i x : Nat), cur[i]? ≠ some (.int .u32 (x : Int))) : ∀ b o, A = some ⟨b, o, none⟩ → l ≠ [] → b ≠ g := by
 rintro b o rfl h0 rfl
 obtain ⟨b', o', e, hcl⟩ := h.cell 0 (List.length_pos_iff.2 h0)
 cases e
 simp only [World.cell?, hb.h, Option.isSome_none, Bool.false_eq_true, if_false] at hcl
 exact hc _ _ hcl
theorem rd_set {W : World} {A : Option Addr} {l : List Nat} {g : Nat} {t : TypeId} {cur : Array Value} (h : Rd W A l) (hb : Blk W g cur t) (hc : ∀ (i x : Nat), cur[i]? ≠ some (.int .u32 (x : Int))) (j : Nat) (v : Value) : Rd (W.setCell ⟨g, j, none⟩ v) A l := by
 by_cases h0 : l = []
 · subst h0; exact Rd.nil _ _
 · exact grw_rd (grownBy_setCell_at _ _ _ _) h (fun b o e => rd_off h hb hc b o e h0)
theorem Nudge.set {n : Nat} {w W : World} (h : Nudge n w W) {g : Nat} (hn : n ≤ g) {t : TypeId} {cur : Array Value} (hb : Blk W g cur t) (hc : ∀ (i x : Nat), cur[i]? ≠ some (.int .u32 (x : Int))) (j : Nat) (v : Value) : Nudge n w (W.setCell ⟨g, j, none⟩ v) :=
 ⟨h.low.setCell hn _, fun A l hA => rd_set (h.rd A l hA) hb hc j v⟩
structure IV (w : World) (s : Bool) (A : Option Addr) (c : Nat) (l : List Nat) (z : Int) : Prop where
 rd : Rd w A l
 cap : l.length ≤ c
 isZ : IsZ s l z
theorem IV.on {w W : World} {s : Bool} {A : Option Addr} {c : Nat} {l : List Nat} {z : Int} (h : IV w s A c l z) (hb : Below w.heap.size w W) : IV W s A c l z := ⟨h.rd.on hb, h.cap, h.isZ⟩
theorem IV.nudge {n : Nat} {w W : World} {s : Bool} {A : Option Addr} {c : Nat} {l : List Nat} {z : Int} (h : IV w s A c l z) (hb : Nudge n w W) : IV W s A c l z := ⟨hb.rd _ _ h.rd, h.cap, h.isZ⟩
theorem IV.okZ {w : World} {s : Bool} {A : Option Addr} {c : Nat} {l : List Nat} {z : Int} (h : IV w s A c l z) (hl : (lim z.natAbs).length ≤ 300) : OkZ s l z := ⟨h.isZ, by rw [h.isZ.abs]; exact hl⟩
theorem IV.zero (w : World) : IV w false none 0 [] 0 := ⟨Rd.nil _ _, Nat.le_refl _, isZ_zero⟩
theorem IV.len {w : World} {s : Bool} {A : Option Addr} {c : Nat} {l : List Nat} {z : Int} (h : IV w s A c l z) : l.length = (lim z.natAbs).length := by rw [h.isZ.abs]
def RetI (z : Int) (w : World) (e : Ending) (w' : World) : Prop := ∃ s A c l, e = .returned (iv s A l.length c) ∧ IV w' s A c l z ∧ Below w.heap.size w w'
theorem RetI.of {z : Int} {w : World} {e : Ending} {w' : World} (h : RetZ z w e w') : RetI z w e w' := let ⟨s, A, c, l, h1, h2, h3, h4, h5⟩ := h; ⟨s, A, c, l, h1, ⟨h4, h3, h2⟩, h5⟩
def failure (e : Int) : List PanicEntry := [{ v := .iface 149 (.agg #[.int .i64 e]), recovered := false }]
theorem need_ok (w : World) : Calls Tryz.prog 78 #[.int .i64 0] w fun x w' => x = .returned (.tuple #[]) ∧ w = w' := by
 go_enter Tryz.func78, Tryz.ntmps78
 go_wp2
 go_end0
 exact ⟨rfl, rfl⟩
theorem need_no (e : Int) (he : e ≠ 0) (w : World) : Calls Tryz.prog 78 #[.int .i64 e] w fun x w' => x = .panicked (failure e) ∧ w = w' := by
 have hb : (e == 0) = false := beq_eq_false_iff_ne.2 he
 have hn : (e != 0) = true := by rw [bne_iff_ne]; exact he
 clear he
 go_enter Tryz.func78, Tryz.ntmps78
 go_wp2
 exact ⟨rfl, rfl, rfl⟩
abbrev vv (k p : Int) (s : Bool) (A : Option Addr) (n c : Nat) (S : ByteArray) (B : Option Addr) (m d : Nat) : Value := .agg #[.int .i64 k, .int .i64 p, .bool s, .slice A n c, .string S, .slice B m d]
abbrev vcells (k p : Int) (s : Bool) (A : Option Addr) (n c : Nat) (S : ByteArray) (B : Option Addr) (m d : Nat) : Array Value := #[.int .i64 k, .int .i64 p, .bool s, .slice A n c, .string S, .slice B m d]
structure VA where
 k : Int
 p : Int
 s : Bool
 A : Option Addr
 c : Nat
 l : List Nat
 S : ByteArray
 B : Option Addr
 m : Nat
 d : Nat
abbrev VA.val (x : VA) : Value := vv x.k x.p x.s x.A x.l.length x.c x.S x.B x.m x.d
abbrev VA.cells (x : VA) : Array Value := vcells x.k x.p x.s x.A x.l.length x.c x.S x.B x.m x.d
structure VA.At (x : VA) (w : World) : Prop where
 rd : Rd w x.A x.l
 cap : x.l.length ≤ x.c
theorem VA.At.on {x : VA} {w W : World} (h : x.At w) (hb : Below w.heap.size w W) : x.At W := ⟨h.rd.on hb, h.cap⟩
theorem VA.At.nudge {x : VA} {n : Nat} {w W : World} (h : x.At w) (hb : Nudge n w W) : x.At W := ⟨hb.rd _ _ h.rd, h.cap⟩
def isD (k p : Int) (s : Bool) (l : List Nat) (S : ByteArray) (m : Nat) : Bool :=
 decide (k = 3) && S.toList == [] && decide (m = 0) && decide (1 ≤ p) && decide (p ≤ 20) && okI s l && decide (l.length ≤ 40) && (decide (p = 1) || decide (toZ s l % 10 ≠ 0))
def VA.ok (x : VA) : Bool := isD x.k x.p x.s x.l x.S x.m
def VA.z (x : VA) : Int := toZ x.s x.l
def VA.q (x : VA) : Nat := x.p.toNat
def VA.u (x : VA) : Int := unitsZ x.z x.q
structure IsD (z : Int) (p : Nat) : Prop where
 lo : 1 ≤ p
 hi : p ≤ 20
 len : (lim z.natAbs).length ≤ 40
 ten : 1 < p → z % 10 ≠ 0
theorem ba_nil {S : ByteArray} (h : (S.toList == []) = true) : S = ⟨#[]⟩ := by
 have h1 : S.toList = [] := by simpa using h
 rw [Go.ByteArray.toList_eq] at h1
 obtain ⟨⟨l⟩⟩ := S
 have : l = [] := h1
 rw [this]
structure VA.Open (x : VA) : Prop where
 k : x.k = 3
 S : x.S = ⟨#[]⟩
 m : x.m = 0
 p : x.p = (x.q : Int)
 isZ : IsZ x.s x.l x.z
 isD : IsD x.z x.q
theorem VA.open' {x : VA} (hw : Words x.l) (h : x.ok = true) : x.Open := by
 unfold VA.ok isD at h
 simp only [Bool.and_eq_true, decide_eq_true_eq, Bool.or_eq_true] at h
 obtain ⟨⟨⟨⟨⟨⟨⟨h1, h2⟩, h3⟩, h4⟩, h5⟩, h6⟩, h7⟩, h8⟩ := h
 have hz := (okZ_of hw h6).isZ
 refine ⟨h1, ba_nil h2, h3, by unfold VA.q; omega, hz, by unfold VA.q; omega, by unfold VA.q; omega, by unfold VA.z; rw [← hz.abs]; exact h7, fun h => ?_⟩
 unfold VA.q at h
 rcases h8 with h8 | h8
 · omega
 · exact h8
theorem VA.ok_made {p : Nat} {s : Bool} {A : Option Addr} {c : Nat} {l : List Nat} {z : Int} {B : Option Addr} {d : Nat} (hz : IsZ s l z) (h : IsD z p) : (VA.mk 3 p s A c l ⟨#[]⟩ B 0 d).ok = true := by
 have h7 : l.length ≤ 40 := by rw [hz.abs]; exact h.len
 unfold VA.ok isD
 dsimp only
 rw [okI_of hz (by omega), hz.toZ]
 simp only [Bool.and_eq_true, decide_eq_true_eq, Bool.or_eq_true]
 refine ⟨⟨⟨⟨⟨⟨⟨trivial, by rw [Go.ByteArray.toList_eq]; rfl⟩, trivial⟩, ?_⟩, ?_⟩, trivial⟩, h7⟩, ?_⟩
 · have := h.lo; omega
 · have := h.hi; omega
 · have := h.lo
   by_cases h' : 1 < p
   · exact .inr (h.ten h')
   · exact .inl (by omega)
abbrev DR := Int × Nat × Int
def err (e : Int) : DR := (0, 0, e)
def madeE (z : Int) (p : Nat) : DR := if (lim (madeZ z p).1.natAbs).length ≤ 40 then ((madeZ z p).1, (madeZ z p).2, 0) else err 3
def stripE (u : Int) : DR := madeE u 20
def one (a : VA) (x : DR) : DR := if a.ok = true then x else err 2
def two (a b : VA) (x : DR) : DR := if (a.ok && b.ok) = true then x else err 2
def addX (a b : VA) : DR := two a b (stripE (a.u + b.u))
def divX (a b : VA) : DR := two a b (if b.z = 0 then err 20 else stripE (nearZ (a.u * 10 ^ 20) b.u))
def sqrtX (a : VA) : DR := one a (if a.z < 0 then err 1 else stripE (rootUp (a.u * 10 ^ 20) (rootN (a.u * 10 ^ 20).natAbs 2)))
def powX (a : VA) (n : Int) : DR := one a (if n < -9600 ∨ 9600 < n then err 1 else if n < 0 ∧ a.z = 0 then err 20 else if 2800 < a.q * n.natAbs then err 3 else
 if (lim (a.z ^ n.natAbs).natAbs).length ≤ 300 then (if n < 0 then stripE (nearZ (10 ^ (a.q * n.natAbs + 20)) (a.z ^ n.natAbs)) else stripE (nearZ (a.z ^ n.natAbs * 10 ^ 20) (10 ^ (a.q * n.natAbs)))) else err 3)
def roundX (a : VA) (k : Int) : DR := one a (if k < 0 ∨ 20 < k then err 1 else if a.p ≤ k then (a.z, a.q, 0) else madeE (nearZ a.z (10 ^ (a.q - k.toNat))) k.toNat)
def makeX (s : Bool) (l : List Nat) (k : Int) : DR := if okI s l = true then (if k < 0 ∨ 20 < k then err 1 else madeE (toZ s l) k.toNat) else err 2
def ceilX (a : VA) : Int × Int := if a.ok = true then (-((-a.z) / 10 ^ a.q), 0) else (0, 2)
def kd (x : DR) : Int := if x.2.2 = 0 then 3 else 0
def IsV (x : DR) (w : World) (v : Value) : Prop := ∃ s A c l, v = vv (kd x) (x.2.1 : Int) s A l.length c ⟨#[]⟩ none 0 0 ∧ IV w s A c l x.1
def PostV (P : Nat → Prop) (x : DR) (w : World) (e : Ending) (w' : World) : Prop := Off P w w' ∧ (x.2.2 = 0 → ∃ v, e = .returned v ∧ IsV x w' v) ∧ (x.2.2 ≠ 0 → e = .panicked (failure x.2.2))
def RetV (x : DR) (w : World) (e : Ending) (w' : World) : Prop := ∃ v, e = .returned (.tuple #[v, .int .i64 x.2.2]) ∧ IsV x w' v ∧ Below w.heap.size w w'
def RetG (x : DR) (w : World) (e : Ending) (w' : World) : Prop := ∃ s A c l B d, e = .returned (.agg #[.int .i64 (kd x), .int .i64 (x.2.1 : Int), .bool s, .slice A l.length c, .string ⟨#[]⟩, .slice B 0 d, .int .i64 x.2.2]) ∧ IV w' s A c l x.1 ∧ Below w.heap.size w w'
structure Lz (k : Nat) (z : Int) : Prop where
 len : (lim z.natAbs).length ≤ k
theorem Lz.mono {k j : Nat} {z : Int} (h : Lz k z) (hk : k ≤ j) : Lz j z := ⟨Nat.le_trans h.len hk⟩
theorem Lz.neg {k : Nat} {z : Int} (h : Lz k z) : Lz k (-z) := ⟨by rw [Int.natAbs_neg]; exact h.len⟩
theorem Lz.abs {k : Nat} {z : Int} (h : Lz k z) : Lz k (z.natAbs : Int) := ⟨by rw [Int.natAbs_natCast]; exact h.len⟩
theorem len_sub' {z1 z2 : Int} {k : Nat} (h1 : (lim z1.natAbs).length ≤ k) (h2 : (lim z2.natAbs).length ≤ k) : (lim (z1 - z2).natAbs).length ≤ k + 1 := by
 have := len_add (z2 := -z2) h1 (by rw [Int.natAbs_neg]; exact h2)
 rwa [← Int.sub_eq_add_neg] at this
theorem len_mul' {z1 z2 : Int} {k j : Nat} (h1 : (lim z1.natAbs).length ≤ k) (h2 : (lim z2.natAbs).length ≤ j) : (lim (z1 * z2).natAbs).length ≤ k + j := by
 rw [Int.natAbs_mul]
 exact prod_length h1 h2
theorem Lz.add {k : Nat} {a b : Int} (h : Lz k a) (j : Lz k b) : Lz (k + 1) (a + b) := ⟨len_add h.len j.len⟩
theorem Lz.sub {k : Nat} {a b : Int} (h : Lz k a) (j : Lz k b) : Lz (k + 1) (a - b) := ⟨len_sub' h.len j.len⟩
theorem Lz.mul {k j : Nat} {a b : Int} (h : Lz k a) (i : Lz j b) : Lz (k + j) (a * b) := ⟨len_mul' h.len i.len⟩
theorem Lz.of {k : Nat} {z : Int} (h : z.natAbs < BB ^ k) : Lz k z := ⟨length_le_of_lt h⟩
theorem Lz.lt {k : Nat} {z : Int} (h : Lz k z) : z.natAbs < BB ^ k := lt_of_length_le h.len
theorem Lz.le {k : Nat} {a b : Int} (h : Lz k b) (hab : a.natAbs ≤ b.natAbs) : Lz k a := .of (Nat.lt_of_le_of_lt hab h.lt)
theorem IV.fit {w : World} {s : Bool} {A : Option Addr} {c : Nat} {l : List Nat} {z : Int} {k : Nat} (h : IV w s A c l z) (hl : l.length ≤ k) : Lz k z := ⟨by rw [← h.len]; exact hl⟩
theorem IV.ok {w : World} {s : Bool} {A : Option Addr} {c : Nat} {l : List Nat} {z : Int} {k : Nat} (h : IV w s A c l z) (hl : Lz k z) (hk : k ≤ 300) : OkZ s l z := h.okZ (Nat.le_trans hl.len hk)
theorem divZ_pos {a b : Int} (h : 0 < b) : divZ a b = a / b := by unfold divZ; rw [if_pos h]
theorem modZ_pos {a b : Int} (h : 0 < b) : modZ a b = a % b := by
 unfold modZ; rw [divZ_pos h]
 have := Int.mul_ediv_add_emod a b
 omega
theorem IV.sets {W : World} {s s' : Bool} {A B : Option Addr} {c n d : Nat} {l : List Nat} {z : Int} {g : Nat} {t : TypeId} (h : IV W s A c l z) (hq : Blk W g #[.bool s', .slice B n d] t) (u v : Value) : IV ((W.setCell ⟨g, 0, none⟩ u).setCell ⟨g, 1, none⟩ v) s A c l z := ⟨rd_sets h.rd hq u v, h.cap, h.isZ⟩
theorem retI_end {w W : World} {s s' : Bool} {A B : Option Addr} {c n d : Nat} {l : List Nat} {z : Int} {g : Nat} {t : TypeId} (I : IV W s A c l z) (hq : Blk W g #[.bool s', .slice B n d] t) (hb : Below w.heap.size w W) (hg : w.heap.size ≤ g) :
 RetI z w (.returned (iv s A l.length c)) ((W.setCell ⟨g, 0, none⟩ (.bool s)).setCell ⟨g, 1, none⟩ (.slice A l.length c)) := ⟨s, A, c, l, rfl, I.sets hq _ _, (hb.setCell hg _).setCell hg _⟩
theorem Lz.zero (k : Nat) : Lz k 0 := ⟨by rw [Int.natAbs_zero, lim_zero]; exact Nat.zero_le _⟩
theorem must_ok (n1 : Bool) (A1 : Option Addr) (c1 : Nat) (l1 : List Nat) (z1 : Int) (w : World) (I1 : IV w n1 A1 c1 l1 z1) : Calls Tryz.prog 81 #[iv n1 A1 l1.length c1, .int .i64 0] w (RetI z1 w) := by
 obtain ⟨W, hW, hbW, K0, K1, hszW⟩ := box2 w #[.bool n1, .slice A1 l1.length c1] 24 #[.bool false, .slice none 0 0] 24
 obtain ⟨x0, x1⟩ := cL2 K0.h
 obtain ⟨y0, y1⟩ := cL2 K1.h
 obtain ⟨q0, q1⟩ := fZ2 K1.h
 go_enter Tryz.func81, Tryz.ntmps81
 go_wp2_with (go_at_call 78; refine (need_ok _).mono ?_; rintro e w' ⟨rfl, rfl⟩)
 exact ret_cell rfl rfl rfl (set_blk (set_blk K1.h 0 _) 1 _) (retI_end (I1.on hbW) K1 hbW (by omega))
theorem must_no (s : Bool) (A : Option Addr) (n c : Nat) (er : Int) (he : er ≠ 0) (w : World) : Calls Tryz.prog 81 #[iv s A n c, .int .i64 er] w fun x w' => x = .panicked (failure er) ∧ Below w.heap.size w w' := by
 obtain ⟨W, hW, hbW, K0, K1, hszW⟩ := box2 w #[.bool s, .slice A n c] 24 #[.bool false, .slice none 0 0] 24
 go_enter Tryz.func81, Tryz.ntmps81
 go_wp2_with (go_at_call 78; refine (need_no er he _).mono ?_; rintro e w' ⟨rfl, rfl⟩)
 exact ⟨rfl, rfl, hbW⟩
theorem add_z (n1 n2 : Bool) (A1 A2 : Option Addr) (c1 c2 : Nat) (l1 l2 : List Nat) (z1 z2 : Int) (w : World) (I1 : IV w n1 A1 c1 l1 z1) (I2 : IV w n2 A2 c2 l2 z2) (f1 : Lz 300 z1) (f2 : Lz 300 z2) (hs : Lz 300 (z1 + z2)) :
 Calls Tryz.prog 91 #[iv n1 A1 l1.length c1, iv n2 A2 l2.length c2] w (RetI (z1 + z2) w) := by
 obtain ⟨W, hW, hbW, K0, K1, K2, hszW⟩ := box3 w #[.bool n1, .slice A1 l1.length c1] 24 #[.bool n2, .slice A2 l2.length c2] 24 #[.bool false, .slice none 0 0] 24
 obtain ⟨x0, x1⟩ := cL2 K0.h
 obtain ⟨y0, y1⟩ := cL2 K1.h
 have h := Add_z n1 n2 A1 A2 c1 c2 l1 l2 z1 z2 W (I1.on hbW).rd (I2.on hbW).rd I1.cap I2.cap (I1.okZ f1.len) (I2.okZ f2.len) hs.len
 clear hs f1 f2
 go_enter Tryz.func91, Tryz.ntmps91
 go_wp2_with first
  | (go_at_call 81; have hmark := b4; refine (must_ok s4 A4 c4 l4 _ _ ⟨r4, n4, k4.isZ⟩).mono ?_; rintro e w5 ⟨s5, A5, c5, l5, rfl, I5, b5⟩; have K5 := (K2.on b4).on b5; obtain ⟨u0, u1⟩ := cL2 K5.h; obtain ⟨v0, v1⟩ := fZ2 K5.h)
  | (go_at_call 71; refine h.mono ?_; rintro e w4 ⟨s4, A4, c4, l4, rfl, k4, n4, r4, b4⟩)
 exact ret_cell rfl rfl rfl (set_blk (set_blk K5.h 0 _) 1 _) (retI_end I5 K5 ((hbW.trans (b4.mono hbW.size)).trans (b5.mono (hbW.trans (b4.mono hbW.size)).size)) (by omega))
theorem sub_z (n1 n2 : Bool) (A1 A2 : Option Addr) (c1 c2 : Nat) (l1 l2 : List Nat) (z1 z2 : Int) (w : World) (I1 : IV w n1 A1 c1 l1 z1) (I2 : IV w n2 A2 c2 l2 z2) (f1 : Lz 300 z1) (f2 : Lz 300 z2) (hs : Lz 300 (z1 - z2)) :
 Calls Tryz.prog 90 #[iv n1 A1 l1.length c1, iv n2 A2 l2.length c2] w (RetI (z1 - z2) w) := by
 obtain ⟨W, hW, hbW, K0, K1, K2, hszW⟩ := box3 w #[.bool n1, .slice A1 l1.length c1] 24 #[.bool n2, .slice A2 l2.length c2] 24 #[.bool false, .slice none 0 0] 24
 obtain ⟨x0, x1⟩ := cL2 K0.h
 obtain ⟨y0, y1⟩ := cL2 K1.h
 have h := Sub_z n1 n2 A1 A2 c1 c2 l1 l2 z1 z2 W (I1.on hbW).rd (I2.on hbW).rd I1.cap I2.cap (I1.okZ f1.len) (I2.okZ f2.len) hs.len
 clear hs f1 f2
 go_enter Tryz.func90, Tryz.ntmps90
 go_wp2_with first
  | (go_at_call 81; have hmark := b4; refine (must_ok s4 A4 c4 l4 _ _ ⟨r4, n4, k4.isZ⟩).mono ?_; rintro e w5 ⟨s5, A5, c5, l5, rfl, I5, b5⟩; have K5 := (K2.on b4).on b5; obtain ⟨u0, u1⟩ := cL2 K5.h; obtain ⟨v0, v1⟩ := fZ2 K5.h)
  | (go_at_call 163; refine h.mono ?_; rintro e w4 ⟨s4, A4, c4, l4, rfl, k4, n4, r4, b4⟩)
 exact ret_cell rfl rfl rfl (set_blk (set_blk K5.h 0 _) 1 _) (retI_end I5 K5 ((hbW.trans (b4.mono hbW.size)).trans (b5.mono (hbW.trans (b4.mono hbW.size)).size)) (by omega))
theorem mul_z (n1 n2 : Bool) (A1 A2 : Option Addr) (c1 c2 : Nat) (l1 l2 : List Nat) (z1 z2 : Int) (w : World) (I1 : IV w n1 A1 c1 l1 z1) (I2 : IV w n2 A2 c2 l2 z2) (f1 : Lz 300 z1) (f2 : Lz 300 z2) (hs : Lz 300 (z1 * z2)) :
 Calls Tryz.prog 87 #[iv n1 A1 l1.length c1, iv n2 A2 l2.length c2] w (RetI (z1 * z2) w) := by
 obtain ⟨W, hW, hbW, K0, K1, K2, hszW⟩ := box3 w #[.bool n1, .slice A1 l1.length c1] 24 #[.bool n2, .slice A2 l2.length c2] 24 #[.bool false, .slice none 0 0] 24
 obtain ⟨x0, x1⟩ := cL2 K0.h
 obtain ⟨y0, y1⟩ := cL2 K1.h
 have h := Mul_z n1 n2 A1 A2 c1 c2 l1 l2 z1 z2 W (I1.on hbW).rd (I2.on hbW).rd I1.cap I2.cap (I1.okZ f1.len) (I2.okZ f2.len) hs.len
 clear hs f1 f2
 go_enter Tryz.func87, Tryz.ntmps87
 go_wp2_with first
  | (go_at_call 81; have hmark := b4; refine (must_ok s4 A4 c4 l4 _ _ ⟨r4, n4, k4.isZ⟩).mono ?_; rintro e w5 ⟨s5, A5, c5, l5, rfl, I5, b5⟩; have K5 := (K2.on b4).on b5; obtain ⟨u0, u1⟩ := cL2 K5.h; obtain ⟨v0, v1⟩ := fZ2 K5.h)
  | (go_at_call 155; refine h.mono ?_; rintro e w4 ⟨s4, A4, c4, l4, rfl, k4, n4, r4, b4⟩)
 exact ret_cell rfl rfl rfl (set_blk (set_blk K5.h 0 _) 1 _) (retI_end I5 K5 ((hbW.trans (b4.mono hbW.size)).trans (b5.mono (hbW.trans (b4.mono hbW.size)).size)) (by omega))
theorem mul_no (n1 n2 : Bool) (A1 A2 : Option Addr) (c1 c2 : Nat) (l1 l2 : List Nat) (z1 z2 : Int) (w : World) (I1 : IV w n1 A1 c1 l1 z1) (I2 : IV w n2 A2 c2 l2 z2) (f1 : Lz 300 z1) (f2 : Lz 300 z2) (hs : ¬ Lz 300 (z1 * z2)) :
 Calls Tryz.prog 87 #[iv n1 A1 l1.length c1, iv n2 A2 l2.length c2] w fun e w' => e = .panicked (failure 3) ∧ Below w.heap.size w w' := by
 obtain ⟨W, hW, hbW, K0, K1, K2, hszW⟩ := box3 w #[.bool n1, .slice A1 l1.length c1] 24 #[.bool n2, .slice A2 l2.length c2] 24 #[.bool false, .slice none 0 0] 24
 obtain ⟨x0, x1⟩ := cL2 K0.h
 obtain ⟨y0, y1⟩ := cL2 K1.h
 have h := Mul_calls n1 n2 A1 A2 c1 c2 l1 l2 W (I1.on hbW).rd (I2.on hbW).rd I1.cap I2.cap
 have k1 := I1.okZ f1.len
 have k2 := I2.okZ f2.len
 have e : mulR n1 l1 n2 l2 = (0, 3) := by
  unfold mulR fitZ
  rw [k1.ok, k2.ok, Bool.and_self, if_pos rfl, k1.val, k2.val, if_neg (fun h => hs ⟨h⟩)]
 rw [e] at h
 clear hs f1 f2 e k1 k2
 go_enter Tryz.func87, Tryz.ntmps87
 go_wp2_with first
  | (go_at_call 81; have hmark := b4; refine (must_no s4 A4 l4.length c4 3 (by decide) _).mono ?_; rintro e w5 ⟨rfl, b5⟩)
  | (go_at_call 155; refine h.mono ?_; rintro e w4 ⟨s4, A4, c4, l4, rfl, k4, n4, r4, b4⟩)
 exact ⟨rfl, rfl, (hbW.trans (b4.mono hbW.size)).trans (b5.mono (hbW.trans (b4.mono hbW.size)).size)⟩
def RetI2 (q r : Int) (w : World) (e : Ending) (w' : World) : Prop :=
 ∃ s1 A1 c1 l1 s2 A2 c2 l2, e = .returned (.tuple #[iv s1 A1 l1.length c1, iv s2 A2 l2.length c2]) ∧ IV w' s1 A1 c1 l1 q ∧ IV w' s2 A2 c2 l2 r ∧ Below w.heap.size w w'
theorem len_zero {w : World} {s : Bool} {A : Option Addr} {c : Nat} {l : List Nat} {z : Int} (I : IV w s A c l z) : ((l.length : Int) == 0) = decide (z = 0) := by
 have h := I.len
 by_cases hz : z = 0
 · subst hz
   rw [Int.natAbs_zero, lim_zero] at h
   rw [h]; rfl
 · have h1 := lim_length_pos (n := z.natAbs) (by omega)
   rw [decide_eq_false hz, beq_eq_false_iff_ne]
   omega
theorem IV.sgn {w : World} {s : Bool} {A : Option Addr} {c : Nat} {l : List Nat} {z : Int} (h : IV w s A c l z) : s = decide (z < 0) := h.isZ.sgn
theorem zero_c (n1 : Bool) (A1 : Option Addr) (c1 : Nat) (l1 : List Nat) (z1 : Int) (w : World) (I1 : IV w n1 A1 c1 l1 z1) :
 Calls Tryz.prog 79 #[iv n1 A1 l1.length c1] w fun e w' => e = .returned (.bool (decide (z1 = 0))) ∧ Below w.heap.size w w' := by
 obtain ⟨W, hW, hbW, K0, hszW⟩ := box1 w #[.bool n1, .slice A1 l1.length c1] 24
 obtain ⟨x0, x1⟩ := cL2 K0.h
 have h := len_zero I1
 generalize decide (z1 = 0) = b at *
 go_enter Tryz.func79, Tryz.ntmps79
 go_wp2_with fail
 go_ret
 exact ⟨rfl, hbW⟩
theorem negative_z (n1 : Bool) (A1 : Option Addr) (c1 : Nat) (l1 : List Nat) (z1 : Int) (w : World) (I1 : IV w n1 A1 c1 l1 z1) (f1 : Lz 300 z1) :
 Calls Tryz.prog 113 #[iv n1 A1 l1.length c1] w (RetI (-z1) w) := by
 obtain ⟨W, hW, hbW, K0, K1, hszW⟩ := box2 w #[.bool n1, .slice A1 l1.length c1] 24 #[.bool false, .slice none 0 0] 24
 obtain ⟨x0, x1⟩ := cL2 K0.h
 have h := sub_z false n1 none A1 0 c1 [] l1 0 z1 W (IV.zero W) (I1.on hbW) (.zero _) f1 (by rw [Int.zero_sub]; exact f1.neg)
 rw [Int.zero_sub] at h
 clear f1
 go_enter Tryz.func113, Tryz.ntmps113
 go_wp2_with first
  | (go_at_call 90; refine h.mono ?_; rintro e w5 ⟨s5, A5, c5, l5, rfl, I5, b5⟩; have K5 := K1.on b5; obtain ⟨u0, u1⟩ := cL2 K5.h; obtain ⟨v0, v1⟩ := fZ2 K5.h)
 exact ret_cell rfl rfl rfl (set_blk (set_blk K5.h 0 _) 1 _) (retI_end I5 K5 (hbW.trans (b5.mono hbW.size)) (by omega))
theorem size_z (n1 : Bool) (A1 : Option Addr) (c1 : Nat) (l1 : List Nat) (z1 : Int) (w : World) (I1 : IV w n1 A1 c1 l1 z1) (f1 : Lz 300 z1) :
 Calls Tryz.prog 101 #[iv n1 A1 l1.length c1] w (RetI (z1.natAbs : Int) w) := by
 obtain ⟨W, hW, hbW, K0, K1, hszW⟩ := box2 w #[.bool n1, .slice A1 l1.length c1] 24 #[.bool false, .slice none 0 0] 24
 obtain ⟨x0, x1⟩ := cL2 K0.h
 have h := negative_z n1 A1 c1 l1 z1 W (I1.on hbW) f1
 have hs := I1.sgn
 cases n1
 · have e : (z1.natAbs : Int) = z1 := by have := of_decide_eq_false hs.symm; omega
   rw [e]
   clear hs e h f1
   obtain ⟨u0, u1⟩ := cL2 K1.h
   obtain ⟨v0, v1⟩ := fZ2 K1.h
   go_enter Tryz.func101, Tryz.ntmps101
   go_wp2_with fail
   exact ret_cell rfl rfl rfl (set_blk (set_blk K1.h 0 _) 1 _) (retI_end (I1.on hbW) K1 hbW (by omega))
 · have e : (z1.natAbs : Int) = -z1 := by have := of_decide_eq_true hs.symm; omega
   rw [e]
   clear hs e f1
   go_enter Tryz.func101, Tryz.ntmps101
   go_wp2_with first
    | (go_at_call 113; refine h.mono ?_; rintro e w5 ⟨s5, A5, c5, l5, rfl, I5, b5⟩; have K5 := K1.on b5; obtain ⟨u0, u1⟩ := cL2 K5.h; obtain ⟨v0, v1⟩ := fZ2 K5.h)
   exact ret_cell rfl rfl rfl (set_blk (set_blk K5.h 0 _) 1 _) (retI_end I5 K5 (hbW.trans (b5.mono hbW.size)) (by omega))
theorem val_odd (x : Nat) (l : List Nat) : val (x :: l) % 2 = x % 2 := by
 show (x + BB * val l) % 2 = x % 2
 have : BB = 2 * 2147483648 := rfl
 rw [this, Nat.mul_assoc]; omega
theorem odd_z (n1 : Bool) (A1 : Option Addr) (c1 : Nat) (l1 : List Nat) (z1 : Int) (w : World) (I1 : IV w n1 A1 c1 l1 z1) :
 Calls Tryz.prog 154 #[iv n1 A1 l1.length c1] w fun e w' => e = .returned (.bool (decide (z1 % 2 = 1))) ∧ Below w.heap.size w w' := by
 obtain ⟨W, hW, hbW, K0, hszW⟩ := box1 w #[.bool n1, .slice A1 l1.length c1] 24
 have hv := I1.isZ.val
 have hz := zero_c n1 A1 c1 l1 z1 W (I1.on hbW)
 rcases l1 with _ | ⟨x, l1⟩
 · have hz0 : z1 = 0 := by
    have : val [] = 0 := rfl
    omega
   rw [decide_eq_true hz0] at hz
   rw [show decide (z1 % 2 = 1) = false by rw [hz0]; rfl]
   obtain ⟨x0, x1⟩ := cL2 K0.h
   clear hv hz0 I1
   simp only [List.length_nil] at hW hz x1
   go_enter Tryz.func154, Tryz.ntmps154
   go_wp2_with first
    | (go_at_call 79; refine hz.mono ?_; rintro e w5 ⟨rfl, b5⟩)
   go_ret
   exact ⟨rfl, hbW.trans (b5.mono hbW.size)⟩
 · have hne : z1 ≠ 0 := by
    intro h0
    have := len_zero I1
    rw [decide_eq_true h0, beq_iff_eq, List.length_cons] at this
    omega
   rw [decide_eq_false hne] at hz
   obtain ⟨b, o, rfl⟩ := I1.rd.head (Nat.succ_pos _)
   have hcc : ∀ W', Below w.heap.size w W' → W'.cell? ⟨b, o, none⟩ = some (.int .u32 (x : Int)) := fun W' h => by
    obtain ⟨b', o', e, hc⟩ := (I1.on h).rd.cell 0 (Nat.succ_pos _)
    cases e
    rwa [Nat.add_zero, List.getD_cons_zero] at hc
   have hx32 : x < 4294967296 := (words_cons.1 I1.rd.words).1
   have hq : (((x : Int) % 2) == 1) = decide (z1 % 2 = 1) := by
    have h1 := val_odd x l1
    rw [hv] at h1
    by_cases h2 : z1 % 2 = 1
    · rw [decide_eq_true h2, beq_iff_eq]; omega
    · rw [decide_eq_false h2, beq_eq_false_iff_ne]; omega
   obtain ⟨r, r1, r2, r3⟩ : ∃ r : Nat, (x : Int) % 2 = (r : Int) ∧ Hid (r = x % 2) ∧ r < 2 := ⟨x % 2, by omega, rfl, by omega⟩
   have r4 : (x : Int).tmod 2 = (r : Int) := by rw [Int.tmod_eq_emod_of_nonneg (by omega)]; exact r1
   rw [r1] at hq
   generalize decide (z1 % 2 = 1) = q at *
   have hl : 0 < (x :: l1).length := Nat.succ_pos _
   clear hv hne I1
   generalize (x :: l1).length = n at *
   obtain ⟨x0, x1⟩ := cL2 K0.h
   go_enter Tryz.func154, Tryz.ntmps154
   go_wp2_with first
    | (go_at_call 79; refine hz.mono ?_; rintro e w5 ⟨rfl, b5⟩; have b6 := hbW.trans (b5.mono hbW.size); have hc6 := hcc _ b6; obtain ⟨u0, u1⟩ := cL2 (K0.on b5).h)
   go_ret
   exact ⟨rfl, b6⟩
theorem near_cmp (n : Int) {d : Int} (hd : 0 < d) : nearP n d = if (0 < cmpZ (n % d) (d - n % d) ∨ cmpZ (n % d) (d - n % d) = 0 ∧ (n / d) % 2 = 1) then n / d + 1 else n / d := by
 rw [near_by n hd]
 have e1 : (n % d > d - n % d) ↔ 0 < cmpZ (n % d) (d - n % d) := by
  unfold cmpZ
  split
  · omega
  · split <;> omega
 have e2 : (n % d = d - n % d) ↔ cmpZ (n % d) (d - n % d) = 0 := by
  unfold cmpZ
  split
  · omega
  · split <;> omega
 simp only [e1, e2]
theorem assert_failure (x : Int) (W : World) : (Instr.typeAssert (.iface 149 (.agg #[.int .i64 x])) 20 149 true).run Tryz.prog W = .ok (.tuple #[.agg #[.int .i64 x], .bool true]) W := by
 rfl
theorem catch_idle (p : Addr) (w : World) :
 CallsD Tryz.prog 169 #[.pointer (some p)] .returning w fun e u' w' => e = .returned (.tuple #[]) ∧ u' = .returning ∧ w' = w := by
 refine callsD_of_wpS Tryz.func169 rfl fun c₀ cs hu => ?_
 apply wpS_seq
 apply wpS_region
 simp [wpOpsS, go_sem, recoverD, hu, Tryz.ntmps169, Exit.thenS]
 apply wpS_seq
 apply wpS_region
 simp [wpOpsS, go_sem, Exit.thenS]
 refine wpS_cond (t := false) (by simp [Act.eval, Array.replicate]) ?_
 simp only [Bool.false_eq_true, if_false]
 refine wpS_of_wp (wp_skip ?_)
 cases c₀
 simp_all [bodyPostS, results, Tryz.results169, Exit.thenS]
theorem catch_failure (g : Nat) (x : Int) (older : List PanicEntry) (c : Value) (w : World) (h2 : w.heap[g]? = some (.cells #[c] 30 (0, 0))) (hc : ∀ (x : Nat), c ≠ .int .u32 (x : Int)) :
 CallsD Tryz.prog 169 #[.pointer (some ⟨g, 0, none⟩)] (.panicking ({ v := .iface 149 (.agg #[.int .i64 x]), recovered := false } :: older)) w fun e u' w' =>
  e = .returned (.tuple #[]) ∧ u' = .panicking ({ v := .iface 149 (.agg #[.int .i64 x]), recovered := true } :: older) ∧
   w'.heap[g]? = some (.cells #[.int .i64 x] 30 (0, 0)) ∧ Nudge g w w' := by
 refine callsD_of_wpS Tryz.func169 rfl fun c₀ cs hu => ?_
 apply wpS_seq
 apply wpS_region
 simp [wpOpsS, go_sem, recoverD, hu, Tryz.ntmps169, Exit.thenS]
 refine wpS_of_wp ?_
 have hta := assert_failure x
 have x2 := cell_at h2 0 c rfl
 have y2 := frozen_at h2 0
 have hl2 := (Array.getElem?_eq_some_iff.1 h2).1
 simp only [Array.replicate_succ, Array.replicate_zero, List.push_toArray, List.nil_append, List.cons_append]
 go_wp2_with fail
 cases c₀
 simp (config := { zetaDelta := true }) only [bodyPostS, results, Tryz.results169]
 refine ⟨trivial, _, rfl, .tuple #[], by simp [go_sem], rfl, rfl, ?_, ?_⟩
 · exact (Below.heap_alloc _ _ _ (by simpa [World.setCell] using hl2)).trans (set_blk h2 0 _)
 · exact (Nudge.of_below (.refl _ w) (Nat.le_of_lt hl2)).set (Nat.le_refl g) ⟨h2⟩ (fun i x h => by
    rcases i with _ | i
    · exact hc x (by simpa using h)
    · simp at h) 0 _ |>.trans (.of_below ((Below.refl _ _).alloc (Nat.le_refl _) _) (by simpa [World.setCell] using Nat.le_of_lt hl2))
def Went (er : Int) (e : Ending) : Prop := (er = 0 → e = .returned (.tuple #[])) ∧ (er ≠ 0 → e = .panicked (failure er))
theorem guard_calls (G : Nat) (caps : Array Value) (hG : ∀ (args : Array Value) (w : World), (callFunc G args).run Tryz.prog w = .ok (.enter G args) w) (w : World) (er : Int) (Q : World → Prop)
 (h : Calls Tryz.prog G caps (w.alloc (.cells #[.int .i64 0] 30)) fun e w' => Went er e ∧ Blk w' w.heap.size #[.int .i64 0] 30 ∧ w.heap.size < w'.heap.size ∧ Q w') :
 Calls Tryz.prog 98 #[.func (.func G) #[] caps] w fun e w' => e = .returned (.int .i64 er) ∧ ∃ w1, Q w1 ∧ Nudge w.heap.size w1 w' := by
 have hmf := mkf
 by_cases h0 : er = 0
 · subst h0
   go_enter_defers Tryz.func98, Tryz.ntmps98
   go_wp2_with first
    | (refine h.mono ?_; rintro e w' ⟨hw, hy, hlt, hQ⟩; obtain rfl := hw.1 rfl; have x0 := cell_at hy.h 0 _ rfl; have y0 := frozen_at hy.h 0)
   have hx1 : (w'.setCell ⟨w.heap.size, 0, none⟩ (.int .i64 0)).heap[w.heap.size]? = some (.cells #[.int .i64 0] 30 (0, 0)) := set_blk hy.h 0 _
   have hn : Nudge w.heap.size w' (w'.setCell ⟨w.heap.size, 0, none⟩ (.int .i64 0)) := (Nudge.of_below (.refl _ w') (Nat.le_of_lt hlt)).set (Nat.le_refl _) hy (fun i x h => by
    rcases i with _ | i <;> simp at h) 0 _
   generalize w'.setCell ⟨w.heap.size, 0, none⟩ (.int .i64 0) = X at *
   refine leaves_cons (f := 169) (args := #[.pointer (some ⟨w.heap.size, 0, none⟩)]) (by simp) (by simp [go_sem]) ?_
   refine (catch_idle ⟨w.heap.size, 0, none⟩ _).mono ?_
   rintro e u' w'' ⟨rfl, rfl, rfl⟩
   have v0 := cell_at hx1 0 _ rfl
   refine ⟨.int .i64 0, ?_, rfl, w', hQ, hn⟩
   simp [results, Tryz.results98, go_sem, v0]
 · go_enter_defers Tryz.func98, Tryz.ntmps98
   go_wp2_with first
    | (refine h.mono ?_; rintro e w' ⟨hw, hy, hlt, hQ⟩; obtain rfl := hw.2 h0)
   refine leaves_cons (f := 169) (args := #[.pointer (some ⟨w.heap.size, 0, none⟩)]) (by simp) (by simp [go_sem]) ?_
   refine (catch_failure w.heap.size er [] _ _ hy.h (by intro x h; cases h)).mono ?_
   rintro e u' w'' ⟨rfl, rfl, hx1, hn⟩
   have v0 := cell_at hx1 0 _ rfl
   refine ⟨.int .i64 er, ?_, rfl, w', hQ, hn⟩
   simp [results, Tryz.results98, go_sem, v0]
end Dc
end Go.Proofs.YtjghnghceeijeaaGreatDoor
