/-
  The plain arithmetic of magnitudes: a list of 32-bit words, the least first, and the number that it stands for. Nothing of Go.
  What the walks over the package num say of memory: a slice that reads as a list of words.
  'for i, x := range a.limbs() { .. }': the iterator's contract, and the law of the loop over it (a body that always goes on).
  A region that draws its order, inside a fence, in a round or not: a quiet head, and a tail that waits for all of it. One walk of the text's order serves every order.
  Memory of a call's own: steps that turn the call's own cells alone; boxes; rows of words.
  The small functions of the package num: contracts by a walk.
  The walks over the functions of num that loop over limbs (printed by gen.py).
  The walks over the functions of num that loop over limbs (printed by gen.py).
  The walks over the functions of num that loop over limbs (printed by gen.py).
-/
import Derived.Test.YtlhmbbpkhahbeaaDoorProg
import Derived.Below
import Derived.WalkKit
import Derived.OwnWalk
import Derived.Deep.QuietTactic
import Derived.BigQuiet
import Derived.Lib.Hide
import Derived.WalkSmall
import Derived.WalkSpells
import Derived.RangeFuncNested
import Derived.RangeFuncBound
import Derived.RangeFuncCalls
import Derived.RangeFuncLeaves
import Derived.Shelf.Abstract
import Derived.Shelf.RegionOpen
import Derived.OwnWalkIn
import Derived.TacticsInMore
import Derived.LoopNIn
import Derived.LoopIn
import Derived.Sort.BigQuietIn
import Derived.StillTail
import Derived.Maps.AppendAt
import Derived.Laws.MakeOwn
import Derived.Laws.NewBlocks
namespace Go.Proofs.YtlhmbbpkhahbeaaDoor
namespace Nm

/-- the base -/
abbrev BB : Nat := 4294967296

/-- the number of a list of words -/
def val : List Nat → Nat
  | [] => 0
  | x :: r => x + BB * val r

/-- all are words -/
def Words (l : List Nat) : Prop := ∀ x ∈ l, x < BB

/-- the words of a number, without a word 0 on top -/
def lim (n : Nat) : List Nat :=
  if _h : n = 0 then [] else n % BB :: lim (n / BB)
termination_by n
decreasing_by exact Nat.div_lt_self (by omega) (by decide)

theorem lim_zero : lim 0 = [] := by rw [lim]; simp
theorem lim_pos {n : Nat} (h : 0 < n) : lim n = n % BB :: lim (n / BB) := by rw [lim]; simp [show n ≠ 0 by omega]

theorem words_nil : Words [] := fun _ h => by cases h
theorem words_cons {x : Nat} {l : List Nat} : Words (x :: l) ↔ x < BB ∧ Words l := by simp [Words]
theorem words_append {a b : List Nat} : Words (a ++ b) ↔ Words a ∧ Words b := by
  simp only [Words, List.mem_append]
  exact ⟨fun h => ⟨fun x hx => h x (.inl hx), fun x hx => h x (.inr hx)⟩, fun h x hx => hx.elim (h.1 x) (h.2 x)⟩
theorem words_take {l : List Nat} (h : Words l) (k : Nat) : Words (l.take k) := fun x hx => h x (List.mem_of_mem_take hx)
theorem words_drop {l : List Nat} (h : Words l) (k : Nat) : Words (l.drop k) := fun x hx => h x (List.mem_of_mem_drop hx)
theorem words_get {l : List Nat} (h : Words l) (i : Nat) (hi : i < l.length) : l[i] < BB := h _ (List.getElem_mem hi)
theorem words_getD {l : List Nat} (h : Words l) (i : Nat) : l.getD i 0 < BB := by
  rw [List.getD_eq_getElem?_getD]
  by_cases hi : i < l.length
  · simp only [List.getElem?_eq_getElem hi, Option.getD_some]; exact h _ (List.getElem_mem hi)
  · simp [List.getElem?_eq_none (by omega : l.length ≤ i)]
theorem words_replicate (k : Nat) : Words (List.replicate k 0) := fun x hx => by
  rw [List.mem_replicate] at hx; simp [hx.2]
theorem words_set {l : List Nat} (h : Words l) (i x : Nat) (hx : x < BB) : Words (l.set i x) := fun y hy => by
  rcases List.mem_or_eq_of_mem_set hy with h' | h'
  · exact h y h'
  · rw [h']; exact hx

theorem words_lim (n : Nat) : Words (lim n) := by
  induction n using Nat.strongRecOn with
  | _ n ih =>
    by_cases h : n = 0
    · subst h; rw [lim_zero]; exact words_nil
    · rw [lim_pos (by omega)]
      exact words_cons.2 ⟨Nat.mod_lt _ (by decide), ih _ (Nat.div_lt_self (by omega) (by decide))⟩

theorem val_lim (n : Nat) : val (lim n) = n := by
  induction n using Nat.strongRecOn with
  | _ n ih =>
    by_cases h : n = 0
    · subst h; rw [lim_zero]; rfl
    · rw [lim_pos (by omega)]
      simp only [val]
      rw [ih _ (Nat.div_lt_self (by omega) (by decide))]
      exact Nat.mod_add_div n BB

theorem val_append (a b : List Nat) : val (a ++ b) = val a + BB ^ a.length * val b := by
  induction a with
  | nil => simp [val]
  | cons x a ih =>
    simp only [List.cons_append, val, ih, List.length_cons, Nat.pow_succ]
    rw [Nat.mul_add, Nat.add_assoc, ← Nat.mul_assoc, Nat.mul_comm BB (BB ^ a.length)]

theorem val_replicate (k : Nat) : val (List.replicate k 0) = 0 := by
  induction k with
  | zero => rfl
  | succ k ih => simp [List.replicate_succ, val, ih]

theorem val_lt {l : List Nat} (h : Words l) : val l < BB ^ l.length := by
  induction l with
  | nil => simp [val]
  | cons x l ih =>
    have ⟨h1, h2⟩ := words_cons.1 h
    have := ih h2
    simp only [val, List.length_cons, Nat.pow_succ]
    have h3 : BB * val l + BB ≤ BB ^ l.length * BB := by
      rw [← Nat.mul_succ, Nat.mul_comm (BB ^ l.length)]; exact Nat.mul_le_mul (Nat.le_refl _) this
    omega

theorem val_snoc (l : List Nat) (x : Nat) : val (l ++ [x]) = val l + BB ^ l.length * x := by
  rw [val_append]; simp [val]

/-- no word 0 on top -/
def Canon (l : List Nat) : Prop := Words l ∧ (∀ h : l ≠ [], l.getLast h ≠ 0)

theorem canon_nil : Canon [] := ⟨words_nil, fun h => absurd rfl h⟩
theorem canon_cons {x : Nat} {l : List Nat} (h : Canon (x :: l)) : Canon l := by
  refine ⟨(words_cons.1 h.1).2, fun hl => ?_⟩
  have := h.2 (by simp)
  rwa [List.getLast_cons hl] at this

theorem val_pos_of_canon {l : List Nat} (h : Canon l) (hl : l ≠ []) : 0 < val l := by
  induction l with
  | nil => exact absurd rfl hl
  | cons x l ih =>
    by_cases e : l = []
    · subst e
      have := h.2 (by simp)
      simp only [List.getLast_singleton] at this
      simp only [val]; omega
    · have := ih (canon_cons h) e
      simp only [val]
      have := Nat.mul_pos (show 0 < BB by decide) this
      omega

theorem lim_val {l : List Nat} (h : Canon l) : lim (val l) = l := by
  induction l with
  | nil => exact lim_zero
  | cons x l ih =>
    have hp := val_pos_of_canon h (by simp)
    have hx := (words_cons.1 h.1).1
    rw [lim_pos hp]
    simp only [val]
    rw [Nat.add_mul_mod_self_left, Nat.mod_eq_of_lt hx, Nat.add_mul_div_left _ _ (by decide), Nat.div_eq_of_lt hx, Nat.zero_add, ih (canon_cons h)]

theorem canon_lim (n : Nat) : Canon (lim n) := by
  refine ⟨words_lim n, ?_⟩
  induction n using Nat.strongRecOn with
  | _ n ih =>
    intro h
    by_cases h0 : n = 0
    · subst h0; exact absurd lim_zero h
    · by_cases h1 : n / BB = 0
      · have e : lim n = [n % BB] := by rw [lim_pos (by omega), h1, lim_zero]
        simp only [e, List.getLast_singleton]
        have := Nat.mod_add_div n BB
        rw [h1] at this; omega
      · have e : lim n = n % BB :: lim (n / BB) := lim_pos (by omega)
        have hne : lim (n / BB) ≠ [] := by rw [lim_pos (Nat.pos_of_ne_zero h1)]; simp
        simp only [e]
        rw [List.getLast_cons hne]
        exact ih _ (Nat.div_lt_self (by omega) (by decide)) hne

theorem lim_inj {a b : Nat} (h : lim a = lim b) : a = b := by rw [← val_lim a, h, val_lim]
theorem lim_nil {n : Nat} : lim n = [] ↔ n = 0 := ⟨fun h => lim_inj (h.trans lim_zero.symm), fun h => by rw [h, lim_zero]⟩
theorem lim_length_pos {n : Nat} (h : 0 < n) : 0 < (lim n).length := by rw [lim_pos h]; simp

theorem lt_pow_length (n : Nat) : n < BB ^ (lim n).length := by
  have := val_lt (words_lim n); rwa [val_lim] at this
theorem length_le_of_lt {n k : Nat} (h : n < BB ^ k) : (lim n).length ≤ k := by
  induction k generalizing n with
  | zero => simp at h; subst h; simp [lim_zero]
  | succ k ih =>
    by_cases h0 : n = 0
    · subst h0; simp [lim_zero]
    · rw [lim_pos (by omega)]
      have : n / BB < BB ^ k := by rw [Nat.div_lt_iff_lt_mul (by decide)]; rwa [Nat.pow_succ] at h
      have := ih this
      simp; omega
theorem length_le_iff {n k : Nat} : (lim n).length ≤ k ↔ n < BB ^ k :=
  ⟨fun h => Nat.lt_of_lt_of_le (lt_pow_length n) (Nat.pow_le_pow_right (by decide) h), length_le_of_lt⟩
theorem length_mono {a b : Nat} (h : a ≤ b) : (lim a).length ≤ (lim b).length :=
  length_le_of_lt (Nat.lt_of_le_of_lt h (lt_pow_length b))
theorem pow_le_of_length {n k : Nat} (h : k < (lim n).length) : BB ^ k ≤ n := by
  by_cases hh : n < BB ^ k
  · have := length_le_of_lt hh; omega
  · omega

/-- words without the words 0 on top -/
def trim (l : List Nat) : List Nat := lim (val l)

theorem trim_canon {l : List Nat} (h : Canon l) : trim l = l := lim_val h
theorem trim_snoc_zero (l : List Nat) : trim (l ++ [0]) = trim l := by unfold trim; rw [val_snoc]; simp
theorem lim_snoc {l : List Nat} {x : Nat} (hw : Words l) (hx : x < BB) (h0 : x ≠ 0) : lim (val l + BB ^ l.length * x) = l ++ [x] := by
  rw [← val_snoc]
  refine lim_val ⟨words_append.2 ⟨hw, fun y hy => by simp at hy; omega⟩, fun h => ?_⟩
  simp; exact h0

/-- what is left of a list when its words from k on are 0 -/
theorem val_take_of_zero {l : List Nat} {k : Nat} (hz : ∀ i, k ≤ i → l.getD i 0 = 0) : val (l.take k) = val l := by
  induction l generalizing k with
  | nil => simp
  | cons x l ih =>
    cases k with
    | zero =>
      have hx : x = 0 := by simpa using hz 0 (by omega)
      have hl : ∀ i, l.getD i 0 = 0 := fun i => by simpa using hz (i + 1) (by omega)
      have := @ih 0 (fun i _ => hl i)
      simp only [List.take_zero, val] at this ⊢
      rw [hx, ← this, Nat.mul_zero]
    | succ k =>
      simp only [List.take_succ_cons, val]
      rw [ih (fun i hi => by simpa using hz (i + 1) (by omega))]

/-- the trimmed list is the part that the loop of trim keeps -/
theorem trim_eq_take {l : List Nat} (hw : Words l) {k : Nat} (hk : k ≤ l.length) (hz : ∀ i, k ≤ i → l.getD i 0 = 0) (ht : k = 0 ∨ l.getD (k - 1) 0 ≠ 0) : trim l = l.take k := by
  unfold trim
  rw [← val_take_of_zero hz]
  refine lim_val ⟨words_take hw k, fun h => ?_⟩
  have hk0 : k ≠ 0 := by rintro rfl; simp at h
  have hkl : 0 < l.length := by omega
  have hlast := ht.resolve_left hk0
  rw [List.getLast_eq_getElem]
  have hlen : (l.take k).length = k := by simp [hk]
  simp only [hlen, List.getElem_take]
  rw [List.getD_eq_getElem?_getD, List.getElem?_eq_getElem (by omega)] at hlast
  simpa using hlast

theorem trim_length_le {l : List Nat} (hw : Words l) : (trim l).length ≤ l.length := length_le_of_lt (val_lt hw)

/-- comparing -/
theorem val_lt_of_length {a b : List Nat} (ha : Words a) (hb : Canon b) (h : a.length < b.length) : val a < val b := by
  have h1 := val_lt ha
  have h2 := pow_le_of_length (n := val b) (k := a.length) (by rw [lim_val hb]; exact h)
  omega

theorem val_drop_lt {a b : List Nat} (ha : Words a) (_hb : Words b) (hl : a.length = b.length) {k : Nat} (hk : k < a.length)
    (heq : a.drop (k + 1) = b.drop (k + 1)) (hlt : a.getD k 0 < b.getD k 0) : val a < val b := by
  have hk2 : k < b.length := by omega
  have ea : a = a.take k ++ (a[k] :: a.drop (k + 1)) := by simp
  have eb : b = b.take k ++ (b[k] :: b.drop (k + 1)) := by simp
  simp only [List.getD_eq_getElem?_getD, List.getElem?_eq_getElem hk, List.getElem?_eq_getElem hk2, Option.getD_some] at hlt
  rw [ea, eb, val_append, val_append, heq]
  have h1 := val_lt (words_take ha k)
  have hla : (a.take k).length = k := by simp; omega
  have hlb : (b.take k).length = k := by simp; omega
  rw [hla] at h1 ⊢
  rw [hlb]
  simp only [val]
  have h3 : BB ^ k * (a[k] + BB * val (b.drop (k + 1))) + BB ^ k ≤ BB ^ k * (b[k] + BB * val (b.drop (k + 1))) := by
    rw [← Nat.mul_succ]; exact Nat.mul_le_mul (Nat.le_refl _) (by omega)
  omega

end Nm
end Go.Proofs.YtlhmbbpkhahbeaaDoor
namespace Go.Proofs.YtlhmbbpkhahbeaaDoor
namespace Nm
open Go.RowKit

/-- the slice at A reads in w as the words l -/
structure Rd (w : World) (A : Option Addr) (l : List Nat) : Prop where
  cell : ∀ i, i < l.length → ∃ b o, A = some ⟨b, o, none⟩ ∧ w.cell? ⟨b, o + i, none⟩ = some (.int .u32 (l.getD i 0 : Nat))
  words : Words l
  small : l.length ≤ 35184372088832

theorem Rd.get {w : World} {A : Option Addr} {l : List Nat} (h : Rd w A l) (i : Nat) (hi : i < l.length) :
    ∃ (b o x : Nat), A = some ⟨b, o, none⟩ ∧ w.cell? ⟨b, o + i, none⟩ = some (.int .u32 (x : Int)) ∧ Hid (l.getD i 0 = x) ∧ x < 4294967296 := by
  obtain ⟨b, o, e, hc⟩ := h.cell i hi
  exact ⟨b, o, _, e, hc, rfl, words_getD h.words i⟩

theorem Rd.nil (w : World) (A : Option Addr) : Rd w A [] := ⟨fun i h => absurd h (Nat.not_lt_zero _), words_nil, by simp⟩

theorem Rd.below {n : Nat} {w w' : World} {A : Option Addr} {l : List Nat} (h : Rd w A l) (hb : Below n w w') (hn : n = w.heap.size) : Rd w' A l :=
  ⟨fun i hi => by
    obtain ⟨b, o, e, hc⟩ := h.cell i hi
    exact ⟨b, o, e, (hb.cell (p := ⟨b, o + i, none⟩) (by rw [hn]; exact World.block_lt_of_cell? w _ hc)).trans hc⟩, h.words, h.small⟩

theorem Rd.same {w w' : World} {A : Option Addr} {l : List Nat} (h : Rd w A l) (hb : ∀ a v, w.cell? a = some v → w'.cell? a = some v) : Rd w' A l :=
  ⟨fun i hi => by obtain ⟨b, o, e, hc⟩ := h.cell i hi; exact ⟨b, o, e, hb _ _ hc⟩, h.words, h.small⟩

theorem Rd.take {w : World} {A : Option Addr} {l : List Nat} (h : Rd w A l) (k : Nat) : Rd w A (l.take k) := by
  refine ⟨fun i hi => ?_, words_take h.words k, by have := h.small; simp; omega⟩
  have hi' : i < k ∧ i < l.length := by rw [List.length_take] at hi; omega
  obtain ⟨b, o, e, hc⟩ := h.cell i hi'.2
  exact ⟨b, o, e, by rw [hc]; simp [List.getD_eq_getElem?_getD, hi'.1]⟩

theorem trim_pre {l : List Nat} (hw : Words l) : ∃ k, k ≤ l.length ∧ trim l = l.take k := by
  induction hn : l.length generalizing l with
  | zero => obtain rfl : l = [] := List.length_eq_zero_iff.1 hn; exact ⟨0, by simp, by simp [trim, val, lim_zero]⟩
  | succ n ih =>
    have hne : l ≠ [] := by rintro rfl; simp at hn
    have e := List.dropLast_concat_getLast hne
    by_cases h0 : l.getLast hne = 0
    · rw [h0] at e
      have hw' : Words l.dropLast := by rw [List.dropLast_eq_take]; exact words_take hw _
      obtain ⟨k, hk, ht⟩ := ih hw' (by simp [hn])
      have hk' : k ≤ n := by simpa [hn] using hk
      refine ⟨k, by omega, ?_⟩
      rw [← e, trim_snoc_zero, ht, List.take_append_of_le_length (by simp [hn]; omega)]
    · exact ⟨l.length, by omega, by rw [List.take_length, trim_canon ⟨hw, fun _ => h0⟩]⟩

theorem Rd.trim {w : World} {A : Option Addr} {l : List Nat} (h : Rd w A l) : Rd w A (trim l) := by
  obtain ⟨k, _, e⟩ := trim_pre h.words
  rw [e]; exact h.take k

/-- '(nat).trim' -/
theorem trim_calls (A : Option Addr) (c : Nat) (l : List Nat) (w : World) (hA : Rd w A l) (hl : l.length ≤ c) :
    Calls Tryd.prog 101 #[.slice A l.length c] w fun e w' => e = .returned (.slice A (trim l).length c) ∧ w = w' := by
  have hs := hA.small
  go_enter Tryd.func101, Tryd.ntmps101
  go_wp2
  go_loop [3] (fun n => ∃ k : Nat, k ≤ l.length ∧ n = .int .i64 k ∧ Hid (∀ i, k ≤ i → l.getD i 0 = 0)) (fun n => (intOf n).toNat)
  case atStart => exact ⟨l.length, Nat.le_refl _, rfl, fun i hi => by rw [List.getD_eq_getElem?_getD, List.getElem?_eq_none (by omega)]; rfl⟩
  case round =>
    obtain ⟨k, hk, rfl, hz⟩ := hrel
    by_cases h0 : 0 < k
    · obtain ⟨b, o, x, rfl, hc, hx, hxb⟩ := hA.get (k - 1) (by omega)
      by_cases hx0 : x = 0
      · subst hx0
        go_wp2
        go_round
        case rel => 
          refine ⟨k - 1, by omega, by go_num, fun i hi => ?_⟩
          by_cases e : i = k - 1
          · rw [e]; exact hx.out
          · exact hz.out i (by omega)
        case measure => simp [intOf]; omega
      · have hx1 : ((x : Int) == 0) = false := by simp; omega
        go_wp2
        go_ret
        rw [trim_eq_take hA.words hk hz.out (.inr (by rw [hx.out]; exact hx0))]
        exact ⟨by simp [Nat.min_eq_left hk], rfl⟩
    · obtain rfl : k = 0 := by omega
      go_wp2
      go_ret
      rw [trim_eq_take hA.words hk hz.out (.inl rfl)]
      exact ⟨by simp, rfl⟩

end Nm
end Go.Proofs.YtlhmbbpkhahbeaaDoor
namespace Go.Proofs.YtlhmbbpkhahbeaaDoor
namespace Nm
open Go.RowKit Go.Shelf
attribute [local go_sem] Oper.semAt_some

/-- a function value that hands the words l, with their numbers, to whatever keeps what lies below n₀ -/
def LimbSeq (F : Fence) (n : Nat) (P : Program) (gf : Nat) (lb : Array Value) (l : List Nat) (n₀ : Nat) (w : World) : Prop :=
  ∀ (lp : Nat) (J : Nat → World → Prop) (W : World), Below w.heap.size w W → AbidesFrom W.heap.size J →
    (∀ k W1, J k W1 → k < l.length → YieldAt F (n - 1) P lp #[.int .i64 (k : Int), .int .u32 (l.getD k 0 : Nat)] W1 fun e W' =>
      e = .returned (.bool true) ∧ J (k + 1) W' ∧ Below n₀ W1 W') →
    J 0 W →
    CallsIn F n P gf (#[.func (.yield lp) #[] #[]] ++ lb) W fun e W' => (∃ v, e = .returned v) ∧ J l.length W'

/-- how the body of a round is left -/
def limbPost (B n₀ : Nat) (I : World → Prop) (W : World) : Exit → Act → World → Prop
  | .normal, _, W' => KeepsFrom B W W' ∧ Below n₀ W W' ∧ I W'
  | _, _, _ => False


variable {F : Fence} {n : Nat} {P : Program}

/-- the loop over such a value, outside every round -/
theorem wpIn_limbs {g : Operand} {ps : Array Tmp} {assign body : Code} {Q : Exit → Act → World → Prop} {a : Act} {w : World} {l : List Nat} {n₀ : Nat}
    (hro : F.round = none) (h1 : 1 ≤ n) {gf : Nat} {lb : Array Value} (hg : a.eval g = .func (.func gf) #[] lb) (hFg : F.fn gf) (eg : ∀ args w, (callFunc gf args).run P w = .ok (.enter gf args) w)
    {w0 : World} (hseq : LimbSeq F (n - 1) P gf lb l n₀ w0) (hn₀ : n₀ ≤ w.heap.size) (hb0 : Below w0.heap.size w0 w) (hps : ps.size = 2)
    (I : Nat → World → Prop) (hI : OwnFrom w.heap.size I) (h0 : I 0 w) (Ax : Nat → Act → World → Prop) (hAx : ∀ k a', OwnFrom w.heap.size (fun (_ : Unit) W => Ax k a' W))
    (hassign : ∀ (k : Nat) (W : World) (K : Act → World → Prop), I k W → k < l.length → (∀ a' W', KeepsFrom w.heap.size W W' → Below n₀ W W' → I k W' → Ax k a' W' → K a' W') →
      assign.wpIn (F.inRound (w.heap.size + 1)) (n - 1 - 1) P (Exit.then K (fun _ _ _ => False)) { tmps := (ps.zip #[.int .i64 (k : Int), .int .u32 (l.getD k 0 : Nat)]).foldl (fun t (p, v) => t.setIfInBounds p v) a.tmps, defers := [] } W)
    (hbody : ∀ (k : Nat) (a' : Act) (W : World), (∃ r, W.heap[w.heap.size + 1]? = some (.loop r)) → I k W → Ax k a' W → k < l.length → body.wpIn (F.inRound (w.heap.size + 1)) (n - 1 - 1) P (limbPost w.heap.size n₀ (I (k + 1)) W) a' W)
    (hdone : ∀ (D : Nat) (W : World), w.heap.size ≤ D → I l.length W → W.heap[D]? = some (.deferred (some [])) → Q .normal { a with defers := { target := .collected D, args := #[] } :: a.defers } W) :
    (Code.rangeFunc g ps assign body).wpIn F n P Q a w := by
  have hKb : ∀ (W : World) (l : Nat) (o o' : Obj), w.heap.size ≤ l → W.heap[l]? = some o → o.isCells = false → o.isWalk = false → Below n₀ W (W.putObj l o') := belowK_b hn₀
  refine wpIn_rangeFunc ?_
  intro fn hfn
  rw [hro]
  obtain ⟨rec, hrec⟩ : ∃ rec : LoopState → Option Code → Loop, rec = fun st pe => { state := st, pending := pe, fn, tmps := a.tmps, params := ps, assign, body, defers := w.heap.size } := ⟨_, rfl⟩
  obtain ⟨W1, hW1⟩ : ∃ W1, (w.alloc (.deferred (some []))).alloc (.loop (rec .ready none)) = W1 := ⟨_, rfl⟩
  have hL1 : W1.heap[w.heap.size + 1]? = some (.loop (rec .ready none)) := by
    rw [← hW1]; have := World.alloc_heap_new (w.alloc (.deferred (some []))) (.loop (rec .ready none)); rwa [World.size_alloc] at this
  have hK1 : W1.heap[w.heap.size]? = some (.deferred (some [])) := by
    rw [← hW1]; exact (Below.heap_alloc _ _ _ (by simp)).trans (World.alloc_heap_new w _)
  have hI1 : I 0 W1 := by rw [← hW1]; exact hI.alloc _ (hI.alloc _ h0)
  have hb1 : Below w0.heap.size w0 W1 := by
    rw [← hW1]; exact hb0.trans ((((Below.refl _ w).alloc (Nat.le_refl _) _).alloc (by simp) _).mono hb0.size)
  refine ⟨w.heap.size + 1, [{ target := .collected w.heap.size, args := #[] }], W1, { target := .fn (.func gf) lb, args := #[.func (.yield (w.heap.size + 1)) #[] #[]] }, W1, gf,
    #[.func (.yield (w.heap.size + 1)) #[] #[]] ++ lb, W1, ?_, ?_, ?_, ?_, fun _ => h1, ?_⟩
  · rw [← hW1, hrec]; exact run_enterLoop_outer _ _ _ _ _
  · simp only [resolve, hg]
    simp [go_sem]
  · intro f' hf'; simp [Target.leads] at hf'; subst hf'; exact hFg
  · simp [invoke, go_sem, eg]
  · have hnw : ∀ {A B : World} {row : Option Nat}, (∀ r, row = some r → W1.heap.size ≤ r ∧ ∃ o : Obj, A.heap[r]? = some o ∧ o.isWalk = true) → (∀ r, row = some r → w.heap.size ≤ r ∧ ∃ o : Obj, A.heap[r]? = some o ∧ o.isCells = false) :=
      fun hr r e => by obtain ⟨hB, o, ho, hw⟩ := hr r e; exact ⟨by rw [← hW1] at hB; simp at hB; omega, o, ho, Obj.not_cells_of_walk hw⟩
    refine (hseq (w.heap.size + 1)
      (fun k W => I k W ∧ W.heap[w.heap.size + 1]? = some (.loop (rec .ready none)) ∧ W.heap[w.heap.size]? = some (.deferred (some [])))
      W1 hb1
      (fun s A B row hs hg' hr => ⟨hI s A B row hs.1 hg' (hnw (B := B) hr), (grownBy_keeps hg' (fun r e => (hr r e).2) hs.2.1 rfl).trans hs.2.1, (grownBy_keeps hg' (fun r e => (hr r e).2) hs.2.2 rfl).trans hs.2.2⟩)
      ?_ ⟨hI1, hL1, hK1⟩).mono ?_
    · rintro k W ⟨hi, hl, hk⟩ hlen
      have hlt : w.heap.size + 1 < W.heap.size := (Array.getElem?_eq_some_iff.1 hl).1
      have hy := run_yield (P := P) (args := #[.int .i64 (k : Int), .int .u32 (l.getD k 0 : Nat)]) hl (by rw [hrec]; exact hps.symm)
      rw [hrec] at hy
      refine ⟨fn, _, assign, body, hy, roundIn_of_wpIn hfn (hassign k W _ hi hlen ?_)⟩
      clear hy
      intro a' Wa hkfa hkpa hia hax
      replace hl := hkfa.same _ _ (by omega) hl rfl
      replace hk := hkfa.same _ _ (Nat.le_refl _) hk rfl
      replace hlt : w.heap.size + 1 < Wa.heap.size := (Array.getElem?_eq_some_iff.1 hl).1
      replace hi := hia
      clear hia
      revert hkpa hkfa
      generalize W = Wb
      intro hkfa hkpa
      obtain ⟨W, rfl⟩ : ∃ W, W = Wa := ⟨_, rfl⟩
      refine ⟨_, run_beginRound hl (by rw [hrec]), ?_⟩
      have hl2 : (W.putObj (w.heap.size + 1) (.loop { rec .ready none with state := .busy })).heap[w.heap.size + 1]? = some (.loop { rec .ready none with state := .busy }) := World.putObj_heap_same hlt
      have hk2 : (W.putObj (w.heap.size + 1) (.loop { rec .ready none with state := .busy })).heap[w.heap.size]? = some (.deferred (some [])) := (World.putObj_heap_other (by omega)).trans hk
      have hw2 : Below n₀ W (W.putObj (w.heap.size + 1) (.loop { rec .ready none with state := .busy })) := hKb _ _ _ _ (by omega) hl rfl rfl
      refine wpIn_mono (hbody k a' _ ⟨_, hl2⟩ (hI.putObj _ hi (by omega) hl rfl) ((hAx k a').putObj (s := ()) _ hax (by omega) hl rfl) hlen) ?_
      rintro e a3 W3 hp
      cases e with
      | normal =>
        obtain ⟨hk3, hkp3, hi3⟩ := hp
        have hl3 := hk3.same _ _ (by omega) hl2 rfl
        have hr := run_endRound (P := P) none hl3
        rw [hrec] at hr hl3
        refine ⟨_, _, hr, rfl, ⟨hI.putObj _ hi3 (by omega) hl3 rfl, ?_, ?_⟩, hkpa.trans ((hw2.trans hkp3).trans (hKb _ _ _ _ (by omega) hl3 rfl rfl))⟩
        · rw [hrec]; exact World.putObj_heap_same (Array.getElem?_eq_some_iff.1 hl3).1
        · exact (World.putObj_heap_other (by omega)).trans (hk3.same _ _ (Nat.le_refl _) hk2 rfl)
      | ret => exact hp.elim
      | exit id => exact hp.elim
      | goto t => exact hp.elim
      | panic ch => exact hp.elim
      | outgrown => exact hp.elim
    · rintro e W2 ⟨⟨v, rfl⟩, hi, hl, hk⟩
      exact ⟨none, _, by have := run_endLoop (P := P) hl (by rw [hrec]; simp); rw [hrec] at this; exact this, hdone _ _ (Nat.le_refl _) (hI.putObj _ hi (by omega) hl rfl) ((World.putObj_heap_other (by omega)).trans hk)⟩

/-- .. where the loop's variables lie in the frame -/
theorem wpIn_limbs_p {g : Operand} {ps : Array Tmp} {assign body : Code} {Q : Exit → Act → World → Prop} {a : Act} {w : World} {l : List Nat} {n₀ : Nat}
    (hro : F.round = none) (h1 : 1 ≤ n) {gf : Nat} {lb : Array Value} (hg : a.eval g = .func (.func gf) #[] lb) (hFg : F.fn gf) (eg : ∀ args w, (callFunc gf args).run P w = .ok (.enter gf args) w)
    {w0 : World} (hseq : LimbSeq F (n - 1) P gf lb l n₀ w0) (hn₀ : n₀ ≤ w.heap.size) (hb0 : Below w0.heap.size w0 w) (hps : ps.size = 2)
    (I : Nat → World → Prop) (hI : OwnFrom w.heap.size I) (h0 : I 0 w)
    (hround : ∀ (k : Nat) (W : World), k < l.length → 
      assign.wpIn (F.inRound (w.heap.size + 1)) (n - 1 - 1) P (Exit.then (fun a' W' => W' = W ∧ ∀ W2, I k W2 → body.wpIn (F.inRound (w.heap.size + 1)) (n - 1 - 1) P (limbPost w.heap.size n₀ (I (k + 1)) W2) a' W2) (fun _ _ _ => False)) { tmps := (ps.zip #[.int .i64 (k : Int), .int .u32 (l.getD k 0 : Nat)]).foldl (fun t (p, v) => t.setIfInBounds p v) a.tmps, defers := [] } W)
    (hdone : ∀ (D : Nat) (W : World), w.heap.size ≤ D → I l.length W → W.heap[D]? = some (.deferred (some [])) → Q .normal { a with defers := { target := .collected D, args := #[] } :: a.defers } W) :
    (Code.rangeFunc g ps assign body).wpIn F n P Q a w :=
  wpIn_limbs hro h1 hg hFg eg hseq hn₀ hb0 hps I hI h0 (fun k a' _ => ∀ W2, I k W2 → body.wpIn (F.inRound (w.heap.size + 1)) (n - 1 - 1) P (limbPost w.heap.size n₀ (I (k + 1)) W2) a' W2) (fun _ _ _ _ _ _ hs _ _ => hs)
    (fun k W K hi hk hK => wpIn_mono (hround k W hk) (fun e a' W' h => by
      cases e with
      | normal => obtain ⟨rfl, h⟩ := h; exact hK _ _ (KeepsFrom.refl _ _) (Below.refl _ _) hi h
      | ret => exact h.elim
      | exit id => exact h.elim
      | goto t => exact h.elim
      | panic ch => exact h.elim
      | outgrown => exact h.elim)) (fun k a' W _ hi e hk => e W hi) hdone

/-- the loop over such a value, in a round of the loop l₀ -/
theorem wpIn_limbs_in {g : Operand} {ps : Array Tmp} {assign body : Code} {Q : Exit → Act → World → Prop} {a : Act} {w : World} {l : List Nat} {n₀ : Nat}
    {l₀ : Nat} {r₀ : Loop} (hro : F.round = some l₀) (hl₀ : w.heap[l₀]? = some (.loop r₀)) (h1 : 1 ≤ n) {gf : Nat} {lb : Array Value} (hg : a.eval g = .func (.func gf) #[] lb) (hFg : F.fn gf) (eg : ∀ args w, (callFunc gf args).run P w = .ok (.enter gf args) w)
    {w0 : World} (hseq : LimbSeq F (n - 1) P gf lb l n₀ w0) (hn₀ : n₀ ≤ w.heap.size) (hb0 : Below w0.heap.size w0 w) (hps : ps.size = 2)
    (I : Nat → World → Prop) (hI : OwnFrom w.heap.size I) (h0 : I 0 w)
    (hround : ∀ (k : Nat) (W : World), k < l.length →
      assign.wpIn (F.inRound w.heap.size) (n - 1 - 1) P (Exit.then (fun a' W' => W' = W ∧ ∀ W2, I k W2 → body.wpIn (F.inRound w.heap.size) (n - 1 - 1) P (limbPost w.heap.size n₀ (I (k + 1)) W2) a' W2) (fun _ _ _ => False)) { tmps := (ps.zip #[.int .i64 (k : Int), .int .u32 (l.getD k 0 : Nat)]).foldl (fun t (p, v) => t.setIfInBounds p v) a.tmps, defers := [] } W)
    (hdone : ∀ (W : World), I l.length W → Q .normal a W) :
    (Code.rangeFunc g ps assign body).wpIn F n P Q a w := by
  have hKb : ∀ (W : World) (l : Nat) (o o' : Obj), w.heap.size ≤ l → W.heap[l]? = some o → o.isCells = false → o.isWalk = false → Below n₀ W (W.putObj l o') := belowK_b hn₀
  refine wpIn_rangeFunc ?_
  intro fn hfn
  rw [hro]
  obtain ⟨rec, hrec⟩ : ∃ rec : LoopState → Option Code → Loop, rec = fun st pe => { state := st, pending := pe, fn, tmps := a.tmps, params := ps, assign, body, defers := r₀.defers } := ⟨_, rfl⟩
  obtain ⟨W1, hW1⟩ : ∃ W1, w.alloc (.loop (rec .ready none)) = W1 := ⟨_, rfl⟩
  have hL1 : W1.heap[w.heap.size]? = some (.loop (rec .ready none)) := by rw [← hW1]; exact World.alloc_heap_new w _
  have hI1 : I 0 W1 := by rw [← hW1]; exact hI.alloc _ h0
  have hb1 : Below w0.heap.size w0 W1 := by
    rw [← hW1]; exact hb0.trans (((Below.refl _ w).alloc (Nat.le_refl _) _).mono hb0.size)
  refine ⟨w.heap.size, [], W1, { target := .fn (.func gf) lb, args := #[.func (.yield w.heap.size) #[] #[]] }, W1, gf,
    #[.func (.yield w.heap.size) #[] #[]] ++ lb, W1, ?_, ?_, ?_, ?_, fun _ => h1, ?_⟩
  · rw [← hW1, hrec]; exact run_enterLoop_inner hl₀ _ _ _ _ _
  · simp only [resolve, hg]
    simp [go_sem]
  · intro f' hf'; simp [Target.leads] at hf'; subst hf'; exact hFg
  · simp [invoke, go_sem, eg]
  · have hnw : ∀ {A B : World} {row : Option Nat}, (∀ r, row = some r → W1.heap.size ≤ r ∧ ∃ o : Obj, A.heap[r]? = some o ∧ o.isWalk = true) → (∀ r, row = some r → w.heap.size ≤ r ∧ ∃ o : Obj, A.heap[r]? = some o ∧ o.isCells = false) :=
      fun hr r e => by obtain ⟨hB, o, ho, hw⟩ := hr r e; exact ⟨by rw [← hW1] at hB; simp at hB; omega, o, ho, Obj.not_cells_of_walk hw⟩
    refine (hseq w.heap.size
      (fun k W => I k W ∧ W.heap[w.heap.size]? = some (.loop (rec .ready none)))
      W1 hb1
      (fun s A B row hs hg' hr => ⟨hI s A B row hs.1 hg' (hnw (B := B) hr), (grownBy_keeps hg' (fun r e => (hr r e).2) hs.2 rfl).trans hs.2⟩)
      ?_ ⟨hI1, hL1⟩).mono ?_
    · rintro k W ⟨hi, hl⟩ hlen
      have hlt : w.heap.size < W.heap.size := (Array.getElem?_eq_some_iff.1 hl).1
      have hy := run_yield (P := P) (args := #[.int .i64 (k : Int), .int .u32 (l.getD k 0 : Nat)]) hl (by rw [hrec]; exact hps.symm)
      rw [hrec] at hy
      refine ⟨fn, _, assign, body, hy, roundIn_of_wpIn hfn (wpIn_mono (hround k W hlen) (fun e a' W' h => ?_))⟩
      clear hy
      cases e with
      | ret => exact h.elim
      | exit id => exact h.elim
      | goto t => exact h.elim
      | panic ch => exact h.elim
      | outgrown => exact h.elim
      | normal => ?_
      obtain ⟨hWW, hbody⟩ := h
      rw [hWW]
      clear hWW
      refine ⟨_, run_beginRound hl (by rw [hrec]), ?_⟩
      have hl2 : (W.putObj w.heap.size (.loop { rec .ready none with state := .busy })).heap[w.heap.size]? = some (.loop { rec .ready none with state := .busy }) := World.putObj_heap_same hlt
      have hw2 : Below n₀ W (W.putObj w.heap.size (.loop { rec .ready none with state := .busy })) := hKb _ _ _ _ (Nat.le_refl _) hl rfl rfl
      refine wpIn_mono (hbody _ (hI.putObj _ hi (Nat.le_refl _) hl rfl)) ?_
      rintro e a3 W3 hp
      cases e with
      | normal =>
        obtain ⟨hk3, hkp3, hi3⟩ := hp
        have hl3 := hk3.same _ _ (Nat.le_refl _) hl2 rfl
        have hr := run_endRound (P := P) none hl3
        rw [hrec] at hr hl3
        refine ⟨_, _, hr, rfl, ⟨hI.putObj _ hi3 (Nat.le_refl _) hl3 rfl, ?_⟩, ((hw2.trans hkp3).trans (hKb _ _ _ _ (Nat.le_refl _) hl3 rfl rfl))⟩
        rw [hrec]; exact World.putObj_heap_same (Array.getElem?_eq_some_iff.1 hl3).1
      | ret => exact hp.elim
      | exit id => exact hp.elim
      | goto t => exact hp.elim
      | panic ch => exact hp.elim
      | outgrown => exact hp.elim
    · rintro e W2 ⟨⟨v, rfl⟩, hi, hl⟩
      exact ⟨none, _, by have := run_endLoop (P := P) hl (by rw [hrec]; simp); rw [hrec] at this; exact this, hdone _ (hI.putObj _ hi (Nat.le_refl _) hl rfl)⟩

set_option maxRecDepth 100000 in
set_option maxHeartbeats 2000000 in
/-- the closure of '(nat).limbs' -/
theorem limbs1_in (n : Nat) (Bs : Nat) (A : Option Addr) (c : Nat) (l : List Nat) (n₀ : Nat) (w : World) (hBs : w.cell? ⟨Bs, 0, none⟩ = some (.slice A l.length c)) (hA : Rd w A l)
    (_hn₀ : n₀ ≤ w.heap.size) (hlow : ∀ b o, A = some ⟨b, o, none⟩ → 0 < l.length → b < n₀) :
    LimbSeq Fence.wide n Tryd.prog 122 #[.pointer (some ⟨Bs, 0, none⟩)] l n₀ w := by
  intro lp J W hW hJ hY h0
  have hBs' : W.cell? ⟨Bs, 0, none⟩ = some (.slice A l.length c) := (hW.cell (p := ⟨Bs, 0, none⟩) (World.block_lt_of_cell? w _ hBs)).trans hBs
  have hA' : Rd W A l := hA.below hW rfl
  have hsm := hA.small
  have hwd := hA.words
  clear hBs hA
  refine callsIn_of_wp Tryd.func122 rfl trivial ?_ rfl
  simp only [Tryd.ntmps122, List.size_toArray, List.length_cons, List.length_nil, Nat.reduceAdd, Nat.reduceSub, Array.replicate_succ, Array.replicate_zero, List.push_toArray, List.append_toArray, List.nil_append, List.cons_append]
  gi_wp2
  gi_loopw [7] (fun i wr => ∃ k : Nat, k ≤ l.length ∧ i = .int .i64 k ∧ J k wr ∧ Below n₀ W wr)
    (fun i _ => l.length - (intOf i).toNat)
  case atStart => exact ⟨0, Nat.zero_le _, rfl, h0, Below.refl _ _⟩
  case round =>
    obtain ⟨k, hk, rfl, hJs, hnx⟩ := hrel
    by_cases hlt : k < l.length
    · obtain ⟨b, o, x, rfl, hcx, hx, hxb⟩ := hA'.get k hlt
      replace hcx := (hnx.cell (p := ⟨b, o + k, none⟩) (hlow b o rfl (by omega))).trans hcx
      obtain ⟨fn, tmps, assign, body, hy, hR⟩ := hY k wr hJs hlt
      rw [hx.out] at hy
      gi_wp2
      refine ⟨fun h => by simp [Fence.wide] at h, hR.mono ?_⟩
      rintro e W3 ⟨rfl, hJ3, hk3⟩
      gi_wp2
      go_roundw
      case rel => exact ⟨k + 1, by omega, by simp, hJ3, hnx.trans hk3⟩
      case measure => simp [intOf]; omega
    · obtain rfl : k = l.length := by omega
      gi_wp2
      go_end0
      exact ⟨⟨_, rfl⟩, hJs⟩

/-- '(nat).limbs' -/
theorem limbs_calls (A : Option Addr) (c k : Nat) (w : World) :
    Calls Tryd.prog 100 #[.slice A k c] w fun e w' => e = .returned (.func (.func 122) #[] #[.pointer (some ⟨w.heap.size, 0, none⟩)]) ∧ w' = w.alloc (.cells #[.slice A k c] 79) := by
  go_enter Tryd.func100, Tryd.ntmps100
  go_wp2
  go_ret
  exact ⟨rfl, rfl⟩

end Nm
end Go.Proofs.YtlhmbbpkhahbeaaDoor
namespace Go.Proofs.YtlhmbbpkhahbeaaDoor
namespace Nm
open Go.RowKit Go.Shelf Go.BigFrame

section
variable {F : Fence} {n : Nat} {P : Program} {ops : Array Oper} {md : Region.Mode} {C : World → Prop}

/-- no statement that defers -/
def noDefer (ops : Array Oper) : Bool := ops.all fun o => match o.op with | .defer _ => false | _ => true
theorem noDefer_spec (h : noDefer ops = true) {i : Nat} {o : Oper} (hi : ops[i]? = some o) : ∀ c, o.op ≠ .defer c := by
  intro c hc
  obtain ⟨hlt, he⟩ := Array.getElem?_eq_some_iff.1 hi
  have := (Array.all_eq_true.1 h) i hlt
  rw [he, hc] at this
  cases this

theorem semAt_same {o : Oper} (h : ∀ c, o.op ≠ .defer c) (r : Option Nat) (ρ : Operand → Value) : o.semAt r ρ = execOp ρ o := by
  cases r with
  | none => simp [Oper.semAt]
  | some l => exact Oper.semAt_some l _ _ h

theorem wpIn_of_quiet' {o : Oper} {a : Act} {K : Act → Prop} {K' : Act → World → Prop} {Q' : Exit → Act → World → Prop} {w : World} (hnd : ∀ c, o.op ≠ .defer c) (hw : C w) (h : ∀ a w', C w' → K a → K' a w')
    (ha : o.askedIn F P a C) (hh : o.quietIn F n P a C K) : o.wpIn F n P a w K' Q' := by
  obtain ⟨v, h1, h2⟩ := hh
  have h3 := h1 w hw
  unfold Oper.quietAtIn at h3
  unfold Oper.wpIn
  refine ⟨ha w hw, ?_⟩
  rw [semAt_same hnd]
  generalize (execOp a.eval o).run P w = r at *
  cases r with
  | ok x w' =>
    cases x <;> simp only [Oper.quietUponIn] at h3 <;> simp only [Oper.uponIn]
    case value u =>
      obtain ⟨e1, e2⟩ := h3
      rw [e1, e2]
      exact h _ _ hw h2
    case skip =>
      obtain ⟨e1, e2⟩ := h3
      rw [e1, ← e2]
      exact h _ _ hw h2
    case enter f args =>
      obtain ⟨e1, hd, hc⟩ := h3
      rw [e1]
      exact ⟨hd, hc.mono fun e w'' ⟨he, hw''⟩ => by subst he; exact h _ _ hw'' h2⟩
  | halt x w' => simp only [Oper.quietUponIn] at h3

theorem wpOpIn_of_quiet' {i : Nat} {a : Act} {K : Act → Prop} {K' : Act → World → Prop} {Q' : Exit → Act → World → Prop} {w : World} (hnd : noDefer ops = true) (hC : C w) (h : ∀ a w', C w' → K a → K' a w')
    (hh : qOpIn F n P ops C i K a) : wpOpIn F n P ops Q' i K' a w := by
  unfold qOpIn at hh
  unfold wpOpIn
  split
  · rename_i ho; simp only [ho] at hh; exact h _ _ hC hh
  · rename_i o ho
    simp only [ho] at hh
    obtain ⟨ha, hh⟩ := hh
    split
    · rename_i hw; simp only [hw, if_true] at hh; exact wpIn_of_quiet' (noDefer_spec hnd ho) hC h ha hh
    · rename_i hw; simp only [hw] at hh; exact ⟨ha w hC, h _ _ hC hh⟩

/-- all of it quiet -/
theorem wpAnyIn_of_quiet' {Q : Act → Prop} {Q' : Exit → Act → World → Prop} (hnd : noDefer ops = true) (hQ : ∀ a w, C w → Q a → Q' .normal a w) : ∀ (fuel : Nat) (listed : Array Bool) (a : Act) (w : World), C w →
    wpAnyQIn F n P md ops C Q fuel listed a → wpAnyIn F n P md ops Q' fuel listed a w
  | 0, _, _, _, hw, h => ⟨h.1, hQ _ _ hw h.2⟩
  | fuel + 1, _, _, _, hw, h => ⟨fun h0 => hQ _ _ hw (h.1 h0), fun i hi => wpOpIn_of_quiet' hnd hw (fun a' w' hw' => wpAnyIn_of_quiet' hnd hQ fuel _ a' w' hw') (h.2 i hi)⟩

theorem wpIn_region_all {id : Nat} {Q : Exit → Act → World → Prop} {a : Act} {w : World} {l : List Oper} (hm : P.follows .mixedOrders = true) (hnd : noDefer l.toArray = true) (hB : Region.lexB .any l.toArray = true)
    (h : wpQuietIn F n P l.toArray (fun w' => ∃ n, w' = w.drewN n) (fun a' => ∀ m, Q .normal a' (w.drewN m)) l a) : (Code.region id l.toArray true).wpIn F n P Q a w := by
  simp only [Region.lexB, Bool.and_eq_true] at hB
  refine wpIn_region_any hm (wpAnyIn_of_quiet' (C := fun w' => ∃ n, w' = w.drewN n) (Q := fun a' => ∀ m, Q .normal a' (w.drewN m)) hnd (fun _ w' hw' h => by obtain ⟨m, rfl⟩ := hw'; exact h m) _ _ _ _ ⟨1, rfl⟩ ?_)
  have := wpAnyQIn_lex (F := F) (n := n) (C := fun w' => ∃ n, w' = w.drewN n) (md := .any) hB.1 l 0 (Array.replicate l.toArray.size false) a (by simp) (by simpa using hB.2) h
  simpa using this

/-- whatever order is picked among the first nn operations -/
def wpAnyLQ (F : Fence) (n : Nat) (P : Program) (md : Region.Mode) (ops : Array Oper) (C : World → Prop) (nn : Nat) (L : Array Bool → Act → Prop) : Nat → Array Bool → Act → Prop
  | 0, listed, a => L listed a
  | f + 1, listed, a =>
    Region.ready md ops listed ≠ [] ∧ ∀ i ∈ Region.ready md ops listed, i < nn ∧ qOpIn F n P ops C i (wpAnyLQ F n P md ops C nn L f (listed.setIfInBounds i true)) a

theorem wpAnyIn_of_headQ {nn g : Nat} {L : Array Bool → Act → Prop} {Q' : Exit → Act → World → Prop} (hnd : noDefer ops = true) (hL : ∀ listed a w, C w → L listed a → wpAnyIn F n P md ops Q' g listed a w) :
    ∀ (f : Nat) (listed : Array Bool) (a : Act) (w : World), C w → wpAnyLQ F n P md ops C nn L f listed a → wpAnyIn F n P md ops Q' (f + g) listed a w
  | 0, listed, a, w, hw, h => by rw [Nat.zero_add]; exact hL _ _ _ hw h
  | f + 1, listed, a, w, hw, h => by
    rw [show f + 1 + g = (f + g) + 1 by omega]
    exact ⟨fun h0 => absurd h0 h.1, fun i hi => wpOpIn_of_quiet' hnd hw (fun a' w' hw' h' => wpAnyIn_of_headQ hnd hL f _ a' w' hw' h') (h.2 i hi).2⟩

theorem wpAnyLQ_first {nn i : Nat} {oi : Oper} {v : Value} {L : Array Bool → Act → Prop} (hi : ops[i]? = some oi) (hsel : ∀ (j : Nat) (o : Oper) cs b, ops[j]? = some o → o.op ≠ .select cs b)
    (hs : Region.sinkB md ops nn = true) (hc : Region.chainB md ops nn = true) (hn : nn < ops.size) (hin : i < nn)
    (hdone : ∀ listed a, L listed a → ∀ j ∈ Region.ready md ops listed, nn ≤ j) :
    ∀ (f : Nat) (listed : Array Bool) (a : Act), HeadInv md ops nn listed →
      (∀ j oj, ops[j]? = some oj → j ≠ i → listed.getD j true = false → (∀ e ∈ oj.after, Region.binds md e = true → e.on ≠ i) → oi.apart ops oj = true) →
      i ∈ Region.ready md ops listed → YieldsQuiet F n P ops C oi v a →
      wpAnyLQ F n P md ops C nn L f (listed.setIfInBounds i true) (a.put oi.dst v) → wpAnyLQ F n P md ops C nn L (f + 1) listed a := by
  intro f
  induction f with
  | zero =>
    intro listed a inv _ hr hy H
    have hun := (mem_ready.1 hr).1
    refine ⟨fun h => (by rw [h] at hr; cases hr), fun j hj => ?_⟩
    have hjn : j < nn := by
      rcases Nat.lt_or_ge j nn with h | h
      · exact h
      · exact absurd hj (tail_waits hs hc hn inv _ i rfl hin hun j h)
    refine ⟨hjn, ?_⟩
    by_cases hji : j = i
    · subst hji; exact hy.qOpIn hi H
    · have := hdone _ _ H j (ready_mono hj hji)
      omega
  | succ f ih =>
    intro listed a inv hfree hr hy H
    have hun := (mem_ready.1 hr).1
    refine ⟨fun h => (by rw [h] at hr; cases hr), fun j hj => ?_⟩
    have hjn : j < nn := by
      rcases Nat.lt_or_ge j nn with h | h
      · exact h
      · exact absurd hj (tail_waits hs hc hn inv _ i rfl hin hun j h)
    refine ⟨hjn, ?_⟩
    by_cases hji : j = i
    · subst hji; exact hy.qOpIn hi H
    · have h1 := (H.2 j (ready_mono hj hji)).2
      obtain ⟨hjun, oj, hoj, hall⟩ := mem_ready.1 hj
      have hnot : ∀ e ∈ oj.after, Region.binds md e = true → e.on ≠ i := fun e he hb heq => by
        have h1 := hall e he hb
        rw [heq, getD_both hun] at h1
        cases h1
      have h2 := qOpIn_put hoj (hfree j oj hoj hji hjun hnot) (fun cs b => hsel i oi cs b hi) (fun cs b => hsel j oj cs b hoj) hy h1
      have hfree' : ∀ k ok, ops[k]? = some ok → k ≠ i → (listed.setIfInBounds j true).getD k true = false →
          (∀ e ∈ ok.after, Region.binds md e = true → e.on ≠ i) → oi.apart ops ok = true := fun k ok hk hki hun hno => by
        refine hfree k ok hk hki ?_ hno
        by_cases hjk : j = k
        · subst hjk; exact hjun
        · rw [getD_set_ne true hjk] at hun; exact hun
      refine qOpIn_mono (fun a' h3 => ih (listed.setIfInBounds j true) a' (inv.set hj hjn) hfree' (ready_mono hr (Ne.symm hji)) h3.1 ?_) h2
      rw [Array.setIfInBounds_comm _ _ hji]
      exact h3.2

theorem wpAnyIn_of_seq {Q' : Exit → Act → World → Prop} : ∀ (l : List Oper) (k : Nat) (listed : Array Bool) (a : Act) (w : World), (∀ j, l[j]? = ops[k + j]?) →
    Region.seqB md ops l.length k listed = true → wpListIn F n P ops Q' l a w → wpAnyIn F n P md ops Q' l.length listed a w
  | [], _, _, _, _, _, hB, h => ⟨by simpa [Region.seqB] using hB, h⟩
  | o :: l, k, listed, a, w, hl, hB, h => by
    have h0 : ops[k]? = some o := by simpa using (hl 0).symm
    simp only [List.length_cons, Region.seqB, Bool.and_eq_true, decide_eq_true_eq] at hB
    refine ⟨fun h1 => (by rw [hB.1] at h1; cases h1), fun i hi => ?_⟩
    rw [hB.1] at hi
    have hik : i = k := by simpa using hi
    subst hik
    have hw : wpOpIn F n P ops Q' i (wpListIn F n P ops Q' l) a w := by unfold wpOpIn; simp only [h0]; exact h
    exact wpOpIn_mono (fun a' w' h' => wpAnyIn_of_seq l (i + 1) _ a' w' (fun j => by have := hl (j + 1); simpa [Nat.add_assoc, Nat.add_comm 1 j] using this) hB.2 h') hw

theorem wpAnyLQ_lex {nn g : Nat} {Lq : Act → Prop} (hsel : Region.noSelect ops = true) (hs : Region.sinkB md ops nn = true) (hc : Region.chainB md ops nn = true) (hn : nn < ops.size) :
    ∀ (l : List Oper) (k : Nat) (listed : Array Bool) (a : Act), (∀ j, j < l.length → l[j]? = ops[k + j]?) → k + l.length = nn → HeadInv md ops nn listed →
    Region.lexHead md ops g l.length k listed = true → wpQuietIn F n P ops C Lq l a →
    wpAnyLQ F n P md ops C nn (fun listed' a' => Region.seqB md ops g nn listed' = true ∧ Lq a') l.length listed a
  | [], k, listed, a, _, hk, _, hB, h => by
    have : k = nn := by simpa using hk
    subst this
    exact ⟨by simpa [Region.lexHead] using hB, h⟩
  | o :: l, k, listed, a, hl, hk, inv, hB, h => by
    have h0 : ops[k]? = some o := by simpa using (hl 0 (by simp)).symm
    simp only [List.length_cons, Region.lexHead, Bool.and_eq_true] at hB
    obtain ⟨⟨hr, hf⟩, hB'⟩ := hB
    have hkn : k < nn := by simp only [List.length_cons] at hk; omega
    have hr' : k ∈ Region.ready md ops listed := by simpa using hr
    have hst : qOpIn F n P ops C k (wpQuietIn F n P ops C Lq l) a := by unfold qOpIn; simp only [h0]; exact h
    obtain ⟨v, hy, hK⟩ := yieldsQuiet_of_qOpIn h0 hst
    exact wpAnyLQ_first h0 (Region.noSelect_spec hsel) hs hc hn hkn (fun listed' a' hL => seqB_ready hL.1) l.length listed a inv (Region.free_spec h0 hf) hr' hy
      (wpAnyLQ_lex hsel hs hc hn l (k + 1) _ _ (fun j hj => by have := hl (j + 1) (by simp; omega); simpa [Nat.add_assoc, Nat.add_comm 1 j] using this) (by simp only [List.length_cons] at hk; omega) (inv.set hr' hkn) hB' hK)

/-- a quiet head of nn operations; the others come up one behind the other when all of them have -/
theorem wpIn_region_tail {id : Nat} {Q : Exit → Act → World → Prop} {a : Act} {w : World} {l : List Oper} (nn : Nat) (hm : P.follows .mixedOrders = true) (hnd : noDefer l.toArray = true) (hB : Region.lexTailB .any l.toArray nn = true)
    (h : wpQuietIn F n P l.toArray (fun w' => ∃ n, w' = w.drewN n) (fun a' => ∀ m, wpListIn F n P l.toArray Q (l.drop nn) a' (w.drewN m)) (l.take nn) a) : (Code.region id l.toArray true).wpIn F n P Q a w := by
  simp only [Region.lexTailB, Bool.and_eq_true, decide_eq_true_eq] at hB
  obtain ⟨⟨⟨⟨hsel, hn⟩, hs⟩, hc⟩, hlex⟩ := hB
  have hn' : nn < l.length := by simpa using hn
  have htl : (l.take nn).length = nn := by simp; omega
  have hdl : (l.drop nn).length = l.toArray.size - nn := by simp
  have inv0 : HeadInv .any l.toArray nn (Array.replicate l.toArray.size false) :=
    ⟨by simp, fun j oj _ hl => (by rw [getD_replicate_false] at hl; cases hl), fun t _ ht => getD_in (by simpa using ht) (getD_replicate_false _ _)⟩
  have H := wpAnyLQ_lex (F := F) (n := n) (P := P) (C := fun w' => ∃ n, w' = w.drewN n) (md := .any) (g := l.toArray.size - nn) hsel hs hc hn (l.take nn) 0 _ a (fun j hj => by
    have hj' : j < nn := by rw [htl] at hj; exact hj
    simp [hj']) (by simpa using htl) inv0 (by rw [htl]; exact hlex) h
  refine wpIn_region_any hm ?_
  have := wpAnyIn_of_headQ (F := F) (n := n) (P := P) (C := fun w' => ∃ n, w' = w.drewN n) (Q' := Q) (g := l.toArray.size - nn) hnd (fun listed a' w' hw' hL => by
    obtain ⟨m, rfl⟩ := hw'
    have := wpAnyIn_of_seq (F := F) (n := n) (P := P) (md := .any) (Q' := Q) (l.drop nn) nn listed a' (w.drewN m) (fun j => by simp [List.getElem?_drop]) (by rw [hdl]; exact hL.1) (hL.2 m)
    rwa [hdl] at this) _ _ _ _ (⟨1, rfl⟩ : ∃ k, { w with drawn := w.drawn + 1 } = w.drewN k) H
  rw [htl, show nn + (l.toArray.size - nn) = l.toArray.size by omega] at this
  exact this
end

end Nm
end Go.Proofs.YtlhmbbpkhahbeaaDoor
namespace Go.Proofs.YtlhmbbpkhahbeaaDoor
namespace Nm
open Go.RowKit

/-- from W to W': cells at or above n₀ alone have turned, blocks may have been laid -/
structure Stp (n₀ : Nat) (W W' : World) : Prop where
  keeps : KeepsOthers W W'
  below : Below n₀ W W'

theorem KeepsOthers.drewN (W : World) (m : Nat) : KeepsOthers W (W.drewN m) := ⟨Nat.le_refl _, fun _ _ h _ => h⟩
theorem Stp.refl (n₀ : Nat) (W : World) : Stp n₀ W W := ⟨KeepsOthers.refl W, Below.refl n₀ W⟩
theorem Stp.trans {n₀ : Nat} {A B C : World} (h : Stp n₀ A B) (k : Stp n₀ B C) : Stp n₀ A C := ⟨h.keeps.trans k.keeps, h.below.trans k.below⟩
theorem Stp.drewN {n₀ : Nat} {A B : World} (h : Stp n₀ A B) (m : Nat) : Stp n₀ A (B.drewN m) := h.trans ⟨KeepsOthers.drewN B m, below_drewN (Below.refl n₀ B) m⟩
theorem Stp.set {n₀ : Nat} {A B : World} (h : Stp n₀ A B) {p : Addr} (hp : n₀ ≤ p.block) (v : Value) : Stp n₀ A (B.setCell p v) := h.trans ⟨KeepsOthers.setCell B p v, (Below.refl n₀ B).setCell hp v⟩
theorem Stp.alloc {n₀ : Nat} {A B : World} (h : Stp n₀ A B) (hB : n₀ ≤ B.heap.size) (o : Obj) : Stp n₀ A (B.alloc o) := h.trans ⟨KeepsOthers.alloc B o, (Below.refl n₀ B).alloc hB o⟩
theorem Stp.grown {n₀ : Nat} {A B C : World} {row : Option Nat} (h : Stp n₀ A B) (hg : B.grownBy C row) (hB : n₀ ≤ B.heap.size) (hr : ∀ k, row = some k → n₀ ≤ k ∧ ∀ o, B.heap[k]? = some o → o.isCells = true) : Stp n₀ A C :=
  h.trans ⟨KeepsOthers.of_grownBy hg (fun j o e ho => (hr j e).2 o ho), (Below.refl n₀ B).grown hg hB (fun k e => (hr k e).1)⟩
theorem Stp.from {n₀ : Nat} {A B : World} (h : Stp n₀ A B) (b : Nat) : KeepsFrom b A B := h.keeps.from b
theorem Stp.size {n₀ : Nat} {A B : World} (h : Stp n₀ A B) : A.heap.size ≤ B.heap.size := h.below.size

theorem boxed_drewN {W : World} {B : Nat} {t : TypeId} {v : Value} (h : Boxed W B t v) (m : Nat) : Boxed (W.drewN m) B t v := h
/-- what a box holds is kept by a turn of a block that holds no cells -/
theorem boxed_ownF {β : Type} (b B : Nat) (t : TypeId) (f : β → Value) : OwnFrom b (fun s W => Boxed W B t (f s)) := Own.from (boxed_own B t f) b

/-- a block of words -/
def warr (l : List Nat) : Array Value := (l.map fun (x : Nat) => Value.int .u32 (x : Int)).toArray
theorem warr_size (l : List Nat) : (warr l).size = l.length := by simp [warr]
theorem warr_get (l : List Nat) (i : Nat) (h : i < l.length) : (warr l)[i]? = some (.int .u32 ((l.getD i 0 : Nat) : Int)) := by
  simp [warr, h, List.getD_eq_getElem?_getD]

/-- words as values -/
abbrev wvals (l : List Nat) : List Value := l.map fun (x : Nat) => Value.int .u32 (x : Int)

/-- block g holds the words l, and may be more behind them -/
def Arr (W : World) (g : Nat) (l : List Nat) : Prop := ∃ cur : Array Value, W.heap[g]? = some (.cells cur 72 (0, 0)) ∧ cur.toList.take l.length = wvals l

theorem arr_of {W : World} {g : Nat} {l : List Nat} (h : W.heap[g]? = some (.cells (warr l) 72 (0, 0))) : Arr W g l := ⟨_, h, by simp [warr, wvals, List.take_of_length_le]⟩
theorem arr_lt {W : World} {g : Nat} {l : List Nat} (h : Arr W g l) : g < W.heap.size := let ⟨_, h, _⟩ := h; (Array.getElem?_eq_some_iff.1 h).1
theorem arr_cell {W : World} {g : Nat} {l : List Nat} (h : Arr W g l) (i : Nat) (hi : i < l.length) : W.cell? ⟨g, i, none⟩ = some (.int .u32 ((l.getD i 0 : Nat) : Int)) := by
  obtain ⟨cur, h, ht⟩ := h
  simp only [World.cell?, h, Option.isSome_none, Bool.false_eq_true, if_false]
  have h1 : (cur.toList.take l.length)[i]? = some (.int .u32 ((l.getD i 0 : Nat) : Int)) := by
    rw [ht]; simp [hi, List.getD_eq_getElem?_getD]
  rw [List.getElem?_take_of_lt hi] at h1
  simpa using h1
theorem arr_frozen {W : World} {g : Nat} {l : List Nat} (h : Arr W g l) (i : Nat) : W.frozen? ⟨g, i, none⟩ = false := by
  obtain ⟨cur, h, ht⟩ := h
  simp [World.frozen?, h]
theorem arr_kept {W W' : World} {row : Option Nat} {g : Nat} {l : List Nat} (h : Arr W g l) (hg : W.grownBy W' row) (hne : some g ≠ row) : Arr W' g l := by
  have hl := arr_lt h
  obtain ⟨cur, h, ht⟩ := h
  exact ⟨cur, (hg.block g hl hne).trans h, ht⟩
theorem arr_alloc {W : World} {g : Nat} {l : List Nat} (h : Arr W g l) (o : Obj) : Arr (W.alloc o) g l := arr_kept h (World.grownBy_alloc W o none) (by simp)
theorem arr_drewN {W : World} {g : Nat} {l : List Nat} (h : Arr W g l) (m : Nat) : Arr (W.drewN m) g l := h
theorem grownBy_setCell_at (W : World) (b o : Nat) (v : Value) : W.grownBy (W.setCell ⟨b, o, none⟩ v) (some b) :=
  ⟨rfl, rfl, rfl, (KeepsWalks.setCell W _ v).size, fun k _ hk => Below.heap_setCell _ _ _ k (fun e => hk (by rw [e]))⟩
theorem arr_other {W : World} {g : Nat} {l : List Nat} (h : Arr W g l) {B o : Nat} (hne : g ≠ B) (v : Value) : Arr (W.setCell ⟨B, o, none⟩ v) g l := arr_kept h (grownBy_setCell_at W B o v) (by simpa using hne)
theorem boxed_other {W : World} {B : Nat} {t : TypeId} {v : Value} (h : Boxed W B t v) {b o : Nat} (hne : B ≠ b) (u : Value) : Boxed (W.setCell ⟨b, o, none⟩ u) B t v := h.kept (grownBy_setCell_at W b o u) (by simpa using hne)
theorem arr_set {W : World} {g : Nat} {l : List Nat} (h : Arr W g l) (i x : Nat) : Arr (W.setCell ⟨g, i, none⟩ (.int .u32 (x : Int))) g (l.set i x) := by
  obtain ⟨cur, h, ht⟩ := h
  obtain ⟨hlt, hk⟩ := Array.getElem?_eq_some_iff.1 h
  refine ⟨cur.setIfInBounds i (.int .u32 (x : Int)), ?_, ?_⟩
  · show (W.heap.modify g _)[g]? = _
    rw [Array.getElem?_eq_getElem (by rw [Array.size_modify]; exact hlt), Array.getElem_modify_self, hk]
    rfl
  · rw [Array.toList_setIfInBounds, List.length_set, List.take_set, ht]
    simp [wvals, List.map_set]
theorem arr_new (W : World) (l : List Nat) : Arr (W.alloc (.cells (warr l) 72)) W.heap.size l := arr_of (World.alloc_heap_new W _)
theorem arr_below {W W' : World} {n g : Nat} {l : List Nat} (h : Arr W g l) (hb : Below n W W') (hg : g < n) : Arr W' g l := let ⟨cur, h, ht⟩ := h; ⟨cur, (hb.block g hg).trans h, ht⟩
theorem arr_putObj {W : World} {g : Nat} {l : List Nat} (h : Arr W g l) {D : Nat} {o : Obj} (o' : Obj) (hD : W.heap[D]? = some o) (ho : o.isCells = false) : Arr (W.putObj D o') g l :=
  arr_kept h (grownBy_putObj' W D o') (fun e => by
    obtain rfl : g = D := by simpa using e
    obtain ⟨cur, h, ht⟩ := h
    rw [h] at hD; cases hD; cases ho)
theorem arr_ownF {β : Type} (b g : Nat) (f : β → List Nat) : OwnFrom b (fun s W => Arr W g (f s)) := by
  intro s X Y row h hg hrow
  refine arr_kept h hg fun e' => ?_
  obtain ⟨o, ho, hc⟩ := (hrow g e'.symm).2
  obtain ⟨cur, h, ht⟩ := h
  rw [h] at ho; cases ho; cases hc
theorem alloc_get (W : World) (o : Obj) (i : Nat) : (W.alloc o).heap[i]? = if i = W.heap.size then some o else W.heap[i]? := by
  show (W.heap.push o)[i]? = _
  rw [Array.getElem?_push]

/-- blocks laid one behind the other -/
def allocs : World → List Obj → World
  | w, [] => w
  | w, o :: os => allocs (w.alloc o) os
theorem allocs_size (w : World) (os : List Obj) : (allocs w os).heap.size = w.heap.size + os.length := by
  induction os generalizing w with
  | nil => rfl
  | cons o os ih => simp only [allocs, ih, World.size_alloc, List.length_cons]; omega
theorem allocs_old (w : World) (os : List Obj) (i : Nat) (h : i < w.heap.size) : (allocs w os).heap[i]? = w.heap[i]? := by
  induction os generalizing w with
  | nil => rfl
  | cons o os ih => simp only [allocs]; rw [ih _ (by simp; omega), alloc_get, if_neg (by omega)]
theorem allocs_get (w : World) (os : List Obj) (i : Nat) (h : i < os.length) : (allocs w os).heap[w.heap.size + i]? = os[i]? := by
  induction os generalizing w i with
  | nil => cases h
  | cons o os ih =>
    simp only [allocs]
    cases i with
    | zero => rw [allocs_old _ _ _ (by simp), alloc_get, if_pos (by simp)]; rfl
    | succ i =>
      have := ih (w.alloc o) i (by simpa using h)
      rw [World.size_alloc, show w.heap.size + 1 + i = w.heap.size + (i + 1) by omega] at this
      rw [this]; rfl
theorem allocs_stp (w : World) (os : List Obj) {n₀ : Nat} (h : n₀ ≤ w.heap.size) : Stp n₀ w (allocs w os) := by
  induction os generalizing w with
  | nil => exact Stp.refl _ _
  | cons o os ih => exact ((Stp.refl n₀ w).alloc h o).trans (ih (w.alloc o) (by simp; omega))

/-- what of a block of words is read -/
theorem arr_rd {W : World} {g : Nat} {l : List Nat} (h : Arr W g l) (hw : Words l) (hs : l.length ≤ 35184372088832) : Rd W (some ⟨g, 0, none⟩) l :=
  ⟨fun i hi => ⟨g, 0, rfl, by rw [Nat.zero_add]; exact arr_cell h i hi⟩, hw, hs⟩

/-- 'make' of a slice of words: the cells are 0 -/
theorem warr_made (m : Nat) : madeCells #[.int .u32 0] m = warr (List.replicate m 0) := by
  apply Array.ext
  · simp [madeCells, warr]
  · intro i h1 h2
    simp [madeCells, warr, Nat.mod_one]

theorem info_u32 : (Tryd.prog.info? 72).map (fun i => (i.zero, i.size, i.bytes)) = some (some (.int .u32 0), 1, 4) := by kernel_rfl

/-- 'make(nat, L, C)' -/
theorem make_nat (L C : Int) (n m : Nat) (hL : L = (n : Int)) (hC : C = (m : Int)) (hnm : n ≤ m) (hm : m ≤ 35184372088832) (W : World) :
    (Instr.makeSlice 79 (.int .i64 L) (.int .i64 C)).run Tryd.prog W = .ok (.slice (some ⟨W.heap.size, 0, none⟩) n m) (W.alloc (.cells (warr (List.replicate m 0)) 72)) := by
  obtain ⟨i0, hi, hz0, hz1, hz2⟩ := info_parts info_u32
  subst hL hC
  have := run_make (P := Tryd.prog) W 79 72 i0 _ Tryd.underlying79 hi hz0 .i64 .i64 (n : Int) (m : Int) (by omega) (by omega) (by rw [hz2]; omega) (by omega)
  rw [this, hz1]
  simp [Value.cells, warr_made]

/-- what reads is kept by a turn of a block that holds no cells -/
theorem Rd.putObj {W : World} {A : Option Addr} {l : List Nat} (h : Rd W A l) {D : Nat} {o : Obj} (o' : Obj) (hD : W.heap[D]? = some o) (ho : o.isCells = false) : Rd (W.putObj D o') A l :=
  h.same fun a v hv => cell_kept hv (grownBy_putObj' W D o') (fun r e => by cases e; exact ⟨o, hD, ho⟩)

/-- block B is a box of type t -/
def HasBox (W : World) (B : Nat) (t : TypeId) : Prop := ∃ v, Boxed W B t v
theorem HasBox.of {W : World} {B : Nat} {t : TypeId} {v : Value} (h : Boxed W B t v) : HasBox W B t := ⟨v, h⟩
theorem HasBox.drewN {W : World} {B : Nat} {t : TypeId} (h : HasBox W B t) (m : Nat) : HasBox (W.drewN m) B t := h
theorem HasBox.alloc {W : World} {B : Nat} {t : TypeId} (h : HasBox W B t) (o : Obj) : HasBox (W.alloc o) B t := let ⟨v, h⟩ := h; ⟨v, h.alloc o⟩
theorem HasBox.set {W : World} {B : Nat} {t : TypeId} (h : HasBox W B t) (p : Addr) (u : Value) : HasBox (W.setCell p u) B t := by
  obtain ⟨v, h⟩ := h
  obtain ⟨b, o, s⟩ := p
  obtain ⟨hlt, hk⟩ := Array.getElem?_eq_some_iff.1 h
  by_cases e : b = B
  · subst e
    refine ⟨if s.isSome then v else if o = 0 then u else v, ?_⟩
    show (W.heap.modify b _)[b]? = _
    rw [Array.getElem?_eq_getElem (by rw [Array.size_modify]; exact hlt), Array.getElem_modify_self, hk]
    cases s with
    | some s => rfl
    | none =>
      cases o with
      | zero => rfl
      | succ o => simp
  · exact ⟨v, (Below.heap_setCell _ _ _ _ (fun h => e h.symm)).trans h⟩
theorem boxed_set {W : World} {B : Nat} {t : TypeId} (v : Value) (h : HasBox W B t) : Boxed (W.setCell ⟨B, 0, none⟩ v) B t v := let ⟨_, h⟩ := h; h.set v

/-- the end of a round -/
theorem limb_end {B n₀ : Nat} {I : World → Prop} {W W' : World} {a : Act} (h : Stp n₀ W W') (hi : Stp n₀ W W' → I W') : limbPost B n₀ I W .normal a W' := ⟨h.from B, h.below, hi h⟩

end Nm
end Go.Proofs.YtlhmbbpkhahbeaaDoor
namespace Go.Proofs.YtlhmbbpkhahbeaaDoor
namespace Nm
open Go.RowKit Go.Shelf Go.BigFrame
attribute [local go_sem] Oper.semAt_some

theorem at_in (n : Nat) (A : Option Addr) (c : Nat) (l : List Nat) (i : Nat) (w : World) (hA : Rd w A l) (_hl : l.length ≤ c) :
    CallsIn Fence.wide n Tryd.prog 107 #[.slice A l.length c, .int .i64 (i : Int)] w fun e w' => e = .returned (.int .u32 (l.getD i 0 : Nat)) ∧ w' = w := by
  refine callsIn_wide.2 ?_
  by_cases h : i < l.length
  · obtain ⟨b, o, x, rfl, hc, hx, _⟩ := hA.get i h
    rw [hx.out]
    go_enter Tryd.func107, Tryd.ntmps107
    go_wp2
    go_ret
    exact ⟨rfl, rfl⟩
  · rw [List.getD_eq_getElem?_getD, List.getElem?_eq_none (by omega)]
    go_enter Tryd.func107, Tryd.ntmps107
    go_wp2
    go_ret
    exact ⟨rfl, rfl⟩

/-- what a function that returns a magnitude comes to -/
def RetNat (n : Nat) (w : World) (e : Ending) (w' : World) : Prop :=
  ∃ A c, e = .returned (.slice A (lim n).length c) ∧ (lim n).length ≤ c ∧ Rd w' A (lim n) ∧ Below w.heap.size w w'

theorem trim_in (n : Nat) (A : Option Addr) (c : Nat) (l : List Nat) (w : World) (hA : Rd w A l) (hl : l.length ≤ c) :
    CallsIn Fence.wide n Tryd.prog 101 #[.slice A l.length c] w fun e w' => e = .returned (.slice A (trim l).length c) ∧ w = w' := callsIn_wide.2 (trim_calls A c l w hA hl)

theorem rd_block {w : World} {A : Option Addr} {l : List Nat} (h : Rd w A l) : ∀ b o, A = some ⟨b, o, none⟩ → 0 < l.length → b < w.heap.size := by
  intro b o e hl; obtain ⟨b', o', e', hc⟩ := h.cell 0 hl; rw [e] at e'; cases e'; exact World.block_lt_of_cell? w _ hc

/-- the words of a sum so far, and zeros behind -/
theorem set_snoc (outs : List Nat) (m z : Nat) (k : Nat) (hk : outs.length = k) (hm : 0 < m) : (outs ++ List.replicate m 0).set k z = (outs ++ [z]) ++ List.replicate (m - 1) 0 := by
  subst hk
  obtain ⟨m, rfl⟩ : ∃ j, m = j + 1 := ⟨m - 1, by omega⟩
  simp [List.replicate_succ]

theorem take_snoc (l : List Nat) (k : Nat) (x : Nat) (hk : k < l.length) (hx : l.getD k 0 = x) : l.take (k + 1) = l.take k ++ [x] := by
  rw [List.take_succ_eq_append_getElem hk]
  rw [List.getD_eq_getElem?_getD, List.getElem?_eq_getElem hk] at hx
  simp at hx; rw [hx]

theorem val_take_succ (l : List Nat) (k x : Nat) (hx : l.getD k 0 = x) : val (l.take (k + 1)) = val (l.take k) + BB ^ k * x := by
  by_cases hk : k < l.length
  · rw [take_snoc l k x hk hx, val_snoc]; simp [Nat.min_eq_left (Nat.le_of_lt hk)]
  · rw [List.getD_eq_getElem?_getD, List.getElem?_eq_none (by omega)] at hx
    simp at hx; subst hx
    rw [List.take_of_length_le (by omega), List.take_of_length_le (by omega)]; simp

/-- one round of the sum -/
theorem add_step {l1 l2 outs : List Nat} {k cy x y : Nat} (hx : l1.getD k 0 = x) (hy : l2.getD k 0 = y) (hl : outs.length = k)
    (h : val outs + BB ^ k * cy = val (l1.take k) + val (l2.take k)) :
    val (outs ++ [(cy + (x + y)) % BB]) + BB ^ (k + 1) * ((cy + (x + y)) / BB) = val (l1.take (k + 1)) + val (l2.take (k + 1)) := by
  rw [val_snoc, val_take_succ l1 k x hx, val_take_succ l2 k y hy, hl, Nat.pow_succ, Nat.mul_assoc, Nat.add_assoc, ← Nat.mul_add, Nat.mod_add_div, Nat.mul_add, Nat.mul_add]
  omega

set_option maxRecDepth 100000 in
set_option maxHeartbeats 2000000 in
theorem add_ge (A1 A2 : Option Addr) (c1 c2 : Nat) (l1 l2 : List Nat) (w : World) (h1 : Rd w A1 l1) (h2 : Rd w A2 l2) (_hc1 : l1.length ≤ c1) (hc2 : l2.length ≤ c2)
    (hle : l2.length ≤ l1.length) (hsm : l1.length ≤ 1048576) :
    Calls Tryd.prog 58 #[.slice A1 l1.length c1, .slice A2 l2.length c2] w (RetNat (val l1 + val l2) w) := by
  refine (callsIn_wide (n := 5)).1 ?_
  refine callsIn_of_wp_marks Tryd.func58 rfl trivial ?_ rfl
  simp only [Tryd.ntmps58, List.size_toArray, List.length_cons, List.length_nil, Nat.reduceAdd, Nat.reduceSub, Array.replicate_succ, Array.replicate_zero, List.push_toArray, List.append_toArray, List.nil_append, List.cons_append]
  have hs1 := h1.small
  have hs2 := h2.small
  have hlt : ¬ (l1.length < l2.length) := by omega
  have hmk := make_nat 0 ((l1.length : Int) + 1) 0 (l1.length + 1) rfl (by simp) (by omega) (by omega)
  gi_wp2_with (refine ⟨trivial, ?_⟩; gi_at_call 100; refine (callsIn_wide.2 (limbs_calls _ _ _ _)).mono ?_; rintro e w2 ⟨rfl, rfl⟩)
  clear hmk
  obtain ⟨w3, hw3⟩ : ∃ w3, allocs w [.cells #[.slice A2 l2.length c2] 79, .cells (warr (List.replicate (l1.length + 1) 0)) 72, .cells #[.slice (some ⟨w.heap.size + 1, 0, none⟩) 0 (l1.length + 1)] 79, .cells #[.int .u64 0] 102, .cells #[.slice A1 l1.length c1] 79] = w3 := ⟨_, rfl⟩
  have hget := allocs_get w [.cells #[.slice A2 l2.length c2] 79, .cells (warr (List.replicate (l1.length + 1) 0)) 72, .cells #[.slice (some ⟨w.heap.size + 1, 0, none⟩) 0 (l1.length + 1)] 79, .cells #[.int .u64 0] 102, .cells #[.slice A1 l1.length c1] 79]
  have hs3 := allocs_stp w [.cells #[.slice A2 l2.length c2] 79, .cells (warr (List.replicate (l1.length + 1) 0)) 72, .cells #[.slice (some ⟨w.heap.size + 1, 0, none⟩) 0 (l1.length + 1)] 79, .cells #[.int .u64 0] 102, .cells #[.slice A1 l1.length c1] 79] (Nat.le_refl w.heap.size)
  have hsz3 := allocs_size w [.cells #[.slice A2 l2.length c2] 79, .cells (warr (List.replicate (l1.length + 1) 0)) 72, .cells #[.slice (some ⟨w.heap.size + 1, 0, none⟩) 0 (l1.length + 1)] 79, .cells #[.int .u64 0] 102, .cells #[.slice A1 l1.length c1] 79]
  rw [hw3] at hget hs3 hsz3
  simp only [allocs] at hw3
  rw [hw3]
  clear hw3
  replace hsz3 : w.heap.size + 5 ≤ w3.heap.size := by rw [hsz3]; exact Nat.le_refl _
  have hB4 : Boxed w3 w.heap.size 79 (.slice A2 l2.length c2) := hget 0 (by simp)
  have hR3 : Arr w3 (w.heap.size + 1) (List.replicate (l1.length + 1) 0) := arr_of (hget 1 (by simp))
  have hB3 : Boxed w3 (w.heap.size + 2) 79 (.slice (some ⟨w.heap.size + 1, 0, none⟩) 0 (l1.length + 1)) := hget 2 (by simp)
  have hB2 : Boxed w3 (w.heap.size + 3) 102 (.int .u64 0) := hget 3 (by simp)
  have hB1 : Boxed w3 (w.heap.size + 4) 79 (.slice A1 l1.length c1) := hget 4 (by simp)
  clear hget
  refine wpIn_limbs_p (n₀ := w.heap.size) (l := l1) rfl (by omega) (gf := 122) (lb := #[.pointer (some ⟨w.heap.size + 4, 0, none⟩)]) rfl trivial (enters_of Tryd.func122 (by kernel_rfl) rfl)
    (limbs1_in _ (w.heap.size + 4) A1 c1 l1 w.heap.size w3 hB1.cell (h1.below hs3.below rfl) (by omega) (rd_block h1)) (by omega) (Below.refl _ _) rfl
    (fun k W => ∃ (outs : List Nat) (cy : Nat), Boxed W w.heap.size 79 (.slice A2 l2.length c2) ∧ Boxed W (w.heap.size + 2) 79 (.slice (some ⟨w.heap.size + 1, 0, none⟩) k (l1.length + 1)) ∧ Boxed W (w.heap.size + 3) 102 (.int .u64 (cy : Int)) ∧
      Arr W (w.heap.size + 1) (outs ++ List.replicate (l1.length + 1 - k) 0) ∧ Below w.heap.size w W ∧ cy ≤ 1 ∧ outs.length = k ∧ Words outs ∧ Hid (val outs + BB ^ k * cy = val (l1.take k) + val (l2.take k)))
    ?own ?start ?round ?done
  case own =>
    rintro k X Y row ⟨outs, cy, a1, a2, a3, a4, a5, a6⟩ hg hr
    exact ⟨outs, cy, boxed_ownF _ _ _ (fun _ => _) k X Y row a1 hg hr, boxed_ownF _ _ _ (fun _ => _) k X Y row a2 hg hr, boxed_ownF _ _ _ (fun _ => _) k X Y row a3 hg hr, arr_ownF _ _ (fun _ => _) k X Y row a4 hg hr,
      ownFrom_below (Nat.le_refl _) (by omega) k X Y row a5 hg hr, a6⟩
  case start => exact ⟨[], 0, hB4, hB3, hB2, hR3, hs3.below, by omega, rfl, words_nil, by simp [Hid, val]⟩
  case round =>
    intro k W hk
    obtain ⟨x, hx, hxb⟩ : ∃ x, Hid (l1.getD k 0 = x) ∧ x < 4294967296 := ⟨_, rfl, words_getD h1.words k⟩
    obtain ⟨y, hy, hyb⟩ : ∃ y, Hid (l2.getD k 0 = y) ∧ y < 4294967296 := ⟨_, rfl, words_getD h2.words k⟩
    rw [hx.out]
    have hat : ∀ n w', Rd w' A2 l2 → CallsIn Fence.wide n Tryd.prog 107 #[.slice A2 l2.length c2, .int .i64 (k : Int)] w' fun e w'' => e = .returned (.int .u32 (y : Int)) ∧ w'' = w' := by
      intro n w' h; have := at_in n A2 c2 l2 k w' h hc2; rwa [hy.out] at this
    gi_wp2
    refine ⟨trivial, ?_⟩
    clear W
    rintro W ⟨outs, cy, hbb, hbo, hbc, harr, hbl, hcy, hol, how, hval⟩
    have g1 := hbb.cell
    have g2 := hbo.cell
    have g3 := hbc.cell
    obtain ⟨u, g4⟩ : ∃ u : Nat, W.cell? ⟨w.heap.size + 1, k, none⟩ = some (.int .u32 (u : Int)) := ⟨_, arr_cell harr k (by simp; omega)⟩
    have f2 := hbo.frozen
    have f3 := hbc.frozen
    have f4 := arr_frozen harr k
    have hwz := hbc.lt
    have t1 : w.heap.size + 1 < W.heap.size := by omega
    have t2 : w.heap.size + 2 < W.heap.size := by omega
    have Hol := Lib.hid hol
    clear hol
    gi_wp2
    have hwide : ∀ f, Fence.wide.fn f := fun _ => trivial
    refine wpIn_region_tail 9 (by kernel_rfl) (by kernel_rfl) (by kernel_rfl) ?_
    simp only [List.take_succ_cons, List.take_zero, List.drop_succ_cons, List.drop_zero]
    repeat (gi_big_quiet_step ((gi_at_call 107; exact CallsIn.quiet_of_same (CallsIn.inRound _ (hat _ _ (h2.below (below_drewN hbl _) rfl))))))
    refine wpQuietIn_nil ?_
    intro m
    obtain ⟨z, hz⟩ : ∃ z : Nat, ((cy : Int) + ((x : Int) + (y : Int))) % 4294967296 = (z : Int) := ⟨(cy + (x + y)) % 4294967296, by omega⟩
    obtain ⟨q, hq⟩ : ∃ q : Nat, ((cy : Int) + ((x : Int) + (y : Int))) / 4294967296 = (q : Int) := ⟨(cy + (x + y)) / 4294967296, by omega⟩
    gi_wp2
    simp only [Nat.add_assoc, Nat.reduceAdd]
    have hz' : z = (cy + (x + y)) % BB := by show z = _ % 4294967296; omega
    have hq' : q = (cy + (x + y)) / BB := by show q = _ / 4294967296; omega
    refine limb_end (by (repeat (first | with_reducible exact Stp.refl _ _ | with_reducible refine Stp.set ?_ (by simp) _ | with_reducible refine Stp.alloc ?_ (by simp; omega) _ | with_reducible refine Stp.drewN ?_ _))) (fun hst => ⟨outs ++ [z], q, by (repeat (first | with_reducible exact hbb | with_reducible exact HasBox.of hbb | with_reducible refine boxed_other ?_ (by omega) _ | with_reducible refine boxed_set _ ?_ | with_reducible refine HasBox.set ?_ _ _ | with_reducible refine HasBox.alloc ?_ _ | with_reducible refine HasBox.drewN ?_ _ | with_reducible refine Boxed.alloc ?_ _ | with_reducible refine boxed_drewN ?_ _)), by (repeat (first | with_reducible exact hbo | with_reducible exact HasBox.of hbo | with_reducible refine boxed_other ?_ (by omega) _ | with_reducible refine boxed_set _ ?_ | with_reducible refine HasBox.set ?_ _ _ | with_reducible refine HasBox.alloc ?_ _ | with_reducible refine HasBox.drewN ?_ _ | with_reducible refine Boxed.alloc ?_ _ | with_reducible refine boxed_drewN ?_ _)), by (repeat (first | with_reducible exact hbc | with_reducible exact HasBox.of hbc | with_reducible refine boxed_other ?_ (by omega) _ | with_reducible refine boxed_set _ ?_ | with_reducible refine HasBox.set ?_ _ _ | with_reducible refine HasBox.alloc ?_ _ | with_reducible refine HasBox.drewN ?_ _ | with_reducible refine Boxed.alloc ?_ _ | with_reducible refine boxed_drewN ?_ _)), ?_, hbl.trans hst.below, by omega, by simp [Hol.out], ?_, ?_⟩)
    · rw [show l1.length + 1 - (k + 1) = l1.length + 1 - k - 1 by omega, ← set_snoc outs (l1.length + 1 - k) z k Hol.out (by omega)]
      (repeat (first | with_reducible exact harr | with_reducible refine arr_other ?_ (by omega) _ | with_reducible refine arr_set ?_ _ _ | with_reducible refine arr_alloc ?_ _ | with_reducible refine arr_drewN ?_ _))
    · exact words_append.2 ⟨how, fun u hu => by simp at hu; rw [hu, hz']; exact Nat.mod_lt _ (by decide)⟩
    · rw [hz', hq']; exact add_step hx.out hy.out Hol.out hval.out
  case done =>
    rintro D W hD ⟨outs, cy, hbb, hbo, hbc, harr, hbl, hcy, hol, how, hval⟩ hK
    have g2 := hbo.cell
    have g3 := hbc.cell
    obtain ⟨u, g4⟩ : ∃ u : Nat, W.cell? ⟨w.heap.size + 1, l1.length, none⟩ = some (.int .u32 (u : Int)) := ⟨_, arr_cell harr l1.length (by simp; omega)⟩
    have f4 := arr_frozen harr l1.length
    have hwz := hbc.lt
    have t1 : w.heap.size + 1 < W.heap.size := by omega
    have t2 : w.heap.size + 2 < W.heap.size := by omega
    have Hol := Lib.hid hol
    clear hol
    gi_wp2
    obtain ⟨W5, hW5⟩ : ∃ W5, (W.setCell ⟨w.heap.size + 1, l1.length, none⟩ (.int .u32 (cy : Int))).alloc (.cells #[.int .u32 (cy : Int)] 72) = W5 := ⟨_, rfl⟩
    have hst5 : Stp w.heap.size W W5 := by rw [← hW5]; exact ((Stp.refl _ W).set (by simp) _).alloc (by simp [World.setCell]; omega) _
    have harr5 : Arr W5 (w.heap.size + 1) (outs ++ [cy]) := by
      have := arr_alloc (arr_set harr l1.length cy) (.cells #[.int .u32 (cy : Int)] 72)
      rw [set_snoc outs (l1.length + 1 - l1.length) cy l1.length Hol.out (by omega), show l1.length + 1 - l1.length - 1 = 0 by omega] at this
      rw [← hW5]; simpa using this
    rw [hW5]
    clear hW5
    have hK5 := hst5.keeps.same D _ hK rfl
    have hww : Words (outs ++ [cy]) := words_append.2 ⟨how, fun u hu => by simp at hu; rw [hu]; show cy < 4294967296; omega⟩
    have hlen : (outs ++ [cy]).length = l1.length + 1 := by simp [Hol.out]
    have hrd := arr_rd harr5 hww (by omega)
    have ht := fun n => trim_in n (some ⟨w.heap.size + 1, 0, none⟩) (l1.length + 1) (outs ++ [cy]) W5 hrd (by omega)
    have hval' : trim (outs ++ [cy]) = lim (val l1 + val l2) := by
      unfold trim
      have := hval.out
      rw [List.take_length, List.take_of_length_le (by omega)] at this
      rw [val_snoc, Hol.out, this]
    rw [hval', hlen] at ht
    have hrd2 := hrd.trim
    have htl := trim_length_le hww
    rw [hval'] at hrd2 htl
    have hDl := (Array.getElem?_eq_some_iff.1 hK5).1
    clear hval hval'
    refine ⟨trivial, ?_⟩
    refine (ht _).mono ?_
    rintro e w' ⟨rfl, rfl⟩
    gi_wp2
    refine ⟨by simp, .inl ⟨_, _, rfl, run_takeDeferred hK5, ?_⟩⟩
    exact ⟨_, results_tmp rfl _ _ _, _, _, rfl, by omega, hrd2.putObj _ hK5 rfl, hbl.trans (hst5.below.trans (belowK_b (w := w) (Nat.le_refl _) W5 D _ _ (by omega) hK5 rfl rfl))⟩

set_option maxRecDepth 100000 in
set_option maxHeartbeats 2000000 in
theorem add_lt (A1 A2 : Option Addr) (c1 c2 : Nat) (l1 l2 : List Nat) (w : World) (h1 : Rd w A1 l1) (h2 : Rd w A2 l2) (hc1 : l1.length ≤ c1) (_hc2 : l2.length ≤ c2)
    (hle : l1.length < l2.length) (hsm : l2.length ≤ 1048576) :
    Calls Tryd.prog 58 #[.slice A1 l1.length c1, .slice A2 l2.length c2] w (RetNat (val l2 + val l1) w) := by
  refine (callsIn_wide (n := 5)).1 ?_
  refine callsIn_of_wp_marks Tryd.func58 rfl trivial ?_ rfl
  simp only [Tryd.ntmps58, List.size_toArray, List.length_cons, List.length_nil, Nat.reduceAdd, Nat.reduceSub, Array.replicate_succ, Array.replicate_zero, List.push_toArray, List.append_toArray, List.nil_append, List.cons_append]
  have hs1 := h1.small
  have hs2 := h2.small
  skip
  have hmk := make_nat 0 ((l2.length : Int) + 1) 0 (l2.length + 1) rfl (by simp) (by omega) (by omega)
  gi_wp2_with (refine ⟨trivial, ?_⟩; gi_at_call 100; refine (callsIn_wide.2 (limbs_calls _ _ _ _)).mono ?_; rintro e w2 ⟨rfl, rfl⟩)
  clear hmk
  obtain ⟨w3, hw3⟩ : ∃ w3, allocs w [.cells #[.slice A1 l1.length c1] 79, .cells (warr (List.replicate (l2.length + 1) 0)) 72, .cells #[.slice (some ⟨w.heap.size + 1, 0, none⟩) 0 (l2.length + 1)] 79, .cells #[.int .u64 0] 102, .cells #[.slice A2 l2.length c2] 79] = w3 := ⟨_, rfl⟩
  have hget := allocs_get w [.cells #[.slice A1 l1.length c1] 79, .cells (warr (List.replicate (l2.length + 1) 0)) 72, .cells #[.slice (some ⟨w.heap.size + 1, 0, none⟩) 0 (l2.length + 1)] 79, .cells #[.int .u64 0] 102, .cells #[.slice A2 l2.length c2] 79]
  have hs3 := allocs_stp w [.cells #[.slice A1 l1.length c1] 79, .cells (warr (List.replicate (l2.length + 1) 0)) 72, .cells #[.slice (some ⟨w.heap.size + 1, 0, none⟩) 0 (l2.length + 1)] 79, .cells #[.int .u64 0] 102, .cells #[.slice A2 l2.length c2] 79] (Nat.le_refl w.heap.size)
  have hsz3 := allocs_size w [.cells #[.slice A1 l1.length c1] 79, .cells (warr (List.replicate (l2.length + 1) 0)) 72, .cells #[.slice (some ⟨w.heap.size + 1, 0, none⟩) 0 (l2.length + 1)] 79, .cells #[.int .u64 0] 102, .cells #[.slice A2 l2.length c2] 79]
  rw [hw3] at hget hs3 hsz3
  simp only [allocs] at hw3
  rw [hw3]
  clear hw3
  replace hsz3 : w.heap.size + 5 ≤ w3.heap.size := by rw [hsz3]; exact Nat.le_refl _
  have hB4 : Boxed w3 w.heap.size 79 (.slice A1 l1.length c1) := hget 0 (by simp)
  have hR3 : Arr w3 (w.heap.size + 1) (List.replicate (l2.length + 1) 0) := arr_of (hget 1 (by simp))
  have hB3 : Boxed w3 (w.heap.size + 2) 79 (.slice (some ⟨w.heap.size + 1, 0, none⟩) 0 (l2.length + 1)) := hget 2 (by simp)
  have hB2 : Boxed w3 (w.heap.size + 3) 102 (.int .u64 0) := hget 3 (by simp)
  have hB1 : Boxed w3 (w.heap.size + 4) 79 (.slice A2 l2.length c2) := hget 4 (by simp)
  clear hget
  refine wpIn_limbs_p (n₀ := w.heap.size) (l := l2) rfl (by omega) (gf := 122) (lb := #[.pointer (some ⟨w.heap.size + 4, 0, none⟩)]) rfl trivial (enters_of Tryd.func122 (by kernel_rfl) rfl)
    (limbs1_in _ (w.heap.size + 4) A2 c2 l2 w.heap.size w3 hB1.cell (h2.below hs3.below rfl) (by omega) (rd_block h2)) (by omega) (Below.refl _ _) rfl
    (fun k W => ∃ (outs : List Nat) (cy : Nat), Boxed W w.heap.size 79 (.slice A1 l1.length c1) ∧ Boxed W (w.heap.size + 2) 79 (.slice (some ⟨w.heap.size + 1, 0, none⟩) k (l2.length + 1)) ∧ Boxed W (w.heap.size + 3) 102 (.int .u64 (cy : Int)) ∧
      Arr W (w.heap.size + 1) (outs ++ List.replicate (l2.length + 1 - k) 0) ∧ Below w.heap.size w W ∧ cy ≤ 1 ∧ outs.length = k ∧ Words outs ∧ Hid (val outs + BB ^ k * cy = val (l2.take k) + val (l1.take k)))
    ?own ?start ?round ?done
  case own =>
    rintro k X Y row ⟨outs, cy, a1, a2, a3, a4, a5, a6⟩ hg hr
    exact ⟨outs, cy, boxed_ownF _ _ _ (fun _ => _) k X Y row a1 hg hr, boxed_ownF _ _ _ (fun _ => _) k X Y row a2 hg hr, boxed_ownF _ _ _ (fun _ => _) k X Y row a3 hg hr, arr_ownF _ _ (fun _ => _) k X Y row a4 hg hr,
      ownFrom_below (Nat.le_refl _) (by omega) k X Y row a5 hg hr, a6⟩
  case start => exact ⟨[], 0, hB4, hB3, hB2, hR3, hs3.below, by omega, rfl, words_nil, by simp [Hid, val]⟩
  case round =>
    intro k W hk
    obtain ⟨x, hx, hxb⟩ : ∃ x, Hid (l2.getD k 0 = x) ∧ x < 4294967296 := ⟨_, rfl, words_getD h2.words k⟩
    obtain ⟨y, hy, hyb⟩ : ∃ y, Hid (l1.getD k 0 = y) ∧ y < 4294967296 := ⟨_, rfl, words_getD h1.words k⟩
    rw [hx.out]
    have hat : ∀ n w', Rd w' A1 l1 → CallsIn Fence.wide n Tryd.prog 107 #[.slice A1 l1.length c1, .int .i64 (k : Int)] w' fun e w'' => e = .returned (.int .u32 (y : Int)) ∧ w'' = w' := by
      intro n w' h; have := at_in n A1 c1 l1 k w' h hc1; rwa [hy.out] at this
    gi_wp2
    refine ⟨trivial, ?_⟩
    clear W
    rintro W ⟨outs, cy, hbb, hbo, hbc, harr, hbl, hcy, hol, how, hval⟩
    have g1 := hbb.cell
    have g2 := hbo.cell
    have g3 := hbc.cell
    obtain ⟨u, g4⟩ : ∃ u : Nat, W.cell? ⟨w.heap.size + 1, k, none⟩ = some (.int .u32 (u : Int)) := ⟨_, arr_cell harr k (by simp; omega)⟩
    have f2 := hbo.frozen
    have f3 := hbc.frozen
    have f4 := arr_frozen harr k
    have hwz := hbc.lt
    have t1 : w.heap.size + 1 < W.heap.size := by omega
    have t2 : w.heap.size + 2 < W.heap.size := by omega
    have Hol := Lib.hid hol
    clear hol
    gi_wp2
    have hwide : ∀ f, Fence.wide.fn f := fun _ => trivial
    refine wpIn_region_tail 9 (by kernel_rfl) (by kernel_rfl) (by kernel_rfl) ?_
    simp only [List.take_succ_cons, List.take_zero, List.drop_succ_cons, List.drop_zero]
    repeat (gi_big_quiet_step ((gi_at_call 107; exact CallsIn.quiet_of_same (CallsIn.inRound _ (hat _ _ (h1.below (below_drewN hbl _) rfl))))))
    refine wpQuietIn_nil ?_
    intro m
    obtain ⟨z, hz⟩ : ∃ z : Nat, ((cy : Int) + ((x : Int) + (y : Int))) % 4294967296 = (z : Int) := ⟨(cy + (x + y)) % 4294967296, by omega⟩
    obtain ⟨q, hq⟩ : ∃ q : Nat, ((cy : Int) + ((x : Int) + (y : Int))) / 4294967296 = (q : Int) := ⟨(cy + (x + y)) / 4294967296, by omega⟩
    gi_wp2
    simp only [Nat.add_assoc, Nat.reduceAdd]
    have hz' : z = (cy + (x + y)) % BB := by show z = _ % 4294967296; omega
    have hq' : q = (cy + (x + y)) / BB := by show q = _ / 4294967296; omega
    refine limb_end (by (repeat (first | with_reducible exact Stp.refl _ _ | with_reducible refine Stp.set ?_ (by simp) _ | with_reducible refine Stp.alloc ?_ (by simp; omega) _ | with_reducible refine Stp.drewN ?_ _))) (fun hst => ⟨outs ++ [z], q, by (repeat (first | with_reducible exact hbb | with_reducible exact HasBox.of hbb | with_reducible refine boxed_other ?_ (by omega) _ | with_reducible refine boxed_set _ ?_ | with_reducible refine HasBox.set ?_ _ _ | with_reducible refine HasBox.alloc ?_ _ | with_reducible refine HasBox.drewN ?_ _ | with_reducible refine Boxed.alloc ?_ _ | with_reducible refine boxed_drewN ?_ _)), by (repeat (first | with_reducible exact hbo | with_reducible exact HasBox.of hbo | with_reducible refine boxed_other ?_ (by omega) _ | with_reducible refine boxed_set _ ?_ | with_reducible refine HasBox.set ?_ _ _ | with_reducible refine HasBox.alloc ?_ _ | with_reducible refine HasBox.drewN ?_ _ | with_reducible refine Boxed.alloc ?_ _ | with_reducible refine boxed_drewN ?_ _)), by (repeat (first | with_reducible exact hbc | with_reducible exact HasBox.of hbc | with_reducible refine boxed_other ?_ (by omega) _ | with_reducible refine boxed_set _ ?_ | with_reducible refine HasBox.set ?_ _ _ | with_reducible refine HasBox.alloc ?_ _ | with_reducible refine HasBox.drewN ?_ _ | with_reducible refine Boxed.alloc ?_ _ | with_reducible refine boxed_drewN ?_ _)), ?_, hbl.trans hst.below, by omega, by simp [Hol.out], ?_, ?_⟩)
    · rw [show l2.length + 1 - (k + 1) = l2.length + 1 - k - 1 by omega, ← set_snoc outs (l2.length + 1 - k) z k Hol.out (by omega)]
      (repeat (first | with_reducible exact harr | with_reducible refine arr_other ?_ (by omega) _ | with_reducible refine arr_set ?_ _ _ | with_reducible refine arr_alloc ?_ _ | with_reducible refine arr_drewN ?_ _))
    · exact words_append.2 ⟨how, fun u hu => by simp at hu; rw [hu, hz']; exact Nat.mod_lt _ (by decide)⟩
    · rw [hz', hq']; exact add_step hx.out hy.out Hol.out hval.out
  case done =>
    rintro D W hD ⟨outs, cy, hbb, hbo, hbc, harr, hbl, hcy, hol, how, hval⟩ hK
    have g2 := hbo.cell
    have g3 := hbc.cell
    obtain ⟨u, g4⟩ : ∃ u : Nat, W.cell? ⟨w.heap.size + 1, l2.length, none⟩ = some (.int .u32 (u : Int)) := ⟨_, arr_cell harr l2.length (by simp; omega)⟩
    have f4 := arr_frozen harr l2.length
    have hwz := hbc.lt
    have t1 : w.heap.size + 1 < W.heap.size := by omega
    have t2 : w.heap.size + 2 < W.heap.size := by omega
    have Hol := Lib.hid hol
    clear hol
    gi_wp2
    obtain ⟨W5, hW5⟩ : ∃ W5, (W.setCell ⟨w.heap.size + 1, l2.length, none⟩ (.int .u32 (cy : Int))).alloc (.cells #[.int .u32 (cy : Int)] 72) = W5 := ⟨_, rfl⟩
    have hst5 : Stp w.heap.size W W5 := by rw [← hW5]; exact ((Stp.refl _ W).set (by simp) _).alloc (by simp [World.setCell]; omega) _
    have harr5 : Arr W5 (w.heap.size + 1) (outs ++ [cy]) := by
      have := arr_alloc (arr_set harr l2.length cy) (.cells #[.int .u32 (cy : Int)] 72)
      rw [set_snoc outs (l2.length + 1 - l2.length) cy l2.length Hol.out (by omega), show l2.length + 1 - l2.length - 1 = 0 by omega] at this
      rw [← hW5]; simpa using this
    rw [hW5]
    clear hW5
    have hK5 := hst5.keeps.same D _ hK rfl
    have hww : Words (outs ++ [cy]) := words_append.2 ⟨how, fun u hu => by simp at hu; rw [hu]; show cy < 4294967296; omega⟩
    have hlen : (outs ++ [cy]).length = l2.length + 1 := by simp [Hol.out]
    have hrd := arr_rd harr5 hww (by omega)
    have ht := fun n => trim_in n (some ⟨w.heap.size + 1, 0, none⟩) (l2.length + 1) (outs ++ [cy]) W5 hrd (by omega)
    have hval' : trim (outs ++ [cy]) = lim (val l2 + val l1) := by
      unfold trim
      have := hval.out
      rw [List.take_length, List.take_of_length_le (by omega)] at this
      rw [val_snoc, Hol.out, this]
    rw [hval', hlen] at ht
    have hrd2 := hrd.trim
    have htl := trim_length_le hww
    rw [hval'] at hrd2 htl
    have hDl := (Array.getElem?_eq_some_iff.1 hK5).1
    clear hval hval'
    refine ⟨trivial, ?_⟩
    refine (ht _).mono ?_
    rintro e w' ⟨rfl, rfl⟩
    gi_wp2
    refine ⟨by simp, .inl ⟨_, _, rfl, run_takeDeferred hK5, ?_⟩⟩
    exact ⟨_, results_tmp rfl _ _ _, _, _, rfl, by omega, hrd2.putObj _ hK5 rfl, hbl.trans (hst5.below.trans (belowK_b (w := w) (Nat.le_refl _) W5 D _ _ (by omega) hK5 rfl rfl))⟩

/-- '(nat).add' -/
theorem add_calls (A1 A2 : Option Addr) (c1 c2 : Nat) (l1 l2 : List Nat) (w : World) (h1 : Rd w A1 l1) (h2 : Rd w A2 l2) (hc1 : l1.length ≤ c1) (hc2 : l2.length ≤ c2)
    (hs1 : l1.length ≤ 1048576) (hs2 : l2.length ≤ 1048576) :
    Calls Tryd.prog 58 #[.slice A1 l1.length c1, .slice A2 l2.length c2] w (RetNat (val l1 + val l2) w) := by
  by_cases h : l1.length < l2.length
  · rw [Nat.add_comm]; exact add_lt A1 A2 c1 c2 l1 l2 w h1 h2 hc1 hc2 h hs2
  · exact add_ge A1 A2 c1 c2 l1 l2 w h1 h2 hc1 hc2 (by omega) hs1

end Nm
end Go.Proofs.YtlhmbbpkhahbeaaDoor
namespace Go.Proofs.YtlhmbbpkhahbeaaDoor
namespace Nm
open Go.RowKit

theorem ret_int {k : IntKind} {a b : Int} (h : a = b) : Ending.returned (.int k a) = .returned (.int k b) := by rw [h]

/-- how two numbers compare -/
def cmpZ (a b : Int) : Int := if a < b then -1 else if b < a then 1 else 0

theorem cmp_int_calls (a b : Int) (w : World) : Calls Tryd.prog 114 #[.int .i64 a, .int .i64 b] w fun e w' => e = .returned (.int .i64 (cmpZ a b)) ∧ w' = w := by
  by_cases h : a < b
  · go_enter Tryd.func114, Tryd.ntmps114
    go_wp2
    go_ret
    exact ⟨ret_int (by simp [cmpZ, h]), rfl⟩
  · by_cases h2 : b < a
    · go_enter Tryd.func114, Tryd.ntmps114
      go_wp2
      go_ret
      exact ⟨ret_int (by simp [cmpZ, h, h2]), rfl⟩
    · go_enter Tryd.func114, Tryd.ntmps114
      go_wp2
      go_ret
      exact ⟨ret_int (by simp only [cmpZ]; rw [if_neg (by omega), if_neg (by omega)]), rfl⟩

theorem cmp_u32_calls (a b : Int) (w : World) : Calls Tryd.prog 115 #[.int .u32 a, .int .u32 b] w fun e w' => e = .returned (.int .i64 (cmpZ a b)) ∧ w' = w := by
  by_cases h : a < b
  · go_enter Tryd.func115, Tryd.ntmps115
    go_wp2
    go_ret
    exact ⟨ret_int (by simp [cmpZ, h]), rfl⟩
  · by_cases h2 : b < a
    · go_enter Tryd.func115, Tryd.ntmps115
      go_wp2
      go_ret
      exact ⟨ret_int (by simp [cmpZ, h, h2]), rfl⟩
    · go_enter Tryd.func115, Tryd.ntmps115
      go_wp2
      go_ret
      exact ⟨ret_int (by simp only [cmpZ]; rw [if_neg (by omega), if_neg (by omega)]), rfl⟩

/-- what 'must' panics with -/
def wrong (e : Int) : List PanicEntry := [{ v := .iface 126 (.agg #[.int .i64 e]), recovered := false }]

theorem must_ok (e : Int) (w : World) : Calls Tryd.prog 56 #[.bool true, .int .i64 e] w fun x w' => x = .returned (.tuple #[]) ∧ w' = w := by
  go_enter Tryd.func56, Tryd.ntmps56
  go_wp2
  go_end0
  exact ⟨rfl, rfl⟩

theorem must_no (e : Int) (w : World) : Calls Tryd.prog 56 #[.bool false, .int .i64 e] w fun x w' => x = .panicked (wrong e) ∧ w' = w := by
  go_enter Tryd.func56, Tryd.ntmps56
  go_wp2
  exact ⟨rfl, rfl, rfl⟩

/-- formed: what Check accepts -/
def okI (neg : Bool) (l : List Nat) : Bool := if l.length = 0 then !neg else decide (l.length ≤ 300) && (l.getD (l.length - 1) 0 != 0)

abbrev iv (neg : Bool) (A : Option Addr) (n c : Nat) : Value := .agg #[.bool neg, .slice A n c]

set_option maxRecDepth 100000 in
set_option maxHeartbeats 1000000 in
theorem Check_calls (neg : Bool) (A : Option Addr) (c : Nat) (l : List Nat) (w : World) (hA : Rd w A l) (hc : l.length ≤ c) :
    Calls Tryd.prog 48 #[iv neg A l.length c] w fun e w' => e = .returned (.int .i64 (if okI neg l then 0 else 1)) ∧ Below w.heap.size w w' := by
  have hs := hA.small
  by_cases h300 : 300 < l.length
  · have hk : okI neg l = false := by unfold okI; rw [if_neg (by omega), show decide (l.length ≤ 300) = false from decide_eq_false (by omega)]; rfl
    rw [hk]
    clear hk
    simp only [Bool.false_eq_true, if_false]
    go_enter Tryd.func48, Tryd.ntmps48
    go_wp2
    go_ret
    exact ⟨rfl, (Below.refl _ _).alloc (Nat.le_refl _) _⟩
  · by_cases h0 : l.length = 0
    · obtain rfl : l = [] := List.length_eq_zero_iff.1 h0
      cases neg
      · have hk : okI false [] = true := by decide
        rw [hk, if_pos rfl]
        clear hk
        go_enter Tryd.func48, Tryd.ntmps48
        go_wp2
        go_ret
        exact ⟨rfl, (Below.refl _ _).alloc (Nat.le_refl _) _⟩
      · have hk : okI true [] = false := by decide
        rw [hk]
        clear hk
        simp only [Bool.false_eq_true, if_false]
        go_enter Tryd.func48, Tryd.ntmps48
        go_wp2
        go_ret
        exact ⟨rfl, (Below.refl _ _).alloc (Nat.le_refl _) _⟩
    · obtain ⟨b, o, x, rfl, hcx, hx, hxb⟩ := hA.get (l.length - 1) (by omega)
      have hbl : b < w.heap.size := World.block_lt_of_cell? w _ hcx
      have h0' : ((l.length : Int) == 0) = false := by rw [beq_eq_false_iff_ne]; omega
      have hp : 0 < l.length := by omega
      by_cases hx0 : x = 0
      · subst hx0
        have hk : okI neg l = false := by unfold okI; rw [if_neg h0, hx.out]; simp
        rw [hk]
        clear hk h0
        simp only [Bool.false_eq_true, if_false]
        have h300' : decide ((300 : Int) < (l.length : Int)) = false := decide_eq_false (by omega)
        go_enter Tryd.func48, Tryd.ntmps48
        go_wp2
        go_ret
        exact ⟨rfl, (Below.refl _ _).alloc (Nat.le_refl _) _⟩
      · have hx1 : ((x : Int) == 0) = false := by simp; omega
        have hk : okI neg l = true := by unfold okI; rw [if_neg h0, hx.out]; simp [hx0]; omega
        rw [hk, if_pos rfl]
        clear hk h0
        go_enter Tryd.func48, Tryd.ntmps48
        go_wp2
        go_ret
        exact ⟨rfl, (Below.refl _ _).alloc (Nat.le_refl _) _⟩

/-- the number of an integer -/
def toZ (neg : Bool) (l : List Nat) : Int := if neg then -(val l : Int) else val l

/-- -1, 0 or 1 -/
def sgn (neg : Bool) (l : List Nat) : Int := if l.length = 0 then 0 else if neg then -1 else 1

set_option maxHeartbeats 1000000 in
theorem sign_calls (neg : Bool) (A : Option Addr) (c : Nat) (l : List Nat) (w : World) :
    Calls Tryd.prog 121 #[iv neg A l.length c] w fun e w' => e = .returned (.int .i64 (sgn neg l)) ∧ w' = w.alloc (.cells #[.bool neg, .slice A l.length c] 24) := by
  by_cases h0 : l.length = 0
  · obtain rfl : l = [] := List.length_eq_zero_iff.1 h0
    go_enter Tryd.func121, Tryd.ntmps121
    go_wp2
    go_ret
    exact ⟨rfl, rfl⟩
  · have h0' : ((l.length : Int) == 0) = false := by rw [beq_eq_false_iff_ne]; omega
    cases neg
    · have hg : sgn false l = 1 := by unfold sgn; rw [if_neg h0]; rfl
      rw [hg]
      clear h0 hg
      go_enter Tryd.func121, Tryd.ntmps121
      go_wp2
      go_ret
      exact ⟨rfl, rfl⟩
    · have hg : sgn true l = -1 := by unfold sgn; rw [if_neg h0]; rfl
      rw [hg]
      clear h0 hg
      go_enter Tryd.func121, Tryd.ntmps121
      go_wp2
      go_ret
      exact ⟨rfl, rfl⟩

set_option maxHeartbeats 1000000 in
theorem compare_ne (A1 A2 : Option Addr) (c1 c2 : Nat) (l1 l2 : List Nat) (w : World) (h : l1.length ≠ l2.length) :
    Calls Tryd.prog 69 #[.slice A1 l1.length c1, .slice A2 l2.length c2] w fun e w' => e = .returned (.int .i64 (cmpZ l1.length l2.length)) ∧ ∃ n, w' = w.drewN n := by
  have h' : ((l1.length : Int) != (l2.length : Int)) = true := by rw [bne_iff_ne]; omega
  clear h
  go_enter Tryd.func69, Tryd.ntmps69
  go_wp2_with (go_at_call 114; refine (cmp_int_calls _ _ _).mono ?_; rintro e w' ⟨rfl, rfl⟩)
  go_ret
  exact ⟨rfl, 0, rfl⟩

set_option maxRecDepth 100000 in
set_option maxHeartbeats 2000000 in
theorem compare_eq (A1 A2 : Option Addr) (c1 c2 : Nat) (l1 l2 : List Nat) (w : World) (h1 : Rd w A1 l1) (h2 : Rd w A2 l2) (_hc1 : l1.length ≤ c1) (hc2 : l2.length ≤ c2) (h : l1.length = l2.length) :
    Calls Tryd.prog 69 #[.slice A1 l1.length c1, .slice A2 l2.length c2] w fun e w' => e = .returned (.int .i64 (cmpZ (val l1) (val l2))) ∧ ∃ n, w' = w.drewN n := by
  have hs := h1.small
  rw [← h]
  have hc2' : l1.length ≤ c2 := by omega
  have H := Lib.hid h
  have hne0 : ((l1.length : Int) != (l1.length : Int)) = false := by simp
  clear h hc2
  go_enter Tryd.func69, Tryd.ntmps69
  go_wp2
  go_loopw [5] (fun i w' => ∃ k : Nat, k ≤ l1.length ∧ i = .int .i64 ((k : Int) - 1) ∧ (∃ n, w' = w.drewN n) ∧ Hid (l1.drop k = l2.drop k)) (fun i _ => (intOf i + 1).toNat)
  case atStart => exact ⟨l1.length, Nat.le_refl _, rfl, ⟨0, rfl⟩, by show _ = _; rw [List.drop_of_length_le (Nat.le_refl _), List.drop_of_length_le (by have := H.out; omega)]⟩
  case round =>
    obtain ⟨k, hk, rfl, ⟨n0, rfl⟩, hd⟩ := hrel
    by_cases h0 : 0 < k
    · obtain ⟨k, rfl⟩ : ∃ j, k = j + 1 := ⟨k - 1, by omega⟩
      obtain ⟨b1, o1, x, rfl, hcx, hx, hxb⟩ := h1.get k (by omega)
      obtain ⟨b2, o2, y, rfl, hcy, hy, hyb⟩ := h2.get k (by have := H.out; omega)
      rw [show ((k + 1 : Nat) : Int) - 1 = (k : Int) by omega]
      clear h0
      by_cases hxy : x = y
      · subst hxy
        have hne : ((x : Int) != (x : Int)) = false := by simp
        go_wp2
        go_quiet (fail)
        go_wp2
        go_roundw
        case rel =>
          refine ⟨k, by omega, rfl, ⟨_, rfl⟩, ?_⟩
          show _ = _
          have e1 : l1.drop k = x :: l1.drop (k + 1) := by
            have := hx.out
            rw [List.getD_eq_getElem?_getD, List.getElem?_eq_getElem (by omega)] at this
            rw [List.drop_eq_getElem_cons (by omega)]; rw [show l1[k] = x by simpa using this]
          have e2 : l2.drop k = x :: l2.drop (k + 1) := by
            have := hy.out
            rw [List.getD_eq_getElem?_getD, List.getElem?_eq_getElem (by have := H.out; omega)] at this
            rw [List.drop_eq_getElem_cons (by have := H.out; omega)]; rw [show l2[k] = x by simpa using this]
          rw [e1, e2, hd.out]
        case measure => simp [intOf]
      · have hne : ((x : Int) != (y : Int)) = true := by rw [bne_iff_ne]; omega
        go_wp2
        go_quiet (fail)
        rw [World.drewN_drewN]
        obtain ⟨W, hW⟩ : ∃ W, w.drewN (n0 + nq) = W := ⟨_, rfl⟩
        replace hcx : W.cell? ⟨b1, o1 + k, none⟩ = some (.int .u32 (x : Int)) := by rw [← hW]; exact hcx
        replace hcy : W.cell? ⟨b2, o2 + k, none⟩ = some (.int .u32 (y : Int)) := by rw [← hW]; exact hcy
        rw [hW]
        have HW := Lib.hid hW
        clear hW
        go_wp2
        go_quiet ((go_at_call 115; exact Calls.quiet_of_same (cmp_u32_calls _ _ _)))
        go_wp2
        go_ret
        refine ⟨ret_int ?_, ⟨_, by rw [← HW.out, World.drewN_drewN]⟩⟩
        have hl := H.out
        unfold cmpZ
        rcases Nat.lt_or_gt_of_ne hxy with hlt | hgt
        · have := val_drop_lt h1.words h2.words H.out (k := k) (by omega) hd.out (by rw [hx.out, hy.out]; exact hlt)
          rw [if_pos (by omega), if_pos (by omega)]
        · have := val_drop_lt h2.words h1.words H.out.symm (k := k) (by omega) hd.out.symm (by rw [hx.out, hy.out]; exact hgt)
          rw [if_neg (by omega), if_pos (by omega), if_neg (by omega), if_pos (by omega)]
    · obtain rfl : k = 0 := by omega
      go_wp2
      go_ret
      have e : l1 = l2 := by simpa using hd.out
      exact ⟨ret_int (by rw [e]; simp [cmpZ]), n0, rfl⟩

/-- '(nat).compare' of magnitudes without zeros on top -/
theorem compare_calls (A1 A2 : Option Addr) (c1 c2 : Nat) (l1 l2 : List Nat) (w : World) (h1 : Rd w A1 l1) (h2 : Rd w A2 l2) (hc1 : l1.length ≤ c1) (hc2 : l2.length ≤ c2) (k1 : Canon l1) (k2 : Canon l2) :
    Calls Tryd.prog 69 #[.slice A1 l1.length c1, .slice A2 l2.length c2] w fun e w' => e = .returned (.int .i64 (cmpZ (val l1) (val l2))) ∧ ∃ n, w' = w.drewN n := by
  by_cases h : l1.length = l2.length
  · exact compare_eq A1 A2 c1 c2 l1 l2 w h1 h2 hc1 hc2 h
  · refine (compare_ne A1 A2 c1 c2 l1 l2 w h).mono ?_
    rintro e w' ⟨rfl, h'⟩
    refine ⟨ret_int ?_, h'⟩
    unfold cmpZ
    rcases Nat.lt_or_gt_of_ne h with hlt | hgt
    · have := val_lt_of_length k1.1 k2 hlt
      rw [if_pos (by omega), if_pos (by omega)]
    · have := val_lt_of_length k2.1 k1 hgt
      rw [if_neg (by omega), if_pos (by omega), if_neg (by omega), if_pos (by omega)]

end Nm
end Go.Proofs.YtlhmbbpkhahbeaaDoor
namespace Go.Proofs.YtlhmbbpkhahbeaaDoor
namespace Nm
open Go.RowKit Go.Shelf Go.BigFrame
attribute [local go_sem] Oper.semAt_some


theorem sub_step {l1 l2 outs : List Nat} {k cy x y z q : Nat} (hx : l1.getD k 0 = x) (hy : l2.getD k 0 = y) (hl : outs.length = k)
    (hzq : x + BB * q = z + (y + cy)) (h : val (l1.take k) + BB ^ k * cy = val outs + val (l2.take k)) :
    val (l1.take (k + 1)) + BB ^ (k + 1) * q = val (outs ++ [z]) + val (l2.take (k + 1)) := by
  rw [val_snoc, val_take_succ l1 k x hx, val_take_succ l2 k y hy, hl, Nat.pow_succ, Nat.mul_assoc]
  have : BB ^ k * (x + BB * q) = BB ^ k * (z + (y + cy)) := by rw [hzq]
  simp only [Nat.mul_add] at this
  omega

set_option maxRecDepth 100000 in
set_option maxHeartbeats 2000000 in
theorem sub_calls (A1 A2 : Option Addr) (c1 c2 : Nat) (l1 l2 : List Nat) (w : World) (h1 : Rd w A1 l1) (h2 : Rd w A2 l2) (_hc1 : l1.length ≤ c1) (hc2 : l2.length ≤ c2)
    (hle : val l2 ≤ val l1) (hll : l2.length ≤ l1.length) (hsm : l1.length ≤ 1048576) :
    Calls Tryd.prog 59 #[.slice A1 l1.length c1, .slice A2 l2.length c2] w (RetNat (val l1 - val l2) w) := by
  refine (callsIn_wide (n := 5)).1 ?_
  refine callsIn_of_wp_marks Tryd.func59 rfl trivial ?_ rfl
  simp only [Tryd.ntmps59, List.size_toArray, List.length_cons, List.length_nil, Nat.reduceAdd, Nat.reduceSub, Array.replicate_succ, Array.replicate_zero, List.push_toArray, List.append_toArray, List.nil_append, List.cons_append]
  have hs1 := h1.small
  have hs2 := h2.small
  have Hle := Lib.hid hle
  clear hle
  have hmk := make_nat (l1.length : Int) (l1.length : Int) l1.length l1.length rfl rfl (by omega) (by omega)
  gi_wp2_with (refine ⟨trivial, ?_⟩; gi_at_call 100; refine (callsIn_wide.2 (limbs_calls _ _ _ _)).mono ?_; rintro e w2 ⟨rfl, rfl⟩)
  clear hmk
  obtain ⟨w3, hw3⟩ : ∃ w3, allocs w [.cells #[.slice A2 l2.length c2] 79, .cells (warr (List.replicate l1.length 0)) 72, .cells #[.slice (some ⟨w.heap.size + 1, 0, none⟩) l1.length l1.length] 79, .cells #[.int .u64 0] 102, .cells #[.slice A1 l1.length c1] 79] = w3 := ⟨_, rfl⟩
  have hget := allocs_get w [.cells #[.slice A2 l2.length c2] 79, .cells (warr (List.replicate l1.length 0)) 72, .cells #[.slice (some ⟨w.heap.size + 1, 0, none⟩) l1.length l1.length] 79, .cells #[.int .u64 0] 102, .cells #[.slice A1 l1.length c1] 79]
  have hs3 := allocs_stp w [.cells #[.slice A2 l2.length c2] 79, .cells (warr (List.replicate l1.length 0)) 72, .cells #[.slice (some ⟨w.heap.size + 1, 0, none⟩) l1.length l1.length] 79, .cells #[.int .u64 0] 102, .cells #[.slice A1 l1.length c1] 79] (Nat.le_refl w.heap.size)
  have hsz3 := allocs_size w [.cells #[.slice A2 l2.length c2] 79, .cells (warr (List.replicate l1.length 0)) 72, .cells #[.slice (some ⟨w.heap.size + 1, 0, none⟩) l1.length l1.length] 79, .cells #[.int .u64 0] 102, .cells #[.slice A1 l1.length c1] 79]
  rw [hw3] at hget hs3 hsz3
  simp only [allocs] at hw3
  rw [hw3]
  clear hw3
  replace hsz3 : w.heap.size + 5 ≤ w3.heap.size := by rw [hsz3]; exact Nat.le_refl _
  have hB0 : Boxed w3 w.heap.size 79 (.slice A2 l2.length c2) := hget 0 (by simp)
  have hB1 : Arr w3 (w.heap.size + 1) (List.replicate l1.length 0) := arr_of (hget 1 (by simp))
  have hB2 : Boxed w3 (w.heap.size + 2) 79 (.slice (some ⟨w.heap.size + 1, 0, none⟩) l1.length l1.length) := hget 2 (by simp)
  have hB3 : Boxed w3 (w.heap.size + 3) 102 (.int .u64 0) := hget 3 (by simp)
  have hB4 : Boxed w3 (w.heap.size + 4) 79 (.slice A1 l1.length c1) := hget 4 (by simp)
  clear hget
  refine wpIn_limbs_p (n₀ := w.heap.size) (l := l1) rfl (by omega) (gf := 122) (lb := #[.pointer (some ⟨w.heap.size + 4, 0, none⟩)]) rfl trivial (enters_of Tryd.func122 (by kernel_rfl) rfl)
    (limbs1_in _ (w.heap.size + 4) A1 c1 l1 w.heap.size w3 hB4.cell (h1.below hs3.below rfl) (by omega) (rd_block h1)) (by omega) (Below.refl _ _) rfl
    (fun k W => ∃ (outs : List Nat) (cy : Nat), Boxed W w.heap.size 79 (.slice A2 l2.length c2) ∧ Arr W (w.heap.size + 1) (outs ++ List.replicate (l1.length - k) 0) ∧ Boxed W (w.heap.size + 2) 79 (.slice (some ⟨w.heap.size + 1, 0, none⟩) l1.length l1.length) ∧ Boxed W (w.heap.size + 3) 102 (.int .u64 (cy : Int)) ∧ Below w.heap.size w W ∧ cy ≤ 1 ∧ outs.length = k ∧ Words outs ∧ Hid (val (l1.take k) + BB ^ k * cy = val outs + val (l2.take k)))
    ?own ?start ?round ?done
  case own =>
    rintro k X Y row ⟨outs, cy, a0, a1, a2, a3, hbl, rest⟩ hg hr
    exact ⟨outs, cy, boxed_ownF _ _ _ (fun _ => _) k X Y row a0 hg hr, arr_ownF _ _ (fun _ => _) k X Y row a1 hg hr, boxed_ownF _ _ _ (fun _ => _) k X Y row a2 hg hr, boxed_ownF _ _ _ (fun _ => _) k X Y row a3 hg hr, ownFrom_below (Nat.le_refl _) (by omega) k X Y row hbl hg hr, rest⟩
  case start => exact ⟨[], 0, hB0, hB1, hB2, hB3, hs3.below, by omega, rfl, words_nil, by simp [Hid, val]⟩
  case round =>
    intro k W hk
    obtain ⟨x, hx, hxb⟩ : ∃ x, Hid (l1.getD k 0 = x) ∧ x < 4294967296 := ⟨_, rfl, words_getD h1.words k⟩
    obtain ⟨y, hy, hyb⟩ : ∃ y, Hid (l2.getD k 0 = y) ∧ y < 4294967296 := ⟨_, rfl, words_getD h2.words k⟩
    rw [hx.out]
    have hat : ∀ n w', Rd w' A2 l2 → CallsIn Fence.wide n Tryd.prog 107 #[.slice A2 l2.length c2, .int .i64 (k : Int)] w' fun e w'' => e = .returned (.int .u32 (y : Int)) ∧ w'' = w' := by
      intro n w' h; have := at_in n A2 c2 l2 k w' h hc2; rwa [hy.out] at this
    gi_wp2
    refine ⟨trivial, ?_⟩
    clear W
    rintro W ⟨outs, cy, hbb, harr, hbo, hbc, hbl, hcy, hol, how, hval⟩
    have Hol := Lib.hid hol
    clear hol
    obtain ⟨u, g4⟩ : ∃ u : Nat, W.cell? ⟨w.heap.size + 1, k, none⟩ = some (.int .u32 (u : Int)) := ⟨_, arr_cell harr k (by have := Hol.out; simp; omega)⟩
    have f4 := arr_frozen harr k
    have ghbb := hbb.cell
    have fhbb := hbb.frozen
    have thbb := hbb.lt
    have tharr := arr_lt harr
    have ghbo := hbo.cell
    have fhbo := hbo.frozen
    have thbo := hbo.lt
    have ghbc := hbc.cell
    have fhbc := hbc.frozen
    have thbc := hbc.lt
    obtain ⟨d, d1, d2⟩ : ∃ d : Nat, IntKind.u64.wrap ((x : Int) - (y : Int)) = (d : Int) ∧ Hid ((d : Int) = ((x : Int) - (y : Int)) % 18446744073709551616) := by
      obtain ⟨d, hd⟩ := Int.eq_ofNat_of_zero_le (show 0 ≤ ((x : Int) - (y : Int)) % 18446744073709551616 by omega)
      exact ⟨d, by rw [← hd]; rfl, hd.symm⟩
    obtain ⟨v, v1, v2⟩ : ∃ v : Nat, IntKind.u64.wrap ((d : Int) - (cy : Int)) = (v : Int) ∧ Hid ((v : Int) = ((d : Int) - (cy : Int)) % 18446744073709551616) := by
      obtain ⟨d, hd⟩ := Int.eq_ofNat_of_zero_le (show 0 ≤ ((d : Int) - (cy : Int)) % 18446744073709551616 by omega)
      exact ⟨d, by rw [← hd]; rfl, hd.symm⟩
    obtain ⟨z, z1, z2⟩ : ∃ z : Nat, (v : Int) % 4294967296 = (z : Int) ∧ Hid (z = v % 4294967296) := ⟨v % 4294967296, by omega, rfl⟩
    gi_wp2
    have hwide : ∀ f, Fence.wide.fn f := fun _ => trivial
    refine wpIn_region_all (by kernel_rfl) (by kernel_rfl) (by kernel_rfl) ?_
    repeat (gi_big_quiet_step ((gi_at_call 107; exact CallsIn.quiet_of_same (CallsIn.inRound _ (hat _ _ (h2.below (below_drewN hbl _) rfl))))))
    refine wpQuietIn_nil ?_
    intro m
    gi_wp2
    obtain ⟨q, q1, q2⟩ : ∃ q : Nat, (v : Int) / 9223372036854775808 = (q : Int) ∧ q = v / 9223372036854775808 := ⟨v / 9223372036854775808, by omega, rfl⟩
    rw [q1]
    simp only [Nat.add_assoc, Nat.reduceAdd]
    have D2 := d2.out
    have V2 := v2.out
    have Z2 := z2.out
    have hq2 : q ≤ 1 ∧ x + 4294967296 * q = z + (y + cy) := by omega
    refine limb_end (by (repeat (first | with_reducible exact Stp.refl _ _ | with_reducible refine Stp.set ?_ (by simp) _ | with_reducible refine Stp.alloc ?_ (by simp; omega) _ | with_reducible refine Stp.drewN ?_ _))) (fun hst => ⟨outs ++ [z], q, by (repeat (first | with_reducible exact hbb | with_reducible exact HasBox.of hbb | with_reducible refine boxed_other ?_ (by omega) _ | with_reducible refine boxed_set _ ?_ | with_reducible refine HasBox.set ?_ _ _ | with_reducible refine HasBox.alloc ?_ _ | with_reducible refine HasBox.drewN ?_ _ | with_reducible refine Boxed.alloc ?_ _ | with_reducible refine boxed_drewN ?_ _)), ?_, by (repeat (first | with_reducible exact hbo | with_reducible exact HasBox.of hbo | with_reducible refine boxed_other ?_ (by omega) _ | with_reducible refine boxed_set _ ?_ | with_reducible refine HasBox.set ?_ _ _ | with_reducible refine HasBox.alloc ?_ _ | with_reducible refine HasBox.drewN ?_ _ | with_reducible refine Boxed.alloc ?_ _ | with_reducible refine boxed_drewN ?_ _)), by (repeat (first | with_reducible exact hbc | with_reducible exact HasBox.of hbc | with_reducible refine boxed_other ?_ (by omega) _ | with_reducible refine boxed_set _ ?_ | with_reducible refine HasBox.set ?_ _ _ | with_reducible refine HasBox.alloc ?_ _ | with_reducible refine HasBox.drewN ?_ _ | with_reducible refine Boxed.alloc ?_ _ | with_reducible refine boxed_drewN ?_ _)), hbl.trans hst.below, hq2.1, by simp [Hol.out], ?_, ?_⟩)
    · rw [show l1.length - (k + 1) = l1.length - k - 1 by omega, ← set_snoc outs (l1.length - k) z k Hol.out (by omega)]
      (repeat (first | with_reducible exact harr | with_reducible refine arr_other ?_ (by omega) _ | with_reducible refine arr_set ?_ _ _ | with_reducible refine arr_alloc ?_ _ | with_reducible refine arr_drewN ?_ _))
    · exact words_append.2 ⟨how, fun u hu => by simp at hu; rw [hu]; show z < 4294967296; omega⟩
    · exact sub_step hx.out hy.out Hol.out hq2.2 hval.out
  case done =>
    rintro D W hD ⟨outs, cy, hbb, harr, hbo, hbc, hbl, hcy, hol, how, hval⟩ hK
    have Hol := Lib.hid hol
    clear hol
    have ghbb := hbb.cell
    have fhbb := hbb.frozen
    have thbb := hbb.lt
    have ghbo := hbo.cell
    have fhbo := hbo.frozen
    have thbo := hbo.lt
    have ghbc := hbc.cell
    have fhbc := hbc.frozen
    have thbc := hbc.lt
    have tharr := arr_lt harr
    gi_wp2
    obtain ⟨W5, hW5⟩ : ∃ W5, W = W5 := ⟨_, rfl⟩
    have hst5 : Stp w.heap.size W W5 := by rw [← hW5]; exact Stp.refl _ _
    have harr5 : Arr W5 (w.heap.size + 1) (outs) := by
      rw [← hW5]; simpa using harr
    rw [hW5]
    clear hW5
    have hK5 := hst5.keeps.same D _ hK rfl
    have hww : Words (outs) := how
    have hlen : (outs).length = l1.length := Hol.out
    have hrd := arr_rd harr5 hww (by omega)
    have ht := fun n => trim_in n (some ⟨(w.heap.size + 1), 0, none⟩) (l1.length) (outs) W5 hrd (by omega)
    have hval' : trim (outs) = lim (val l1 - val l2) := by
      unfold trim
      rw [show val (outs) = val l1 - val l2 from (by have h := hval.out; have hb := Hle.out; have ho := val_lt how; rw [Hol.out] at ho; rw [List.take_length, List.take_of_length_le hll] at h; rcases Nat.lt_or_ge 0 cy with hc | hc; (have : cy = 1 := by omega); subst this; rw [Nat.mul_one] at h; omega; (have : cy = 0 := by omega); subst this; rw [Nat.mul_zero] at h; omega)]
    rw [hval', hlen] at ht
    have hrd2 := hrd.trim
    have htl := trim_length_le hww
    rw [hval'] at hrd2 htl
    have hDl := (Array.getElem?_eq_some_iff.1 hK5).1
    clear hval hval'
    refine ⟨trivial, ?_⟩
    refine (ht _).mono ?_
    rintro e w' ⟨rfl, rfl⟩
    gi_wp2
    refine ⟨by simp, .inl ⟨_, _, rfl, run_takeDeferred hK5, ?_⟩⟩
    exact ⟨_, results_tmp rfl _ _ _, _, _, rfl, by omega, hrd2.putObj _ hK5 rfl, hbl.trans (hst5.below.trans (belowK_b (w := w) (Nat.le_refl _) W5 D _ _ (by omega) hK5 rfl rfl))⟩

end Nm
end Go.Proofs.YtlhmbbpkhahbeaaDoor
namespace Go.Proofs.YtlhmbbpkhahbeaaDoor
namespace Nm
open Go.RowKit Go.Shelf Go.BigFrame
attribute [local go_sem] Oper.semAt_some


theorem scaled_step {l outs : List Nat} {k cy x m n t : Nat} (hx : l.getD k 0 = x) (hl : outs.length = k) (ht : t = cy + x * m)
    (h : val outs + BB ^ k * cy = val (l.take k) * m + n) :
    val (outs ++ [t % BB]) + BB ^ (k + 1) * (t / BB) = val (l.take (k + 1)) * m + n := by
  rw [val_snoc, val_take_succ l k x hx, hl, Nat.pow_succ, Nat.mul_assoc, Nat.add_assoc, ← Nat.mul_add, Nat.mod_add_div, ht, Nat.mul_add, Nat.add_mul, Nat.mul_assoc]
  omega

theorem mul_words {x m : Nat} (hx : x < 4294967296) (hm : m < 4294967296) : x * m ≤ 18446744065119617025 := by
  have := Nat.mul_le_mul (show x ≤ 4294967295 by omega) (show m ≤ 4294967295 by omega)
  exact this

set_option maxRecDepth 100000 in
set_option maxHeartbeats 2000000 in
theorem scaled_calls (A : Option Addr) (c m n : Nat) (l : List Nat) (w : World) (h1 : Rd w A l) (_hc1 : l.length ≤ c) (hm : m < 4294967296) (hn : n < 4294967296) (hsm : l.length ≤ 1048576) :
    Calls Tryd.prog 89 #[.slice A l.length c, .int .u32 (m : Int), .int .u32 (n : Int)] w (RetNat (val l * m + n) w) := by
  refine (callsIn_wide (n := 5)).1 ?_
  refine callsIn_of_wp_marks Tryd.func89 rfl trivial ?_ rfl
  simp only [Tryd.ntmps89, List.size_toArray, List.length_cons, List.length_nil, Nat.reduceAdd, Nat.reduceSub, Array.replicate_succ, Array.replicate_zero, List.push_toArray, List.append_toArray, List.nil_append, List.cons_append]
  have hs1 := h1.small
  have hmk := make_nat 0 ((l.length : Int) + 1) 0 (l.length + 1) rfl (by simp) (by omega) (by omega)
  gi_wp2_with (refine ⟨trivial, ?_⟩; gi_at_call 100; refine (callsIn_wide.2 (limbs_calls _ _ _ _)).mono ?_; rintro e w2 ⟨rfl, rfl⟩)
  clear hmk
  obtain ⟨w3, hw3⟩ : ∃ w3, allocs w [.cells #[.int .u32 (m : Int)] 72, .cells (warr (List.replicate (l.length + 1) 0)) 72, .cells #[.slice (some ⟨w.heap.size + 1, 0, none⟩) 0 (l.length + 1)] 79, .cells #[.int .u64 (n : Int)] 102, .cells #[.slice A l.length c] 79] = w3 := ⟨_, rfl⟩
  have hget := allocs_get w [.cells #[.int .u32 (m : Int)] 72, .cells (warr (List.replicate (l.length + 1) 0)) 72, .cells #[.slice (some ⟨w.heap.size + 1, 0, none⟩) 0 (l.length + 1)] 79, .cells #[.int .u64 (n : Int)] 102, .cells #[.slice A l.length c] 79]
  have hs3 := allocs_stp w [.cells #[.int .u32 (m : Int)] 72, .cells (warr (List.replicate (l.length + 1) 0)) 72, .cells #[.slice (some ⟨w.heap.size + 1, 0, none⟩) 0 (l.length + 1)] 79, .cells #[.int .u64 (n : Int)] 102, .cells #[.slice A l.length c] 79] (Nat.le_refl w.heap.size)
  have hsz3 := allocs_size w [.cells #[.int .u32 (m : Int)] 72, .cells (warr (List.replicate (l.length + 1) 0)) 72, .cells #[.slice (some ⟨w.heap.size + 1, 0, none⟩) 0 (l.length + 1)] 79, .cells #[.int .u64 (n : Int)] 102, .cells #[.slice A l.length c] 79]
  rw [hw3] at hget hs3 hsz3
  simp only [allocs] at hw3
  rw [hw3]
  clear hw3
  replace hsz3 : w.heap.size + 5 ≤ w3.heap.size := by rw [hsz3]; exact Nat.le_refl _
  have hB0 : Boxed w3 w.heap.size 72 (.int .u32 (m : Int)) := hget 0 (by simp)
  have hB1 : Arr w3 (w.heap.size + 1) (List.replicate (l.length + 1) 0) := arr_of (hget 1 (by simp))
  have hB2 : Boxed w3 (w.heap.size + 2) 79 (.slice (some ⟨w.heap.size + 1, 0, none⟩) 0 (l.length + 1)) := hget 2 (by simp)
  have hB3 : Boxed w3 (w.heap.size + 3) 102 (.int .u64 (n : Int)) := hget 3 (by simp)
  have hB4 : Boxed w3 (w.heap.size + 4) 79 (.slice A l.length c) := hget 4 (by simp)
  clear hget
  refine wpIn_limbs_p (n₀ := w.heap.size) (l := l) rfl (by omega) (gf := 122) (lb := #[.pointer (some ⟨w.heap.size + 4, 0, none⟩)]) rfl trivial (enters_of Tryd.func122 (by kernel_rfl) rfl)
    (limbs1_in _ (w.heap.size + 4) A c l w.heap.size w3 hB4.cell (h1.below hs3.below rfl) (by omega) (rd_block h1)) (by omega) (Below.refl _ _) rfl
    (fun k W => ∃ (outs : List Nat) (cy : Nat), Boxed W w.heap.size 72 (.int .u32 (m : Int)) ∧ Arr W (w.heap.size + 1) (outs ++ List.replicate (l.length + 1 - k) 0) ∧ Boxed W (w.heap.size + 2) 79 (.slice (some ⟨w.heap.size + 1, 0, none⟩) k (l.length + 1)) ∧ Boxed W (w.heap.size + 3) 102 (.int .u64 (cy : Int)) ∧ Below w.heap.size w W ∧ cy < 4294967296 ∧ outs.length = k ∧ Words outs ∧ Hid (val outs + BB ^ k * cy = val (l.take k) * m + n))
    ?own ?start ?round ?done
  case own =>
    rintro k X Y row ⟨outs, cy, a0, a1, a2, a3, hbl, rest⟩ hg hr
    exact ⟨outs, cy, boxed_ownF _ _ _ (fun _ => _) k X Y row a0 hg hr, arr_ownF _ _ (fun _ => _) k X Y row a1 hg hr, boxed_ownF _ _ _ (fun _ => _) k X Y row a2 hg hr, boxed_ownF _ _ _ (fun _ => _) k X Y row a3 hg hr, ownFrom_below (Nat.le_refl _) (by omega) k X Y row hbl hg hr, rest⟩
  case start => exact ⟨[], n, hB0, hB1, hB2, hB3, hs3.below, hn, rfl, words_nil, by simp [Hid, val]⟩
  case round =>
    intro k W hk
    obtain ⟨x, hx, hxb⟩ : ∃ x, Hid (l.getD k 0 = x) ∧ x < 4294967296 := ⟨_, rfl, words_getD h1.words k⟩
    rw [hx.out]
    gi_wp2
    refine ⟨trivial, ?_⟩
    clear W
    rintro W ⟨outs, cy, hbb, harr, hbo, hbc, hbl, hcy, hol, how, hval⟩
    have Hol := Lib.hid hol
    clear hol
    obtain ⟨u, g4⟩ : ∃ u : Nat, W.cell? ⟨w.heap.size + 1, k, none⟩ = some (.int .u32 (u : Int)) := ⟨_, arr_cell harr k (by have := Hol.out; simp; omega)⟩
    have f4 := arr_frozen harr k
    have ghbb := hbb.cell
    have fhbb := hbb.frozen
    have thbb := hbb.lt
    have tharr := arr_lt harr
    have ghbo := hbo.cell
    have fhbo := hbo.frozen
    have thbo := hbo.lt
    have ghbc := hbc.cell
    have fhbc := hbc.frozen
    have thbc := hbc.lt
    obtain ⟨p, hp, hp2, hp3⟩ : ∃ p : Nat, (x : Int) * (m : Int) = (p : Int) ∧ p ≤ 18446744065119617025 ∧ Hid (p = x * m) := ⟨x * m, (Int.natCast_mul x m).symm, mul_words hxb hm, rfl⟩
    gi_wp2
    obtain ⟨z, hz⟩ : ∃ z : Nat, ((cy : Int) + (p : Int)) % 4294967296 = (z : Int) := ⟨(cy + p) % 4294967296, by omega⟩
    obtain ⟨q, hq⟩ : ∃ q : Nat, ((cy : Int) + (p : Int)) / 4294967296 = (q : Int) := ⟨(cy + p) / 4294967296, by omega⟩
    rw [hz, hq]
    simp only [Nat.add_assoc, Nat.reduceAdd]
    have hz' : z = (cy + p) % BB := by show z = _ % 4294967296; omega
    have hq' : q = (cy + p) / BB := by show q = _ / 4294967296; omega
    refine limb_end (by (repeat (first | with_reducible exact Stp.refl _ _ | with_reducible refine Stp.set ?_ (by simp) _ | with_reducible refine Stp.alloc ?_ (by simp; omega) _ | with_reducible refine Stp.drewN ?_ _))) (fun hst => ⟨outs ++ [z], q, by (repeat (first | with_reducible exact hbb | with_reducible exact HasBox.of hbb | with_reducible refine boxed_other ?_ (by omega) _ | with_reducible refine boxed_set _ ?_ | with_reducible refine HasBox.set ?_ _ _ | with_reducible refine HasBox.alloc ?_ _ | with_reducible refine HasBox.drewN ?_ _ | with_reducible refine Boxed.alloc ?_ _ | with_reducible refine boxed_drewN ?_ _)), ?_, by (repeat (first | with_reducible exact hbo | with_reducible exact HasBox.of hbo | with_reducible refine boxed_other ?_ (by omega) _ | with_reducible refine boxed_set _ ?_ | with_reducible refine HasBox.set ?_ _ _ | with_reducible refine HasBox.alloc ?_ _ | with_reducible refine HasBox.drewN ?_ _ | with_reducible refine Boxed.alloc ?_ _ | with_reducible refine boxed_drewN ?_ _)), by (repeat (first | with_reducible exact hbc | with_reducible exact HasBox.of hbc | with_reducible refine boxed_other ?_ (by omega) _ | with_reducible refine boxed_set _ ?_ | with_reducible refine HasBox.set ?_ _ _ | with_reducible refine HasBox.alloc ?_ _ | with_reducible refine HasBox.drewN ?_ _ | with_reducible refine Boxed.alloc ?_ _ | with_reducible refine boxed_drewN ?_ _)), hbl.trans hst.below, by omega, by simp [Hol.out], ?_, ?_⟩)
    · rw [show l.length + 1 - (k + 1) = l.length + 1 - k - 1 by omega, ← set_snoc outs (l.length + 1 - k) z k Hol.out (by omega)]
      (repeat (first | with_reducible exact harr | with_reducible refine arr_other ?_ (by omega) _ | with_reducible refine arr_set ?_ _ _ | with_reducible refine arr_alloc ?_ _ | with_reducible refine arr_drewN ?_ _))
    · exact words_append.2 ⟨how, fun u hu => by simp at hu; rw [hu, hz']; exact Nat.mod_lt _ (by decide)⟩
    · rw [hz', hq']; exact scaled_step hx.out Hol.out (by rw [hp3.out]) hval.out
  case done =>
    rintro D W hD ⟨outs, cy, hbb, harr, hbo, hbc, hbl, hcy, hol, how, hval⟩ hK
    have Hol := Lib.hid hol
    clear hol
    obtain ⟨u, g4⟩ : ∃ u : Nat, W.cell? ⟨w.heap.size + 1, l.length, none⟩ = some (.int .u32 (u : Int)) := ⟨_, arr_cell harr l.length (by have := Hol.out; simp; omega)⟩
    have f4 := arr_frozen harr l.length
    have ghbb := hbb.cell
    have fhbb := hbb.frozen
    have thbb := hbb.lt
    have tharr := arr_lt harr
    have ghbo := hbo.cell
    have fhbo := hbo.frozen
    have thbo := hbo.lt
    have ghbc := hbc.cell
    have fhbc := hbc.frozen
    have thbc := hbc.lt
    gi_wp2
    obtain ⟨W5, hW5⟩ : ∃ W5, (W.setCell ⟨w.heap.size + 1, l.length, none⟩ (.int .u32 (cy : Int))).alloc (.cells #[.int .u32 (cy : Int)] 72) = W5 := ⟨_, rfl⟩
    have hst5 : Stp w.heap.size W W5 := by rw [← hW5]; exact ((Stp.refl _ W).set (by simp) _).alloc (by simp [World.setCell]; omega) _
    have harr5 : Arr W5 (w.heap.size + 1) (outs ++ [cy]) := by
      have := arr_alloc (arr_set harr l.length cy) (.cells #[.int .u32 (cy : Int)] 72)
      rw [set_snoc outs (l.length + 1 - l.length) cy l.length Hol.out (by omega), show l.length + 1 - l.length - 1 = 0 by omega] at this
      rw [← hW5]; simpa using this
    rw [hW5]
    clear hW5
    have hK5 := hst5.keeps.same D _ hK rfl
    have hww : Words (outs ++ [cy]) := words_append.2 ⟨how, fun u hu => by simp at hu; rw [hu]; exact hcy⟩
    have hlen : (outs ++ [cy]).length = l.length + 1 := by simp [Hol.out]
    have hrd := arr_rd harr5 hww (by omega)
    have ht := fun n => trim_in n (some ⟨(w.heap.size + 1), 0, none⟩) (l.length + 1) (outs ++ [cy]) W5 hrd (by omega)
    have hval' : trim (outs ++ [cy]) = lim (val l * m + n) := by
      unfold trim
      rw [show val (outs ++ [cy]) = val l * m + n from (by have h := hval.out; rw [List.take_length] at h; rw [val_snoc, Hol.out, h])]
    rw [hval', hlen] at ht
    have hrd2 := hrd.trim
    have htl := trim_length_le hww
    rw [hval'] at hrd2 htl
    have hDl := (Array.getElem?_eq_some_iff.1 hK5).1
    clear hval hval'
    refine ⟨trivial, ?_⟩
    refine (ht _).mono ?_
    rintro e w' ⟨rfl, rfl⟩
    gi_wp2
    refine ⟨by simp, .inl ⟨_, _, rfl, run_takeDeferred hK5, ?_⟩⟩
    exact ⟨_, results_tmp rfl _ _ _, _, _, rfl, by omega, hrd2.putObj _ hK5 rfl, hbl.trans (hst5.below.trans (belowK_b (w := w) (Nat.le_refl _) W5 D _ _ (by omega) hK5 rfl rfl))⟩

end Nm
end Go.Proofs.YtlhmbbpkhahbeaaDoor
namespace Go.Proofs.YtlhmbbpkhahbeaaDoor
namespace Nm
open Go.RowKit Go.Shelf Go.BigFrame
attribute [local go_sem] Oper.semAt_some

theorem wraps_u64 (n : Int) (h₀ : 0 ≤ n) (h₁ : n < 2 ^ 64) : IntKind.u64.wrap n = n := by
  show n % 18446744073709551616 = n
  exact Int.emod_eq_of_lt h₀ h₁
theorem or_u64 (a b i : Nat) (ha : a < 2 ^ i) (hb : b % 2 ^ i = 0) (ha' : a < 2 ^ 64) (hb' : b < 2 ^ 64) : bits .or .u64 (a : Int) (b : Int) = ((a + b : Nat) : Int) := by
  rw [(bits_nat .u64 64 (by decide) wraps_u64 a b ha' hb').2]
  have hq : b = 2 ^ i * (b / 2 ^ i) := by have := Nat.div_add_mod b (2 ^ i); omega
  rw [hq, Nat.or_comm, ← Nat.two_pow_add_eq_or_of_lt ha (b / 2 ^ i), Nat.add_comm]
theorem or_u64' (a b i : Nat) (ha : a < 2 ^ i) (hb : b % 2 ^ i = 0) (ha' : a < 2 ^ 64) (hb' : b < 2 ^ 64) : bits .or .u64 (b : Int) (a : Int) = ((b + a : Nat) : Int) := by
  rw [(bits_nat .u64 64 (by decide) wraps_u64 b a hb' ha').2]
  have hq : b = 2 ^ i * (b / 2 ^ i) := by have := Nat.div_add_mod b (2 ^ i); omega
  rw [hq, ← Nat.two_pow_add_eq_or_of_lt ha (b / 2 ^ i)]

theorem shift_step {l outs : List Nat} {k cy x r t : Nat} (hx : l.getD k 0 = x) (hl : outs.length = k) (ht : t = cy + x * 2 ^ r)
    (h : val outs + BB ^ k * cy = val (l.take k) * 2 ^ r) :
    val (outs ++ [t % BB]) + BB ^ (k + 1) * (t / BB) = val (l.take (k + 1)) * 2 ^ r := by
  rw [val_snoc, val_take_succ l k x hx, hl, Nat.pow_succ, Nat.mul_assoc, Nat.add_assoc, ← Nat.mul_add, Nat.mod_add_div, ht, Nat.mul_add, Nat.add_mul, Nat.mul_assoc]
  omega

theorem shl_bound {x r : Nat} (hx : x < 4294967296) (hr : r < 32) : x * 2 ^ r < 9223372036854775808 := by
  have h1 : 2 ^ r ≤ 2 ^ 31 := Nat.pow_le_pow_right (by decide) (by omega)
  have h2 : x * 2 ^ r ≤ 4294967295 * 2 ^ 31 := Nat.mul_le_mul (by omega) h1
  exact Nat.lt_of_le_of_lt h2 (by decide)

theorem shl_over {x r cy : Nat} (hx : x < 4294967296) (hc : cy < 2 ^ r) : (cy + x * 2 ^ r) / 4294967296 < 2 ^ r := by
  rw [Nat.div_lt_iff_lt_mul (by decide)]
  have h2 : x * 2 ^ r + 2 ^ r ≤ 2 ^ r * 4294967296 := by
    rw [← Nat.succ_mul, Nat.mul_comm]; exact Nat.mul_le_mul (Nat.le_refl _) (by omega)
  omega

theorem val_shift (n s r : Nat) (outs : List Nat) (v : Nat) (h : n = 32 * s + r) (hv : val outs = v * 2 ^ r) : val (List.replicate s 0 ++ outs) = v * 2 ^ n := by
  rw [val_append, val_replicate, List.length_replicate, hv, h, Nat.pow_add, Nat.pow_mul, Nat.zero_add]
  show (2 ^ 32) ^ s * _ = _
  rw [Nat.mul_left_comm]



set_option maxRecDepth 100000 in
set_option maxHeartbeats 2000000 in
theorem shift_calls (A : Option Addr) (c n : Nat) (l : List Nat) (w : World) (h1 : Rd w A l) (_hc1 : l.length ≤ c) (hn : n ≤ 1048576) (hsm : l.length ≤ 1048576) :
    Calls Tryd.prog 104 #[.slice A l.length c, .int .i64 (n : Int)] w (RetNat (val l * 2 ^ n) w) := by
  obtain ⟨s, r, hsr, hr⟩ : ∃ s r, n = 32 * s + r ∧ r < 32 := ⟨n / 32, n % 32, by omega, by omega⟩
  refine (callsIn_wide (n := 5)).1 ?_
  refine callsIn_of_wp_marks Tryd.func104 rfl trivial ?_ rfl
  simp only [Tryd.ntmps104, List.size_toArray, List.length_cons, List.length_nil, Nat.reduceAdd, Nat.reduceSub, Array.replicate_succ, Array.replicate_zero, List.push_toArray, List.append_toArray, List.nil_append, List.cons_append]
  have hs1 := h1.small
  have e1 : (n : Int) / 32 = (s : Int) := by omega
  have e2 : (n : Int) % 32 = (r : Int) := by omega
  have Hsr := Lib.hid hsr
  have hs : s ≤ 1048576 := by omega
  clear hsr
  have hmk := make_nat (s : Int) ((s : Int) + (l.length : Int) + 1) s (s + l.length + 1) rfl (by simp) (by omega) (by omega)
  gi_wp2_with (refine ⟨trivial, ?_⟩; gi_at_call 100; refine (callsIn_wide.2 (limbs_calls _ _ _ _)).mono ?_; rintro e w2 ⟨rfl, rfl⟩)
  clear hmk
  obtain ⟨w3, hw3⟩ : ∃ w3, allocs w [.cells #[.int .i64 (n : Int)] 3, .cells (warr (List.replicate (s + l.length + 1) 0)) 72, .cells #[.slice (some ⟨w.heap.size + 1, 0, none⟩) s (s + l.length + 1)] 79, .cells #[.int .u64 0] 102, .cells #[.slice A l.length c] 79] = w3 := ⟨_, rfl⟩
  have hget := allocs_get w [.cells #[.int .i64 (n : Int)] 3, .cells (warr (List.replicate (s + l.length + 1) 0)) 72, .cells #[.slice (some ⟨w.heap.size + 1, 0, none⟩) s (s + l.length + 1)] 79, .cells #[.int .u64 0] 102, .cells #[.slice A l.length c] 79]
  have hs3 := allocs_stp w [.cells #[.int .i64 (n : Int)] 3, .cells (warr (List.replicate (s + l.length + 1) 0)) 72, .cells #[.slice (some ⟨w.heap.size + 1, 0, none⟩) s (s + l.length + 1)] 79, .cells #[.int .u64 0] 102, .cells #[.slice A l.length c] 79] (Nat.le_refl w.heap.size)
  have hsz3 := allocs_size w [.cells #[.int .i64 (n : Int)] 3, .cells (warr (List.replicate (s + l.length + 1) 0)) 72, .cells #[.slice (some ⟨w.heap.size + 1, 0, none⟩) s (s + l.length + 1)] 79, .cells #[.int .u64 0] 102, .cells #[.slice A l.length c] 79]
  rw [hw3] at hget hs3 hsz3
  simp only [allocs] at hw3
  rw [hw3]
  clear hw3
  replace hsz3 : w.heap.size + 5 ≤ w3.heap.size := by rw [hsz3]; exact Nat.le_refl _
  have hB0 : Boxed w3 w.heap.size 3 (.int .i64 (n : Int)) := hget 0 (by simp)
  have hB1 : Arr w3 (w.heap.size + 1) (List.replicate (s + l.length + 1) 0) := arr_of (hget 1 (by simp))
  have hB2 : Boxed w3 (w.heap.size + 2) 79 (.slice (some ⟨w.heap.size + 1, 0, none⟩) s (s + l.length + 1)) := hget 2 (by simp)
  have hB3 : Boxed w3 (w.heap.size + 3) 102 (.int .u64 0) := hget 3 (by simp)
  have hB4 : Boxed w3 (w.heap.size + 4) 79 (.slice A l.length c) := hget 4 (by simp)
  clear hget
  refine wpIn_limbs_p (n₀ := w.heap.size) (l := l) rfl (by omega) (gf := 122) (lb := #[.pointer (some ⟨w.heap.size + 4, 0, none⟩)]) rfl trivial (enters_of Tryd.func122 (by kernel_rfl) rfl)
    (limbs1_in _ (w.heap.size + 4) A c l w.heap.size w3 hB4.cell (h1.below hs3.below rfl) (by omega) (rd_block h1)) (by omega) (Below.refl _ _) rfl
    (fun k W => ∃ (outs : List Nat) (cy : Nat), Boxed W w.heap.size 3 (.int .i64 (n : Int)) ∧ Arr W (w.heap.size + 1) ((List.replicate s 0 ++ outs) ++ List.replicate (s + l.length + 1 - (s + k)) 0) ∧ Boxed W (w.heap.size + 2) 79 (.slice (some ⟨w.heap.size + 1, 0, none⟩) (s + k) (s + l.length + 1)) ∧ Boxed W (w.heap.size + 3) 102 (.int .u64 (cy : Int)) ∧ Below w.heap.size w W ∧ cy < 2 ^ r ∧ outs.length = k ∧ Words outs ∧ Hid (val outs + BB ^ k * cy = val (l.take k) * 2 ^ r))
    ?own ?start ?round ?done
  case own =>
    rintro k X Y row ⟨outs, cy, a0, a1, a2, a3, hbl, rest⟩ hg hr
    exact ⟨outs, cy, boxed_ownF _ _ _ (fun _ => _) k X Y row a0 hg hr, arr_ownF _ _ (fun _ => _) k X Y row a1 hg hr, boxed_ownF _ _ _ (fun _ => _) k X Y row a2 hg hr, boxed_ownF _ _ _ (fun _ => _) k X Y row a3 hg hr, ownFrom_below (Nat.le_refl _) (by omega) k X Y row hbl hg hr, rest⟩
  case start => exact ⟨[], 0, hB0, by rw [List.append_nil, List.replicate_append_replicate, show s + (s + l.length + 1 - (s + 0)) = s + l.length + 1 by omega]; exact hB1, hB2, hB3, hs3.below, Nat.two_pow_pos r, rfl, words_nil, by simp [Hid, val]⟩
  case round =>
    intro k W hk
    obtain ⟨x, hx, hxb⟩ : ∃ x, Hid (l.getD k 0 = x) ∧ x < 4294967296 := ⟨_, rfl, words_getD h1.words k⟩
    rw [hx.out]
    gi_wp2
    refine ⟨trivial, ?_⟩
    clear W
    rintro W ⟨outs, cy, hbb, harr, hbo, hbc, hbl, hcy, hol, how, hval⟩
    have Hol := Lib.hid hol
    clear hol
    obtain ⟨u, g4⟩ : ∃ u : Nat, W.cell? ⟨w.heap.size + 1, s + k, none⟩ = some (.int .u32 (u : Int)) := ⟨_, arr_cell harr (s + k) (by have := Hol.out; simp; omega)⟩
    have f4 := arr_frozen harr (s + k)
    have ghbb := hbb.cell
    have fhbb := hbb.frozen
    have thbb := hbb.lt
    have tharr := arr_lt harr
    have ghbo := hbo.cell
    have fhbo := hbo.frozen
    have thbo := hbo.lt
    have ghbc := hbc.cell
    have fhbc := hbc.frozen
    have thbc := hbc.lt
    obtain ⟨p, p1, p2, p3⟩ : ∃ p : Nat, IntKind.u64.wrap ((x : Int) * 2 ^ r) = (p : Int) ∧ Hid (p = x * 2 ^ r) ∧ Hid (p < 9223372036854775808) := by
      refine ⟨x * 2 ^ r, ?_, rfl, shl_bound hxb hr⟩
      have hb := shl_bound hxb hr
      have e : (x : Int) * 2 ^ r = ((x * 2 ^ r : Nat) : Int) := by simp
      rw [e]
      exact wraps_u64 _ (by omega) (by omega)
    obtain ⟨t, t1, t2, t3⟩ : ∃ t : Nat, bits .or .u64 (cy : Int) (p : Int) = (t : Int) ∧ Hid (t = cy + p) ∧ t < 18446744073709551616 := by
      have hb := p3.out
      have hc : cy < 2147483648 := Nat.lt_of_lt_of_le hcy (Nat.pow_le_pow_right (n := 2) (by decide) (show r ≤ 31 by omega))
      exact ⟨cy + p, or_u64 cy p r hcy (by rw [p2.out, Nat.mul_mod_left]) (by omega) (by omega), rfl, by omega⟩
    gi_wp2
    have hwide : ∀ f, Fence.wide.fn f := fun _ => trivial
    refine wpIn_region_tail 7 (by kernel_rfl) (by kernel_rfl) (by kernel_rfl) ?_
    simp only [List.take_succ_cons, List.take_zero, List.drop_succ_cons, List.drop_zero]
    repeat (gi_big_quiet_step ((fail)))
    refine wpQuietIn_nil ?_
    intro m
    gi_wp2
    obtain ⟨z, hz⟩ : ∃ z : Nat, (t : Int) % 4294967296 = (z : Int) := ⟨t % 4294967296, by omega⟩
    obtain ⟨q, hq⟩ : ∃ q : Nat, (t : Int) / 4294967296 = (q : Int) := ⟨t / 4294967296, by omega⟩
    rw [hz, hq]
    simp only [Nat.add_assoc, Nat.reduceAdd]
    have hz' : z = t % BB := by show z = _ % 4294967296; omega
    have hq' : q = t / BB := by show q = _ / 4294967296; omega
    have ht : t = cy + x * 2 ^ r := by rw [t2.out, p2.out]
    refine limb_end (by (repeat (first | with_reducible exact Stp.refl _ _ | with_reducible refine Stp.set ?_ (by simp) _ | with_reducible refine Stp.alloc ?_ (by simp; omega) _ | with_reducible refine Stp.drewN ?_ _))) (fun hst => ⟨outs ++ [z], q, by (repeat (first | with_reducible exact hbb | with_reducible exact HasBox.of hbb | with_reducible refine boxed_other ?_ (by omega) _ | with_reducible refine boxed_set _ ?_ | with_reducible refine HasBox.set ?_ _ _ | with_reducible refine HasBox.alloc ?_ _ | with_reducible refine HasBox.drewN ?_ _ | with_reducible refine Boxed.alloc ?_ _ | with_reducible refine boxed_drewN ?_ _)), ?_, by (repeat (first | with_reducible exact hbo | with_reducible exact HasBox.of hbo | with_reducible refine boxed_other ?_ (by omega) _ | with_reducible refine boxed_set _ ?_ | with_reducible refine HasBox.set ?_ _ _ | with_reducible refine HasBox.alloc ?_ _ | with_reducible refine HasBox.drewN ?_ _ | with_reducible refine Boxed.alloc ?_ _ | with_reducible refine boxed_drewN ?_ _)), by (repeat (first | with_reducible exact hbc | with_reducible exact HasBox.of hbc | with_reducible refine boxed_other ?_ (by omega) _ | with_reducible refine boxed_set _ ?_ | with_reducible refine HasBox.set ?_ _ _ | with_reducible refine HasBox.alloc ?_ _ | with_reducible refine HasBox.drewN ?_ _ | with_reducible refine Boxed.alloc ?_ _ | with_reducible refine boxed_drewN ?_ _)), hbl.trans hst.below, by rw [hq', ht]; exact shl_over hxb hcy, by simp [Hol.out], ?_, ?_⟩)
    · rw [← List.append_assoc (List.replicate s 0) outs [z], show s + (l.length + 1) - (s + (k + 1)) = s + l.length + 1 - (s + k) - 1 by omega, ← set_snoc (List.replicate s 0 ++ outs) (s + l.length + 1 - (s + k)) z (s + k) (by simp [Hol.out]) (by omega)]
      (repeat (first | with_reducible exact harr | with_reducible refine arr_other ?_ (by omega) _ | with_reducible refine arr_set ?_ _ _ | with_reducible refine arr_alloc ?_ _ | with_reducible refine arr_drewN ?_ _))
    · exact words_append.2 ⟨how, fun u hu => by simp at hu; rw [hu, hz']; exact Nat.mod_lt _ (by decide)⟩
    · rw [hz', hq']; exact shift_step hx.out Hol.out ht hval.out
  case done =>
    rintro D W hD ⟨outs, cy, hbb, harr, hbo, hbc, hbl, hcy, hol, how, hval⟩ hK
    have Hol := Lib.hid hol
    clear hol
    have hc : cy < 2147483648 := Nat.lt_of_lt_of_le hcy (Nat.pow_le_pow_right (n := 2) (by decide) (show r ≤ 31 by omega))
    obtain ⟨u, g4⟩ : ∃ u : Nat, W.cell? ⟨w.heap.size + 1, s + l.length, none⟩ = some (.int .u32 (u : Int)) := ⟨_, arr_cell harr (s + l.length) (by have := Hol.out; simp; omega)⟩
    have f4 := arr_frozen harr (s + l.length)
    have ghbb := hbb.cell
    have fhbb := hbb.frozen
    have thbb := hbb.lt
    have tharr := arr_lt harr
    have ghbo := hbo.cell
    have fhbo := hbo.frozen
    have thbo := hbo.lt
    have ghbc := hbc.cell
    have fhbc := hbc.frozen
    have thbc := hbc.lt
    gi_wp2
    obtain ⟨W5, hW5⟩ : ∃ W5, (W.setCell ⟨w.heap.size + 1, s + l.length, none⟩ (.int .u32 (cy : Int))).alloc (.cells #[.int .u32 (cy : Int)] 72) = W5 := ⟨_, rfl⟩
    have hst5 : Stp w.heap.size W W5 := by rw [← hW5]; exact ((Stp.refl _ W).set (by simp) _).alloc (by simp [World.setCell]; omega) _
    have harr5 : Arr W5 (w.heap.size + 1) (List.replicate s 0 ++ (outs ++ [cy])) := by
      have := arr_alloc (arr_set harr (s + l.length) cy) (.cells #[.int .u32 (cy : Int)] 72)
      rw [set_snoc (List.replicate s 0 ++ outs) (s + l.length + 1 - (s + l.length)) cy (s + l.length) (by simp [Hol.out]) (by omega), show s + l.length + 1 - (s + l.length) - 1 = 0 by omega] at this
      rw [← hW5]; simpa using this
    rw [hW5]
    clear hW5
    have hK5 := hst5.keeps.same D _ hK rfl
    have hww : Words (List.replicate s 0 ++ (outs ++ [cy])) := words_append.2 ⟨words_replicate s, words_append.2 ⟨how, fun u hu => by simp at hu; rw [hu]; show cy < 4294967296; omega⟩⟩
    have hlen : (List.replicate s 0 ++ (outs ++ [cy])).length = s + l.length + 1 := by simp [Hol.out]; omega
    have hrd := arr_rd harr5 hww (by omega)
    have ht := fun n => trim_in n (some ⟨(w.heap.size + 1), 0, none⟩) (s + l.length + 1) (List.replicate s 0 ++ (outs ++ [cy])) W5 hrd (by omega)
    have hval' : trim (List.replicate s 0 ++ (outs ++ [cy])) = lim (val l * 2 ^ n) := by
      unfold trim
      rw [show val (List.replicate s 0 ++ (outs ++ [cy])) = val l * 2 ^ n from (val_shift n s r _ _ Hsr.out (by have h := hval.out; rw [List.take_length] at h; rw [val_snoc, Hol.out, h]))]
    rw [hval', hlen] at ht
    have hrd2 := hrd.trim
    have htl := trim_length_le hww
    rw [hval'] at hrd2 htl
    have hDl := (Array.getElem?_eq_some_iff.1 hK5).1
    clear hval hval'
    refine ⟨trivial, ?_⟩
    refine (ht _).mono ?_
    rintro e w' ⟨rfl, rfl⟩
    gi_wp2
    refine ⟨by simp, .inl ⟨_, _, rfl, run_takeDeferred hK5, ?_⟩⟩
    exact ⟨_, results_tmp rfl _ _ _, _, _, rfl, by omega, hrd2.putObj _ hK5 rfl, hbl.trans (hst5.below.trans (belowK_b (w := w) (Nat.le_refl _) W5 D _ _ (by omega) hK5 rfl rfl))⟩

end Nm
end Go.Proofs.YtlhmbbpkhahbeaaDoor
