/-
  Contracts of the walks below, out of the texts A, B, C, R, M, D, E, F, G, H, I, J, K, L, O, P, Q.
-/
import Derived.Test.YtlhmbbpkhahbeaaGreatDoorProg
import Derived.Below
import Derived.WalkKit
import Derived.OwnWalk
import Derived.Deep.QuietTactic
import Derived.BigQuiet
import Derived.Lib.Hide
import Derived.WalkSmall
import Derived.WalkSpells
import Derived.RangeFuncNested
import Derived.RangeFuncBound
import Derived.RangeFuncCalls
import Derived.RangeFuncLeaves
import Derived.Shelf.Abstract
import Derived.Shelf.RegionOpen
import Derived.OwnWalkIn
import Derived.TacticsInMore
import Derived.LoopNIn
import Derived.LoopIn
import Derived.Sort.BigQuietIn
import Derived.StillTail
import Derived.Maps.AppendAt
import Derived.Laws.MakeOwn
import Derived.Laws.NewBlocks
import Derived.Test.YtlhmbbpkhahbeaaGreatDoorShelf
import Derived.Maps.OwnIn
namespace Go.Proofs.YtlhmbbpkhahbeaaGreatDoor
namespace Nm
/-- the base -/
abbrev BB : Nat := 4294967296
/-- the number of a list of words -/
def val : List Nat → Nat
  | [] => 0
  | x :: r => x + BB * val r
/-- all are words -/
def Words (l : List Nat) : Prop := ∀ x ∈ l, x < BB
/-- the words of a number, without a word 0 on top -/
def lim (n : Nat) : List Nat :=
  if _h : n = 0 then [] else n % BB :: lim (n / BB)
termination_by n
decreasing_by exact Nat.div_lt_self (by omega) (by decide)
theorem lim_zero : lim 0 = [] := by rw [lim]; simp
theorem lim_pos {n : Nat} (h : 0 < n) : lim n = n % BB :: lim (n / BB) := by rw [lim]; simp [show n ≠ 0 by omega]
theorem words_nil : Words [] := fun _ h => by cases h
theorem words_cons {x : Nat} {l : List Nat} : Words (x :: l) ↔ x < BB ∧ Words l := by simp [Words]
theorem words_append {a b : List Nat} : Words (a ++ b) ↔ Words a ∧ Words b := by
  simp only [Words, List.mem_append]
  exact ⟨fun h => ⟨fun x hx => h x (.inl hx), fun x hx => h x (.inr hx)⟩, fun h x hx => hx.elim (h.1 x) (h.2 x)⟩
theorem words_take {l : List Nat} (h : Words l) (k : Nat) : Words (l.take k) := fun x hx => h x (List.mem_of_mem_take hx)
theorem words_drop {l : List Nat} (h : Words l) (k : Nat) : Words (l.drop k) := fun x hx => h x (List.mem_of_mem_drop hx)
theorem words_getD {l : List Nat} (h : Words l) (i : Nat) : l.getD i 0 < BB := by
  rw [List.getD_eq_getElem?_getD]
  by_cases hi : i < l.length
  · simp only [List.getElem?_eq_getElem hi, Option.getD_some]; exact h _ (List.getElem_mem hi)
  · simp [List.getElem?_eq_none (by omega : l.length ≤ i)]
theorem words_replicate (k : Nat) : Words (List.replicate k 0) := fun x hx => by
  rw [List.mem_replicate] at hx; simp [hx.2]
theorem words_lim (n : Nat) : Words (lim n) := by
  induction n using Nat.strongRecOn with
  | _ n ih =>
    by_cases h : n = 0
    · subst h; rw [lim_zero]; exact words_nil
    · rw [lim_pos (by omega)]
      exact words_cons.2 ⟨Nat.mod_lt _ (by decide), ih _ (Nat.div_lt_self (by omega) (by decide))⟩
theorem val_lim (n : Nat) : val (lim n) = n := by
  induction n using Nat.strongRecOn with
  | _ n ih =>
    by_cases h : n = 0
    · subst h; rw [lim_zero]; rfl
    · rw [lim_pos (by omega)]
      simp only [val]
      rw [ih _ (Nat.div_lt_self (by omega) (by decide))]
      exact Nat.mod_add_div n BB
theorem val_append (a b : List Nat) : val (a ++ b) = val a + BB ^ a.length * val b := by
  induction a with
  | nil => simp [val]
  | cons x a ih =>
    simp only [List.cons_append, val, ih, List.length_cons, Nat.pow_succ]
    rw [Nat.mul_add, Nat.add_assoc, ← Nat.mul_assoc, Nat.mul_comm BB (BB ^ a.length)]
theorem val_replicate (k : Nat) : val (List.replicate k 0) = 0 := by
  induction k with
  | zero => rfl
  | succ k ih => simp [List.replicate_succ, val, ih]
theorem val_lt {l : List Nat} (h : Words l) : val l < BB ^ l.length := by
  induction l with
  | nil => simp [val]
  | cons x l ih =>
    have ⟨h1, h2⟩ := words_cons.1 h
    have := ih h2
    simp only [val, List.length_cons, Nat.pow_succ]
    have h3 : BB * val l + BB ≤ BB ^ l.length * BB := by
      rw [← Nat.mul_succ, Nat.mul_comm (BB ^ l.length)]; exact Nat.mul_le_mul (Nat.le_refl _) this
    omega
theorem val_snoc (l : List Nat) (x : Nat) : val (l ++ [x]) = val l + BB ^ l.length * x := by
  rw [val_append]; simp [val]
/-- no word 0 on top -/
def Canon (l : List Nat) : Prop := Words l ∧ (∀ h : l ≠ [], l.getLast h ≠ 0)
theorem canon_nil : Canon [] := ⟨words_nil, fun h => absurd rfl h⟩
theorem canon_cons {x : Nat} {l : List Nat} (h : Canon (x :: l)) : Canon l := by
  refine ⟨(words_cons.1 h.1).2, fun hl => ?_⟩
  have := h.2 (by simp)
  rwa [List.getLast_cons hl] at this
theorem val_pos_of_canon {l : List Nat} (h : Canon l) (hl : l ≠ []) : 0 < val l := by
  induction l with
  | nil => exact absurd rfl hl
  | cons x l ih =>
    by_cases e : l = []
    · subst e
      have := h.2 (by simp)
      simp only [List.getLast_singleton] at this
      simp only [val]; omega
    · have := ih (canon_cons h) e
      simp only [val]
      have := Nat.mul_pos (show 0 < BB by decide) this
      omega
theorem lim_val {l : List Nat} (h : Canon l) : lim (val l) = l := by
  induction l with
  | nil => exact lim_zero
  | cons x l ih =>
    have hp := val_pos_of_canon h (by simp)
    have hx := (words_cons.1 h.1).1
    rw [lim_pos hp]
    simp only [val]
    rw [Nat.add_mul_mod_self_left, Nat.mod_eq_of_lt hx, Nat.add_mul_div_left _ _ (by decide), Nat.div_eq_of_lt hx, Nat.zero_add, ih (canon_cons h)]
theorem canon_lim (n : Nat) : Canon (lim n) := by
  refine ⟨words_lim n, ?_⟩
  induction n using Nat.strongRecOn with
  | _ n ih =>
    intro h
    by_cases h0 : n = 0
    · subst h0; exact absurd lim_zero h
    · by_cases h1 : n / BB = 0
      · have e : lim n = [n % BB] := by rw [lim_pos (by omega), h1, lim_zero]
        simp only [e, List.getLast_singleton]
        have := Nat.mod_add_div n BB
        rw [h1] at this; omega
      · have e : lim n = n % BB :: lim (n / BB) := lim_pos (by omega)
        have hne : lim (n / BB) ≠ [] := by rw [lim_pos (Nat.pos_of_ne_zero h1)]; simp
        simp only [e]
        rw [List.getLast_cons hne]
        exact ih _ (Nat.div_lt_self (by omega) (by decide)) hne
theorem lim_inj {a b : Nat} (h : lim a = lim b) : a = b := by rw [← val_lim a, h, val_lim]
theorem lim_nil {n : Nat} : lim n = [] ↔ n = 0 := ⟨fun h => lim_inj (h.trans lim_zero.symm), fun h => by rw [h, lim_zero]⟩
theorem lim_length_pos {n : Nat} (h : 0 < n) : 0 < (lim n).length := by rw [lim_pos h]; simp
theorem lt_pow_length (n : Nat) : n < BB ^ (lim n).length := by
  have := val_lt (words_lim n); rwa [val_lim] at this
theorem length_le_of_lt {n k : Nat} (h : n < BB ^ k) : (lim n).length ≤ k := by
  induction k generalizing n with
  | zero => simp at h; subst h; simp [lim_zero]
  | succ k ih =>
    by_cases h0 : n = 0
    · subst h0; simp [lim_zero]
    · rw [lim_pos (by omega)]
      have : n / BB < BB ^ k := by rw [Nat.div_lt_iff_lt_mul (by decide)]; rwa [Nat.pow_succ] at h
      have := ih this
      simp; omega
theorem length_le_iff {n k : Nat} : (lim n).length ≤ k ↔ n < BB ^ k :=
  ⟨fun h => Nat.lt_of_lt_of_le (lt_pow_length n) (Nat.pow_le_pow_right (by decide) h), length_le_of_lt⟩
theorem length_mono {a b : Nat} (h : a ≤ b) : (lim a).length ≤ (lim b).length :=
  length_le_of_lt (Nat.lt_of_le_of_lt h (lt_pow_length b))
theorem pow_le_of_length {n k : Nat} (h : k < (lim n).length) : BB ^ k ≤ n := by
  by_cases hh : n < BB ^ k
  · have := length_le_of_lt hh; omega
  · omega
/-- words without the words 0 on top -/
def trim (l : List Nat) : List Nat := lim (val l)
theorem trim_canon {l : List Nat} (h : Canon l) : trim l = l := lim_val h
theorem trim_snoc_zero (l : List Nat) : trim (l ++ [0]) = trim l := by unfold trim; rw [val_snoc]; simp
/-- what is left of a list when its words from k on are 0 -/
theorem val_take_of_zero {l : List Nat} {k : Nat} (hz : ∀ i, k ≤ i → l.getD i 0 = 0) : val (l.take k) = val l := by
  induction l generalizing k with
  | nil => simp
  | cons x l ih =>
    cases k with
    | zero =>
      have hx : x = 0 := by simpa using hz 0 (by omega)
      have hl : ∀ i, l.getD i 0 = 0 := fun i => by simpa using hz (i + 1) (by omega)
      have := @ih 0 (fun i _ => hl i)
      simp only [List.take_zero, val] at this ⊢
      rw [hx, ← this, Nat.mul_zero]
    | succ k =>
      simp only [List.take_succ_cons, val]
      rw [ih (fun i hi => by simpa using hz (i + 1) (by omega))]
/-- the trimmed list is the part that the loop of trim keeps -/
theorem trim_eq_take {l : List Nat} (hw : Words l) {k : Nat} (hk : k ≤ l.length) (hz : ∀ i, k ≤ i → l.getD i 0 = 0) (ht : k = 0 ∨ l.getD (k - 1) 0 ≠ 0) : trim l = l.take k := by
  unfold trim
  rw [← val_take_of_zero hz]
  refine lim_val ⟨words_take hw k, fun h => ?_⟩
  have hk0 : k ≠ 0 := by rintro rfl; simp at h
  have hkl : 0 < l.length := by omega
  have hlast := ht.resolve_left hk0
  rw [List.getLast_eq_getElem]
  have hlen : (l.take k).length = k := by simp [hk]
  simp only [hlen, List.getElem_take]
  rw [List.getD_eq_getElem?_getD, List.getElem?_eq_getElem (by omega)] at hlast
  simpa using hlast
theorem trim_length_le {l : List Nat} (hw : Words l) : (trim l).length ≤ l.length := length_le_of_lt (val_lt hw)
/-- comparing -/
theorem val_lt_of_length {a b : List Nat} (ha : Words a) (hb : Canon b) (h : a.length < b.length) : val a < val b := by
  have h1 := val_lt ha
  have h2 := pow_le_of_length (n := val b) (k := a.length) (by rw [lim_val hb]; exact h)
  omega
theorem val_drop_lt {a b : List Nat} (ha : Words a) (_hb : Words b) (hl : a.length = b.length) {k : Nat} (hk : k < a.length)
    (heq : a.drop (k + 1) = b.drop (k + 1)) (hlt : a.getD k 0 < b.getD k 0) : val a < val b := by
  have hk2 : k < b.length := by omega
  have ea : a = a.take k ++ (a[k] :: a.drop (k + 1)) := by simp
  have eb : b = b.take k ++ (b[k] :: b.drop (k + 1)) := by simp
  simp only [List.getD_eq_getElem?_getD, List.getElem?_eq_getElem hk, List.getElem?_eq_getElem hk2, Option.getD_some] at hlt
  rw [ea, eb, val_append, val_append, heq]
  have h1 := val_lt (words_take ha k)
  have hla : (a.take k).length = k := by simp; omega
  have hlb : (b.take k).length = k := by simp; omega
  rw [hla] at h1 ⊢
  rw [hlb]
  simp only [val]
  have h3 : BB ^ k * (a[k] + BB * val (b.drop (k + 1))) + BB ^ k ≤ BB ^ k * (b[k] + BB * val (b.drop (k + 1))) := by
    rw [← Nat.mul_succ]; exact Nat.mul_le_mul (Nat.le_refl _) (by omega)
  omega
end Nm
end Go.Proofs.YtlhmbbpkhahbeaaGreatDoor
namespace Go.Proofs.YtlhmbbpkhahbeaaGreatDoor
namespace Nm
open Go.RowKit
/-- the slice at A reads in w as the words l -/
structure Rd (w : World) (A : Option Addr) (l : List Nat) : Prop where
  cell : ∀ i, i < l.length → ∃ b o, A = some ⟨b, o, none⟩ ∧ w.cell? ⟨b, o + i, none⟩ = some (.int .u32 (l.getD i 0 : Nat))
  words : Words l
  small : l.length ≤ 35184372088832
theorem Rd.get {w : World} {A : Option Addr} {l : List Nat} (h : Rd w A l) (i : Nat) (hi : i < l.length) :
    ∃ (b o x : Nat), A = some ⟨b, o, none⟩ ∧ w.cell? ⟨b, o + i, none⟩ = some (.int .u32 (x : Int)) ∧ Hid (l.getD i 0 = x) ∧ x < 4294967296 := by
  obtain ⟨b, o, e, hc⟩ := h.cell i hi
  exact ⟨b, o, _, e, hc, rfl, words_getD h.words i⟩
theorem Rd.nil (w : World) (A : Option Addr) : Rd w A [] := ⟨fun i h => absurd h (Nat.not_lt_zero _), words_nil, by simp⟩
theorem Rd.below {n : Nat} {w w' : World} {A : Option Addr} {l : List Nat} (h : Rd w A l) (hb : Below n w w') (hn : n = w.heap.size) : Rd w' A l :=
  ⟨fun i hi => by
    obtain ⟨b, o, e, hc⟩ := h.cell i hi
    exact ⟨b, o, e, (hb.cell (p := ⟨b, o + i, none⟩) (by rw [hn]; exact World.block_lt_of_cell? w _ hc)).trans hc⟩, h.words, h.small⟩
theorem Rd.same {w w' : World} {A : Option Addr} {l : List Nat} (h : Rd w A l) (hb : ∀ a v, w.cell? a = some v → w'.cell? a = some v) : Rd w' A l :=
  ⟨fun i hi => by obtain ⟨b, o, e, hc⟩ := h.cell i hi; exact ⟨b, o, e, hb _ _ hc⟩, h.words, h.small⟩
theorem Rd.take {w : World} {A : Option Addr} {l : List Nat} (h : Rd w A l) (k : Nat) : Rd w A (l.take k) := by
  refine ⟨fun i hi => ?_, words_take h.words k, by have := h.small; simp; omega⟩
  have hi' : i < k ∧ i < l.length := by rw [List.length_take] at hi; omega
  obtain ⟨b, o, e, hc⟩ := h.cell i hi'.2
  exact ⟨b, o, e, by rw [hc]; simp [List.getD_eq_getElem?_getD, hi'.1]⟩
theorem trim_pre {l : List Nat} (hw : Words l) : ∃ k, k ≤ l.length ∧ trim l = l.take k := by
  induction hn : l.length generalizing l with
  | zero => obtain rfl : l = [] := List.length_eq_zero_iff.1 hn; exact ⟨0, by simp, by simp [trim, val, lim_zero]⟩
  | succ n ih =>
    have hne : l ≠ [] := by rintro rfl; simp at hn
    have e := List.dropLast_concat_getLast hne
    by_cases h0 : l.getLast hne = 0
    · rw [h0] at e
      have hw' : Words l.dropLast := by rw [List.dropLast_eq_take]; exact words_take hw _
      obtain ⟨k, hk, ht⟩ := ih hw' (by simp [hn])
      have hk' : k ≤ n := by simpa [hn] using hk
      refine ⟨k, by omega, ?_⟩
      rw [← e, trim_snoc_zero, ht, List.take_append_of_le_length (by simp [hn]; omega)]
    · exact ⟨l.length, by omega, by rw [List.take_length, trim_canon ⟨hw, fun _ => h0⟩]⟩
theorem Rd.trim {w : World} {A : Option Addr} {l : List Nat} (h : Rd w A l) : Rd w A (trim l) := by
  obtain ⟨k, _, e⟩ := trim_pre h.words
  rw [e]; exact h.take k
/-- '(nat).trim' -/
theorem trim_calls (A : Option Addr) (c : Nat) (l : List Nat) (w : World) (hA : Rd w A l) (hl : l.length ≤ c) :
    Calls Tryz.prog 63 #[.slice A l.length c] w fun e w' => e = .returned (.slice A (trim l).length c) ∧ w = w' := by
  have hs := hA.small
  go_enter Tryz.func63, Tryz.ntmps63
  go_wp2
  go_loop [3] (fun n => ∃ k : Nat, k ≤ l.length ∧ n = .int .i64 k ∧ Hid (∀ i, k ≤ i → l.getD i 0 = 0)) (fun n => (intOf n).toNat)
  case atStart => exact ⟨l.length, Nat.le_refl _, rfl, fun i hi => by rw [List.getD_eq_getElem?_getD, List.getElem?_eq_none (by omega)]; rfl⟩
  case round =>
    obtain ⟨k, hk, rfl, hz⟩ := hrel
    by_cases h0 : 0 < k
    · obtain ⟨b, o, x, rfl, hc, hx, hxb⟩ := hA.get (k - 1) (by omega)
      by_cases hx0 : x = 0
      · subst hx0
        go_wp2
        go_round
        case rel => 
          refine ⟨k - 1, by omega, by go_num, fun i hi => ?_⟩
          by_cases e : i = k - 1
          · rw [e]; exact hx.out
          · exact hz.out i (by omega)
        case measure => simp [intOf]; omega
      · have hx1 : ((x : Int) == 0) = false := by simp; omega
        go_wp2
        go_ret
        rw [trim_eq_take hA.words hk hz.out (.inr (by rw [hx.out]; exact hx0))]
        exact ⟨by simp [Nat.min_eq_left hk], rfl⟩
    · obtain rfl : k = 0 := by omega
      go_wp2
      go_ret
      rw [trim_eq_take hA.words hk hz.out (.inl rfl)]
      exact ⟨by simp, rfl⟩
end Nm
end Go.Proofs.YtlhmbbpkhahbeaaGreatDoor
namespace Go.Proofs.YtlhmbbpkhahbeaaGreatDoor
namespace Nm
open Go.RowKit Go.Shelf
attribute [local go_sem] Oper.semAt_some
/-- a function value that hands the words l, with their numbers, to whatever keeps what lies below n₀ -/
def LimbSeq (F : Fence) (n : Nat) (P : Program) (gf : Nat) (lb : Array Value) (l : List Nat) (n₀ : Nat) (w : World) : Prop :=
  ∀ (lp : Nat) (J : Nat → World → Prop) (W : World), Below w.heap.size w W → AbidesFrom W.heap.size J →
    (∀ k W1, J k W1 → k < l.length → YieldAt F (n - 1) P lp #[.int .i64 (k : Int), .int .u32 (l.getD k 0 : Nat)] W1 fun e W' =>
      e = .returned (.bool true) ∧ J (k + 1) W' ∧ Below n₀ W1 W') →
    J 0 W →
    CallsIn F n P gf (#[.func (.yield lp) #[] #[]] ++ lb) W fun e W' => (∃ v, e = .returned v) ∧ J l.length W'
/-- how the body of a round is left -/
def limbPost (B n₀ : Nat) (I : World → Prop) (W : World) : Exit → Act → World → Prop
  | .normal, _, W' => KeepsFrom B W W' ∧ Below n₀ W W' ∧ I W'
  | _, _, _ => False
variable {F : Fence} {n : Nat} {P : Program}
/-- the loop over such a value, outside every round -/
theorem wpIn_limbs {g : Operand} {ps : Array Tmp} {assign body : Code} {Q : Exit → Act → World → Prop} {a : Act} {w : World} {l : List Nat} {n₀ : Nat}
    (hro : F.round = none) (h1 : 1 ≤ n) {gf : Nat} {lb : Array Value} (hg : a.eval g = .func (.func gf) #[] lb) (hFg : F.fn gf) (eg : ∀ args w, (callFunc gf args).run P w = .ok (.enter gf args) w)
    {w0 : World} (hseq : LimbSeq F (n - 1) P gf lb l n₀ w0) (hn₀ : n₀ ≤ w.heap.size) (hb0 : Below w0.heap.size w0 w) (hps : ps.size = 2)
    (I : Nat → World → Prop) (hI : OwnFrom w.heap.size I) (h0 : I 0 w) (Ax : Nat → Act → World → Prop) (hAx : ∀ k a', OwnFrom w.heap.size (fun (_ : Unit) W => Ax k a' W))
    (hassign : ∀ (k : Nat) (W : World) (K : Act → World → Prop), I k W → k < l.length → (∀ a' W', KeepsFrom w.heap.size W W' → Below n₀ W W' → I k W' → Ax k a' W' → K a' W') →
      assign.wpIn (F.inRound (w.heap.size + 1)) (n - 1 - 1) P (Exit.then K (fun _ _ _ => False)) { tmps := (ps.zip #[.int .i64 (k : Int), .int .u32 (l.getD k 0 : Nat)]).foldl (fun t (p, v) => t.setIfInBounds p v) a.tmps, defers := [] } W)
    (hbody : ∀ (k : Nat) (a' : Act) (W : World), (∃ r, W.heap[w.heap.size + 1]? = some (.loop r)) → I k W → Ax k a' W → k < l.length → body.wpIn (F.inRound (w.heap.size + 1)) (n - 1 - 1) P (limbPost w.heap.size n₀ (I (k + 1)) W) a' W)
    (hdone : ∀ (D : Nat) (W : World), w.heap.size ≤ D → I l.length W → W.heap[D]? = some (.deferred (some [])) → Q .normal { a with defers := { target := .collected D, args := #[] } :: a.defers } W) :
    (Code.rangeFunc g ps assign body).wpIn F n P Q a w := by
  have hKb : ∀ (W : World) (l : Nat) (o o' : Obj), w.heap.size ≤ l → W.heap[l]? = some o → o.isCells = false → o.isWalk = false → Below n₀ W (W.putObj l o') := belowK_b hn₀
  refine wpIn_rangeFunc ?_
  intro fn hfn
  rw [hro]
  obtain ⟨rec, hrec⟩ : ∃ rec : LoopState → Option Code → Loop, rec = fun st pe => { state := st, pending := pe, fn, tmps := a.tmps, params := ps, assign, body, defers := w.heap.size } := ⟨_, rfl⟩
  obtain ⟨W1, hW1⟩ : ∃ W1, (w.alloc (.deferred (some []))).alloc (.loop (rec .ready none)) = W1 := ⟨_, rfl⟩
  have hL1 : W1.heap[w.heap.size + 1]? = some (.loop (rec .ready none)) := by
    rw [← hW1]; have := World.alloc_heap_new (w.alloc (.deferred (some []))) (.loop (rec .ready none)); rwa [World.size_alloc] at this
  have hK1 : W1.heap[w.heap.size]? = some (.deferred (some [])) := by
    rw [← hW1]; exact (Below.heap_alloc _ _ _ (by simp)).trans (World.alloc_heap_new w _)
  have hI1 : I 0 W1 := by rw [← hW1]; exact hI.alloc _ (hI.alloc _ h0)
  have hb1 : Below w0.heap.size w0 W1 := by
    rw [← hW1]; exact hb0.trans ((((Below.refl _ w).alloc (Nat.le_refl _) _).alloc (by simp) _).mono hb0.size)
  refine ⟨w.heap.size + 1, [{ target := .collected w.heap.size, args := #[] }], W1, { target := .fn (.func gf) lb, args := #[.func (.yield (w.heap.size + 1)) #[] #[]] }, W1, gf,
    #[.func (.yield (w.heap.size + 1)) #[] #[]] ++ lb, W1, ?_, ?_, ?_, ?_, fun _ => h1, ?_⟩
  · rw [← hW1, hrec]; exact run_enterLoop_outer _ _ _ _ _
  · simp only [resolve, hg]
    simp [go_sem]
  · intro f' hf'; simp [Target.leads] at hf'; subst hf'; exact hFg
  · simp [invoke, go_sem, eg]
  · have hnw : ∀ {A B : World} {row : Option Nat}, (∀ r, row = some r → W1.heap.size ≤ r ∧ ∃ o : Obj, A.heap[r]? = some o ∧ o.isWalk = true) → (∀ r, row = some r → w.heap.size ≤ r ∧ ∃ o : Obj, A.heap[r]? = some o ∧ o.isCells = false) :=
      fun hr r e => by obtain ⟨hB, o, ho, hw⟩ := hr r e; exact ⟨by rw [← hW1] at hB; simp at hB; omega, o, ho, Obj.not_cells_of_walk hw⟩
    refine (hseq (w.heap.size + 1)
      (fun k W => I k W ∧ W.heap[w.heap.size + 1]? = some (.loop (rec .ready none)) ∧ W.heap[w.heap.size]? = some (.deferred (some [])))
      W1 hb1
      (fun s A B row hs hg' hr => ⟨hI s A B row hs.1 hg' (hnw (B := B) hr), (grownBy_keeps hg' (fun r e => (hr r e).2) hs.2.1 rfl).trans hs.2.1, (grownBy_keeps hg' (fun r e => (hr r e).2) hs.2.2 rfl).trans hs.2.2⟩)
      ?_ ⟨hI1, hL1, hK1⟩).mono ?_
    · rintro k W ⟨hi, hl, hk⟩ hlen
      have hlt : w.heap.size + 1 < W.heap.size := (Array.getElem?_eq_some_iff.1 hl).1
      have hy := run_yield (P := P) (args := #[.int .i64 (k : Int), .int .u32 (l.getD k 0 : Nat)]) hl (by rw [hrec]; exact hps.symm)
      rw [hrec] at hy
      refine ⟨fn, _, assign, body, hy, roundIn_of_wpIn hfn (hassign k W _ hi hlen ?_)⟩
      clear hy
      intro a' Wa hkfa hkpa hia hax
      replace hl := hkfa.same _ _ (by omega) hl rfl
      replace hk := hkfa.same _ _ (Nat.le_refl _) hk rfl
      replace hlt : w.heap.size + 1 < Wa.heap.size := (Array.getElem?_eq_some_iff.1 hl).1
      replace hi := hia
      clear hia
      revert hkpa hkfa
      generalize W = Wb
      intro hkfa hkpa
      obtain ⟨W, rfl⟩ : ∃ W, W = Wa := ⟨_, rfl⟩
      refine ⟨_, run_beginRound hl (by rw [hrec]), ?_⟩
      have hl2 : (W.putObj (w.heap.size + 1) (.loop { rec .ready none with state := .busy })).heap[w.heap.size + 1]? = some (.loop { rec .ready none with state := .busy }) := World.putObj_heap_same hlt
      have hk2 : (W.putObj (w.heap.size + 1) (.loop { rec .ready none with state := .busy })).heap[w.heap.size]? = some (.deferred (some [])) := (World.putObj_heap_other (by omega)).trans hk
      have hw2 : Below n₀ W (W.putObj (w.heap.size + 1) (.loop { rec .ready none with state := .busy })) := hKb _ _ _ _ (by omega) hl rfl rfl
      refine wpIn_mono (hbody k a' _ ⟨_, hl2⟩ (hI.putObj _ hi (by omega) hl rfl) ((hAx k a').putObj (s := ()) _ hax (by omega) hl rfl) hlen) ?_
      rintro e a3 W3 hp
      cases e with
      | normal =>
        obtain ⟨hk3, hkp3, hi3⟩ := hp
        have hl3 := hk3.same _ _ (by omega) hl2 rfl
        have hr := run_endRound (P := P) none hl3
        rw [hrec] at hr hl3
        refine ⟨_, _, hr, rfl, ⟨hI.putObj _ hi3 (by omega) hl3 rfl, ?_, ?_⟩, hkpa.trans ((hw2.trans hkp3).trans (hKb _ _ _ _ (by omega) hl3 rfl rfl))⟩
        · rw [hrec]; exact World.putObj_heap_same (Array.getElem?_eq_some_iff.1 hl3).1
        · exact (World.putObj_heap_other (by omega)).trans (hk3.same _ _ (Nat.le_refl _) hk2 rfl)
      | ret => exact hp.elim
      | exit id => exact hp.elim
      | goto t => exact hp.elim
      | panic ch => exact hp.elim
      | outgrown => exact hp.elim
    · rintro e W2 ⟨⟨v, rfl⟩, hi, hl, hk⟩
      exact ⟨none, _, by have := run_endLoop (P := P) hl (by rw [hrec]; simp); rw [hrec] at this; exact this, hdone _ _ (Nat.le_refl _) (hI.putObj _ hi (by omega) hl rfl) ((World.putObj_heap_other (by omega)).trans hk)⟩
/-- .. where the loop's variables lie in the frame -/
theorem wpIn_limbs_p {g : Operand} {ps : Array Tmp} {assign body : Code} {Q : Exit → Act → World → Prop} {a : Act} {w : World} {l : List Nat} {n₀ : Nat}
    (hro : F.round = none) (h1 : 1 ≤ n) {gf : Nat} {lb : Array Value} (hg : a.eval g = .func (.func gf) #[] lb) (hFg : F.fn gf) (eg : ∀ args w, (callFunc gf args).run P w = .ok (.enter gf args) w)
    {w0 : World} (hseq : LimbSeq F (n - 1) P gf lb l n₀ w0) (hn₀ : n₀ ≤ w.heap.size) (hb0 : Below w0.heap.size w0 w) (hps : ps.size = 2)
    (I : Nat → World → Prop) (hI : OwnFrom w.heap.size I) (h0 : I 0 w)
    (hround : ∀ (k : Nat) (W : World), k < l.length → 
      assign.wpIn (F.inRound (w.heap.size + 1)) (n - 1 - 1) P (Exit.then (fun a' W' => W' = W ∧ ∀ W2, I k W2 → body.wpIn (F.inRound (w.heap.size + 1)) (n - 1 - 1) P (limbPost w.heap.size n₀ (I (k + 1)) W2) a' W2) (fun _ _ _ => False)) { tmps := (ps.zip #[.int .i64 (k : Int), .int .u32 (l.getD k 0 : Nat)]).foldl (fun t (p, v) => t.setIfInBounds p v) a.tmps, defers := [] } W)
    (hdone : ∀ (D : Nat) (W : World), w.heap.size ≤ D → I l.length W → W.heap[D]? = some (.deferred (some [])) → Q .normal { a with defers := { target := .collected D, args := #[] } :: a.defers } W) :
    (Code.rangeFunc g ps assign body).wpIn F n P Q a w :=
  wpIn_limbs hro h1 hg hFg eg hseq hn₀ hb0 hps I hI h0 (fun k a' _ => ∀ W2, I k W2 → body.wpIn (F.inRound (w.heap.size + 1)) (n - 1 - 1) P (limbPost w.heap.size n₀ (I (k + 1)) W2) a' W2) (fun _ _ _ _ _ _ hs _ _ => hs)
    (fun k W K hi hk hK => wpIn_mono (hround k W hk) (fun e a' W' h => by
      cases e with
      | normal => obtain ⟨rfl, h⟩ := h; exact hK _ _ (KeepsFrom.refl _ _) (Below.refl _ _) hi h
      | ret => exact h.elim
      | exit id => exact h.elim
      | goto t => exact h.elim
      | panic ch => exact h.elim
      | outgrown => exact h.elim)) (fun k a' W _ hi e hk => e W hi) hdone
/-- the loop over such a value, in a round of the loop l₀ -/
theorem wpIn_limbs_in {g : Operand} {ps : Array Tmp} {assign body : Code} {Q : Exit → Act → World → Prop} {a : Act} {w : World} {l : List Nat} {n₀ : Nat}
    {l₀ : Nat} {r₀ : Loop} (hro : F.round = some l₀) (hl₀ : w.heap[l₀]? = some (.loop r₀)) (h1 : 1 ≤ n) {gf : Nat} {lb : Array Value} (hg : a.eval g = .func (.func gf) #[] lb) (hFg : F.fn gf) (eg : ∀ args w, (callFunc gf args).run P w = .ok (.enter gf args) w)
    {w0 : World} (hseq : LimbSeq F (n - 1) P gf lb l n₀ w0) (hn₀ : n₀ ≤ w.heap.size) (hb0 : Below w0.heap.size w0 w) (hps : ps.size = 2)
    (I : Nat → World → Prop) (hI : OwnFrom w.heap.size I) (h0 : I 0 w)
    (hround : ∀ (k : Nat) (W : World), k < l.length →
      assign.wpIn (F.inRound w.heap.size) (n - 1 - 1) P (Exit.then (fun a' W' => W' = W ∧ ∀ W2, I k W2 → body.wpIn (F.inRound w.heap.size) (n - 1 - 1) P (limbPost w.heap.size n₀ (I (k + 1)) W2) a' W2) (fun _ _ _ => False)) { tmps := (ps.zip #[.int .i64 (k : Int), .int .u32 (l.getD k 0 : Nat)]).foldl (fun t (p, v) => t.setIfInBounds p v) a.tmps, defers := [] } W)
    (hdone : ∀ (W : World), I l.length W → Q .normal a W) :
    (Code.rangeFunc g ps assign body).wpIn F n P Q a w := by
  have hKb : ∀ (W : World) (l : Nat) (o o' : Obj), w.heap.size ≤ l → W.heap[l]? = some o → o.isCells = false → o.isWalk = false → Below n₀ W (W.putObj l o') := belowK_b hn₀
  refine wpIn_rangeFunc ?_
  intro fn hfn
  rw [hro]
  obtain ⟨rec, hrec⟩ : ∃ rec : LoopState → Option Code → Loop, rec = fun st pe => { state := st, pending := pe, fn, tmps := a.tmps, params := ps, assign, body, defers := r₀.defers } := ⟨_, rfl⟩
  obtain ⟨W1, hW1⟩ : ∃ W1, w.alloc (.loop (rec .ready none)) = W1 := ⟨_, rfl⟩
  have hL1 : W1.heap[w.heap.size]? = some (.loop (rec .ready none)) := by rw [← hW1]; exact World.alloc_heap_new w _
  have hI1 : I 0 W1 := by rw [← hW1]; exact hI.alloc _ h0
  have hb1 : Below w0.heap.size w0 W1 := by
    rw [← hW1]; exact hb0.trans (((Below.refl _ w).alloc (Nat.le_refl _) _).mono hb0.size)
  refine ⟨w.heap.size, [], W1, { target := .fn (.func gf) lb, args := #[.func (.yield w.heap.size) #[] #[]] }, W1, gf,
    #[.func (.yield w.heap.size) #[] #[]] ++ lb, W1, ?_, ?_, ?_, ?_, fun _ => h1, ?_⟩
  · rw [← hW1, hrec]; exact run_enterLoop_inner hl₀ _ _ _ _ _
  · simp only [resolve, hg]
    simp [go_sem]
  · intro f' hf'; simp [Target.leads] at hf'; subst hf'; exact hFg
  · simp [invoke, go_sem, eg]
  · have hnw : ∀ {A B : World} {row : Option Nat}, (∀ r, row = some r → W1.heap.size ≤ r ∧ ∃ o : Obj, A.heap[r]? = some o ∧ o.isWalk = true) → (∀ r, row = some r → w.heap.size ≤ r ∧ ∃ o : Obj, A.heap[r]? = some o ∧ o.isCells = false) :=
      fun hr r e => by obtain ⟨hB, o, ho, hw⟩ := hr r e; exact ⟨by rw [← hW1] at hB; simp at hB; omega, o, ho, Obj.not_cells_of_walk hw⟩
    refine (hseq w.heap.size
      (fun k W => I k W ∧ W.heap[w.heap.size]? = some (.loop (rec .ready none)))
      W1 hb1
      (fun s A B row hs hg' hr => ⟨hI s A B row hs.1 hg' (hnw (B := B) hr), (grownBy_keeps hg' (fun r e => (hr r e).2) hs.2 rfl).trans hs.2⟩)
      ?_ ⟨hI1, hL1⟩).mono ?_
    · rintro k W ⟨hi, hl⟩ hlen
      have hlt : w.heap.size < W.heap.size := (Array.getElem?_eq_some_iff.1 hl).1
      have hy := run_yield (P := P) (args := #[.int .i64 (k : Int), .int .u32 (l.getD k 0 : Nat)]) hl (by rw [hrec]; exact hps.symm)
      rw [hrec] at hy
      refine ⟨fn, _, assign, body, hy, roundIn_of_wpIn hfn (wpIn_mono (hround k W hlen) (fun e a' W' h => ?_))⟩
      clear hy
      cases e with
      | ret => exact h.elim
      | exit id => exact h.elim
      | goto t => exact h.elim
      | panic ch => exact h.elim
      | outgrown => exact h.elim
      | normal => ?_
      obtain ⟨hWW, hbody⟩ := h
      rw [hWW]
      clear hWW
      refine ⟨_, run_beginRound hl (by rw [hrec]), ?_⟩
      have hl2 : (W.putObj w.heap.size (.loop { rec .ready none with state := .busy })).heap[w.heap.size]? = some (.loop { rec .ready none with state := .busy }) := World.putObj_heap_same hlt
      have hw2 : Below n₀ W (W.putObj w.heap.size (.loop { rec .ready none with state := .busy })) := hKb _ _ _ _ (Nat.le_refl _) hl rfl rfl
      refine wpIn_mono (hbody _ (hI.putObj _ hi (Nat.le_refl _) hl rfl)) ?_
      rintro e a3 W3 hp
      cases e with
      | normal =>
        obtain ⟨hk3, hkp3, hi3⟩ := hp
        have hl3 := hk3.same _ _ (Nat.le_refl _) hl2 rfl
        have hr := run_endRound (P := P) none hl3
        rw [hrec] at hr hl3
        refine ⟨_, _, hr, rfl, ⟨hI.putObj _ hi3 (Nat.le_refl _) hl3 rfl, ?_⟩, ((hw2.trans hkp3).trans (hKb _ _ _ _ (Nat.le_refl _) hl3 rfl rfl))⟩
        rw [hrec]; exact World.putObj_heap_same (Array.getElem?_eq_some_iff.1 hl3).1
      | ret => exact hp.elim
      | exit id => exact hp.elim
      | goto t => exact hp.elim
      | panic ch => exact hp.elim
      | outgrown => exact hp.elim
    · rintro e W2 ⟨⟨v, rfl⟩, hi, hl⟩
      exact ⟨none, _, by have := run_endLoop (P := P) hl (by rw [hrec]; simp); rw [hrec] at this; exact this, hdone _ (hI.putObj _ hi (Nat.le_refl _) hl rfl)⟩
set_option maxRecDepth 100000 in
set_option maxHeartbeats 2000000 in
/-- the closure of '(nat).limbs' -/
theorem limbs1_in (n : Nat) (Bs : Nat) (A : Option Addr) (c : Nat) (l : List Nat) (n₀ : Nat) (w : World) (hBs : w.cell? ⟨Bs, 0, none⟩ = some (.slice A l.length c)) (hA : Rd w A l)
    (_hn₀ : n₀ ≤ w.heap.size) (hlow : ∀ b o, A = some ⟨b, o, none⟩ → 0 < l.length → b < n₀) :
    LimbSeq Fence.wide n Tryz.prog 92 #[.pointer (some ⟨Bs, 0, none⟩)] l n₀ w := by
  intro lp J W hW hJ hY h0
  have hBs' : W.cell? ⟨Bs, 0, none⟩ = some (.slice A l.length c) := (hW.cell (p := ⟨Bs, 0, none⟩) (World.block_lt_of_cell? w _ hBs)).trans hBs
  have hA' : Rd W A l := hA.below hW rfl
  have hsm := hA.small
  have hwd := hA.words
  clear hBs hA
  refine callsIn_of_wp Tryz.func92 rfl trivial ?_ rfl
  simp only [Tryz.ntmps92, List.size_toArray, List.length_cons, List.length_nil, Nat.reduceAdd, Nat.reduceSub, Array.replicate_succ, Array.replicate_zero, List.push_toArray, List.append_toArray, List.nil_append, List.cons_append]
  gi_wp2
  gi_loopw [7] (fun i wr => ∃ k : Nat, k ≤ l.length ∧ i = .int .i64 k ∧ J k wr ∧ Below n₀ W wr)
    (fun i _ => l.length - (intOf i).toNat)
  case atStart => exact ⟨0, Nat.zero_le _, rfl, h0, Below.refl _ _⟩
  case round =>
    obtain ⟨k, hk, rfl, hJs, hnx⟩ := hrel
    by_cases hlt : k < l.length
    · obtain ⟨b, o, x, rfl, hcx, hx, hxb⟩ := hA'.get k hlt
      replace hcx := (hnx.cell (p := ⟨b, o + k, none⟩) (hlow b o rfl (by omega))).trans hcx
      obtain ⟨fn, tmps, assign, body, hy, hR⟩ := hY k wr hJs hlt
      rw [hx.out] at hy
      gi_wp2
      refine ⟨fun h => by simp [Fence.wide] at h, hR.mono ?_⟩
      rintro e W3 ⟨rfl, hJ3, hk3⟩
      gi_wp2
      go_roundw
      case rel => exact ⟨k + 1, by omega, by simp, hJ3, hnx.trans hk3⟩
      case measure => simp [intOf]; omega
    · obtain rfl : k = l.length := by omega
      gi_wp2
      go_end0
      exact ⟨⟨_, rfl⟩, hJs⟩
/-- '(nat).limbs' -/
theorem limbs_calls (A : Option Addr) (c k : Nat) (w : World) :
    Calls Tryz.prog 66 #[.slice A k c] w fun e w' => e = .returned (.func (.func 92) #[] #[.pointer (some ⟨w.heap.size, 0, none⟩)]) ∧ w' = w.alloc (.cells #[.slice A k c] 54) := by
  go_enter Tryz.func66, Tryz.ntmps66
  go_wp2
  go_ret
  exact ⟨rfl, rfl⟩
end Nm
end Go.Proofs.YtlhmbbpkhahbeaaGreatDoor
namespace Go.Proofs.YtlhmbbpkhahbeaaGreatDoor
namespace Nm
open Go.RowKit Go.Shelf Go.BigFrame
section
variable {F : Fence} {n : Nat} {P : Program} {ops : Array Oper} {md : Region.Mode} {C : World → Prop}
/-- no statement that defers -/
def noDefer (ops : Array Oper) : Bool := ops.all fun o => match o.op with | .defer _ => false | _ => true
theorem noDefer_spec (h : noDefer ops = true) {i : Nat} {o : Oper} (hi : ops[i]? = some o) : ∀ c, o.op ≠ .defer c := by
  intro c hc
  obtain ⟨hlt, he⟩ := Array.getElem?_eq_some_iff.1 hi
  have := (Array.all_eq_true.1 h) i hlt
  rw [he, hc] at this
  cases this
theorem semAt_same {o : Oper} (h : ∀ c, o.op ≠ .defer c) (r : Option Nat) (ρ : Operand → Value) : o.semAt r ρ = execOp ρ o := by
  cases r with
  | none => simp [Oper.semAt]
  | some l => exact Oper.semAt_some l _ _ h
theorem wpIn_of_quiet' {o : Oper} {a : Act} {K : Act → Prop} {K' : Act → World → Prop} {Q' : Exit → Act → World → Prop} {w : World} (hnd : ∀ c, o.op ≠ .defer c) (hw : C w) (h : ∀ a w', C w' → K a → K' a w')
    (ha : o.askedIn F P a C) (hh : o.quietIn F n P a C K) : o.wpIn F n P a w K' Q' := by
  obtain ⟨v, h1, h2⟩ := hh
  have h3 := h1 w hw
  unfold Oper.quietAtIn at h3
  unfold Oper.wpIn
  refine ⟨ha w hw, ?_⟩
  rw [semAt_same hnd]
  generalize (execOp a.eval o).run P w = r at *
  cases r with
  | ok x w' =>
    cases x <;> simp only [Oper.quietUponIn] at h3 <;> simp only [Oper.uponIn]
    case value u =>
      obtain ⟨e1, e2⟩ := h3
      rw [e1, e2]
      exact h _ _ hw h2
    case skip =>
      obtain ⟨e1, e2⟩ := h3
      rw [e1, ← e2]
      exact h _ _ hw h2
    case enter f args =>
      obtain ⟨e1, hd, hc⟩ := h3
      rw [e1]
      exact ⟨hd, hc.mono fun e w'' ⟨he, hw''⟩ => by subst he; exact h _ _ hw'' h2⟩
  | halt x w' => simp only [Oper.quietUponIn] at h3
theorem wpOpIn_of_quiet' {i : Nat} {a : Act} {K : Act → Prop} {K' : Act → World → Prop} {Q' : Exit → Act → World → Prop} {w : World} (hnd : noDefer ops = true) (hC : C w) (h : ∀ a w', C w' → K a → K' a w')
    (hh : qOpIn F n P ops C i K a) : wpOpIn F n P ops Q' i K' a w := by
  unfold qOpIn at hh
  unfold wpOpIn
  split
  · rename_i ho; simp only [ho] at hh; exact h _ _ hC hh
  · rename_i o ho
    simp only [ho] at hh
    obtain ⟨ha, hh⟩ := hh
    split
    · rename_i hw; simp only [hw, if_true] at hh; exact wpIn_of_quiet' (noDefer_spec hnd ho) hC h ha hh
    · rename_i hw; simp only [hw] at hh; exact ⟨ha w hC, h _ _ hC hh⟩
/-- all of it quiet -/
theorem wpAnyIn_of_quiet' {Q : Act → Prop} {Q' : Exit → Act → World → Prop} (hnd : noDefer ops = true) (hQ : ∀ a w, C w → Q a → Q' .normal a w) : ∀ (fuel : Nat) (listed : Array Bool) (a : Act) (w : World), C w →
    wpAnyQIn F n P md ops C Q fuel listed a → wpAnyIn F n P md ops Q' fuel listed a w
  | 0, _, _, _, hw, h => ⟨h.1, hQ _ _ hw h.2⟩
  | fuel + 1, _, _, _, hw, h => ⟨fun h0 => hQ _ _ hw (h.1 h0), fun i hi => wpOpIn_of_quiet' hnd hw (fun a' w' hw' => wpAnyIn_of_quiet' hnd hQ fuel _ a' w' hw') (h.2 i hi)⟩
theorem wpIn_region_all {id : Nat} {Q : Exit → Act → World → Prop} {a : Act} {w : World} {l : List Oper} (hm : P.follows .mixedOrders = true) (hnd : noDefer l.toArray = true) (hB : Region.lexB .any l.toArray = true)
    (h : wpQuietIn F n P l.toArray (fun w' => ∃ n, w' = w.drewN n) (fun a' => ∀ m, Q .normal a' (w.drewN m)) l a) : (Code.region id l.toArray true).wpIn F n P Q a w := by
  simp only [Region.lexB, Bool.and_eq_true] at hB
  refine wpIn_region_any hm (wpAnyIn_of_quiet' (C := fun w' => ∃ n, w' = w.drewN n) (Q := fun a' => ∀ m, Q .normal a' (w.drewN m)) hnd (fun _ w' hw' h => by obtain ⟨m, rfl⟩ := hw'; exact h m) _ _ _ _ ⟨1, rfl⟩ ?_)
  have := wpAnyQIn_lex (F := F) (n := n) (C := fun w' => ∃ n, w' = w.drewN n) (md := .any) hB.1 l 0 (Array.replicate l.toArray.size false) a (by simp) (by simpa using hB.2) h
  simpa using this
/-- whatever order is picked among the first nn operations -/
def wpAnyLQ (F : Fence) (n : Nat) (P : Program) (md : Region.Mode) (ops : Array Oper) (C : World → Prop) (nn : Nat) (L : Array Bool → Act → Prop) : Nat → Array Bool → Act → Prop
  | 0, listed, a => L listed a
  | f + 1, listed, a =>
    Region.ready md ops listed ≠ [] ∧ ∀ i ∈ Region.ready md ops listed, i < nn ∧ qOpIn F n P ops C i (wpAnyLQ F n P md ops C nn L f (listed.setIfInBounds i true)) a
theorem wpAnyIn_of_headQ {nn g : Nat} {L : Array Bool → Act → Prop} {Q' : Exit → Act → World → Prop} (hnd : noDefer ops = true) (hL : ∀ listed a w, C w → L listed a → wpAnyIn F n P md ops Q' g listed a w) :
    ∀ (f : Nat) (listed : Array Bool) (a : Act) (w : World), C w → wpAnyLQ F n P md ops C nn L f listed a → wpAnyIn F n P md ops Q' (f + g) listed a w
  | 0, listed, a, w, hw, h => by rw [Nat.zero_add]; exact hL _ _ _ hw h
  | f + 1, listed, a, w, hw, h => by
    rw [show f + 1 + g = (f + g) + 1 by omega]
    exact ⟨fun h0 => absurd h0 h.1, fun i hi => wpOpIn_of_quiet' hnd hw (fun a' w' hw' h' => wpAnyIn_of_headQ hnd hL f _ a' w' hw' h') (h.2 i hi).2⟩
theorem wpAnyLQ_first {nn i : Nat} {oi : Oper} {v : Value} {L : Array Bool → Act → Prop} (hi : ops[i]? = some oi) (hsel : ∀ (j : Nat) (o : Oper) cs b, ops[j]? = some o → o.op ≠ .select cs b)
    (hs : Region.sinkB md ops nn = true) (hc : Region.chainB md ops nn = true) (hn : nn < ops.size) (hin : i < nn)
    (hdone : ∀ listed a, L listed a → ∀ j ∈ Region.ready md ops listed, nn ≤ j) :
    ∀ (f : Nat) (listed : Array Bool) (a : Act), HeadInv md ops nn listed →
      (∀ j oj, ops[j]? = some oj → j ≠ i → listed.getD j true = false → (∀ e ∈ oj.after, Region.binds md e = true → e.on ≠ i) → oi.apart ops oj = true) →
      i ∈ Region.ready md ops listed → YieldsQuiet F n P ops C oi v a →
      wpAnyLQ F n P md ops C nn L f (listed.setIfInBounds i true) (a.put oi.dst v) → wpAnyLQ F n P md ops C nn L (f + 1) listed a := by
  intro f
  induction f with
  | zero =>
    intro listed a inv _ hr hy H
    have hun := (mem_ready.1 hr).1
    refine ⟨fun h => (by rw [h] at hr; cases hr), fun j hj => ?_⟩
    have hjn : j < nn := by
      rcases Nat.lt_or_ge j nn with h | h
      · exact h
      · exact absurd hj (tail_waits hs hc hn inv _ i rfl hin hun j h)
    refine ⟨hjn, ?_⟩
    by_cases hji : j = i
    · subst hji; exact hy.qOpIn hi H
    · have := hdone _ _ H j (ready_mono hj hji)
      omega
  | succ f ih =>
    intro listed a inv hfree hr hy H
    have hun := (mem_ready.1 hr).1
    refine ⟨fun h => (by rw [h] at hr; cases hr), fun j hj => ?_⟩
    have hjn : j < nn := by
      rcases Nat.lt_or_ge j nn with h | h
      · exact h
      · exact absurd hj (tail_waits hs hc hn inv _ i rfl hin hun j h)
    refine ⟨hjn, ?_⟩
    by_cases hji : j = i
    · subst hji; exact hy.qOpIn hi H
    · have h1 := (H.2 j (ready_mono hj hji)).2
      obtain ⟨hjun, oj, hoj, hall⟩ := mem_ready.1 hj
      have hnot : ∀ e ∈ oj.after, Region.binds md e = true → e.on ≠ i := fun e he hb heq => by
        have h1 := hall e he hb
        rw [heq, getD_both hun] at h1
        cases h1
      have h2 := qOpIn_put hoj (hfree j oj hoj hji hjun hnot) (fun cs b => hsel i oi cs b hi) (fun cs b => hsel j oj cs b hoj) hy h1
      have hfree' : ∀ k ok, ops[k]? = some ok → k ≠ i → (listed.setIfInBounds j true).getD k true = false →
          (∀ e ∈ ok.after, Region.binds md e = true → e.on ≠ i) → oi.apart ops ok = true := fun k ok hk hki hun hno => by
        refine hfree k ok hk hki ?_ hno
        by_cases hjk : j = k
        · subst hjk; exact hjun
        · rw [getD_set_ne true hjk] at hun; exact hun
      refine qOpIn_mono (fun a' h3 => ih (listed.setIfInBounds j true) a' (inv.set hj hjn) hfree' (ready_mono hr (Ne.symm hji)) h3.1 ?_) h2
      rw [Array.setIfInBounds_comm _ _ hji]
      exact h3.2
theorem wpAnyIn_of_seq {Q' : Exit → Act → World → Prop} : ∀ (l : List Oper) (k : Nat) (listed : Array Bool) (a : Act) (w : World), (∀ j, l[j]? = ops[k + j]?) →
    Region.seqB md ops l.length k listed = true → wpListIn F n P ops Q' l a w → wpAnyIn F n P md ops Q' l.length listed a w
  | [], _, _, _, _, _, hB, h => ⟨by simpa [Region.seqB] using hB, h⟩
  | o :: l, k, listed, a, w, hl, hB, h => by
    have h0 : ops[k]? = some o := by simpa using (hl 0).symm
    simp only [List.length_cons, Region.seqB, Bool.and_eq_true, decide_eq_true_eq] at hB
    refine ⟨fun h1 => (by rw [hB.1] at h1; cases h1), fun i hi => ?_⟩
    rw [hB.1] at hi
    have hik : i = k := by simpa using hi
    subst hik
    have hw : wpOpIn F n P ops Q' i (wpListIn F n P ops Q' l) a w := by unfold wpOpIn; simp only [h0]; exact h
    exact wpOpIn_mono (fun a' w' h' => wpAnyIn_of_seq l (i + 1) _ a' w' (fun j => by have := hl (j + 1); simpa [Nat.add_assoc, Nat.add_comm 1 j] using this) hB.2 h') hw
theorem wpAnyLQ_lex {nn g : Nat} {Lq : Act → Prop} (hsel : Region.noSelect ops = true) (hs : Region.sinkB md ops nn = true) (hc : Region.chainB md ops nn = true) (hn : nn < ops.size) :
    ∀ (l : List Oper) (k : Nat) (listed : Array Bool) (a : Act), (∀ j, j < l.length → l[j]? = ops[k + j]?) → k + l.length = nn → HeadInv md ops nn listed →
    Region.lexHead md ops g l.length k listed = true → wpQuietIn F n P ops C Lq l a →
    wpAnyLQ F n P md ops C nn (fun listed' a' => Region.seqB md ops g nn listed' = true ∧ Lq a') l.length listed a
  | [], k, listed, a, _, hk, _, hB, h => by
    have : k = nn := by simpa using hk
    subst this
    exact ⟨by simpa [Region.lexHead] using hB, h⟩
  | o :: l, k, listed, a, hl, hk, inv, hB, h => by
    have h0 : ops[k]? = some o := by simpa using (hl 0 (by simp)).symm
    simp only [List.length_cons, Region.lexHead, Bool.and_eq_true] at hB
    obtain ⟨⟨hr, hf⟩, hB'⟩ := hB
    have hkn : k < nn := by simp only [List.length_cons] at hk; omega
    have hr' : k ∈ Region.ready md ops listed := by simpa using hr
    have hst : qOpIn F n P ops C k (wpQuietIn F n P ops C Lq l) a := by unfold qOpIn; simp only [h0]; exact h
    obtain ⟨v, hy, hK⟩ := yieldsQuiet_of_qOpIn h0 hst
    exact wpAnyLQ_first h0 (Region.noSelect_spec hsel) hs hc hn hkn (fun listed' a' hL => seqB_ready hL.1) l.length listed a inv (Region.free_spec h0 hf) hr' hy
      (wpAnyLQ_lex hsel hs hc hn l (k + 1) _ _ (fun j hj => by have := hl (j + 1) (by simp; omega); simpa [Nat.add_assoc, Nat.add_comm 1 j] using this) (by simp only [List.length_cons] at hk; omega) (inv.set hr' hkn) hB' hK)
/-- a quiet head of nn operations; the others come up one behind the other when all of them have -/
theorem wpIn_region_tail {id : Nat} {Q : Exit → Act → World → Prop} {a : Act} {w : World} {l : List Oper} (nn : Nat) (hm : P.follows .mixedOrders = true) (hnd : noDefer l.toArray = true) (hB : Region.lexTailB .any l.toArray nn = true)
    (h : wpQuietIn F n P l.toArray (fun w' => ∃ n, w' = w.drewN n) (fun a' => ∀ m, wpListIn F n P l.toArray Q (l.drop nn) a' (w.drewN m)) (l.take nn) a) : (Code.region id l.toArray true).wpIn F n P Q a w := by
  simp only [Region.lexTailB, Bool.and_eq_true, decide_eq_true_eq] at hB
  obtain ⟨⟨⟨⟨hsel, hn⟩, hs⟩, hc⟩, hlex⟩ := hB
  have hn' : nn < l.length := by simpa using hn
  have htl : (l.take nn).length = nn := by simp; omega
  have hdl : (l.drop nn).length = l.toArray.size - nn := by simp
  have inv0 : HeadInv .any l.toArray nn (Array.replicate l.toArray.size false) :=
    ⟨by simp, fun j oj _ hl => (by rw [getD_replicate_false] at hl; cases hl), fun t _ ht => getD_in (by simpa using ht) (getD_replicate_false _ _)⟩
  have H := wpAnyLQ_lex (F := F) (n := n) (P := P) (C := fun w' => ∃ n, w' = w.drewN n) (md := .any) (g := l.toArray.size - nn) hsel hs hc hn (l.take nn) 0 _ a (fun j hj => by
    have hj' : j < nn := by rw [htl] at hj; exact hj
    simp [hj']) (by simpa using htl) inv0 (by rw [htl]; exact hlex) h
  refine wpIn_region_any hm ?_
  have := wpAnyIn_of_headQ (F := F) (n := n) (P := P) (C := fun w' => ∃ n, w' = w.drewN n) (Q' := Q) (g := l.toArray.size - nn) hnd (fun listed a' w' hw' hL => by
    obtain ⟨m, rfl⟩ := hw'
    have := wpAnyIn_of_seq (F := F) (n := n) (P := P) (md := .any) (Q' := Q) (l.drop nn) nn listed a' (w.drewN m) (fun j => by simp [List.getElem?_drop]) (by rw [hdl]; exact hL.1) (hL.2 m)
    rwa [hdl] at this) _ _ _ _ (⟨1, rfl⟩ : ∃ k, { w with drawn := w.drawn + 1 } = w.drewN k) H
  rw [htl, show nn + (l.toArray.size - nn) = l.toArray.size by omega] at this
  exact this
end
end Nm
end Go.Proofs.YtlhmbbpkhahbeaaGreatDoor
namespace Go.Proofs.YtlhmbbpkhahbeaaGreatDoor
namespace Nm
open Go.RowKit
/-- from W to W': cells at or above n₀ alone have turned, blocks may have been laid -/
structure Stp (n₀ : Nat) (W W' : World) : Prop where
  keeps : KeepsOthers W W'
  below : Below n₀ W W'
theorem KeepsOthers.drewN (W : World) (m : Nat) : KeepsOthers W (W.drewN m) := ⟨Nat.le_refl _, fun _ _ h _ => h⟩
theorem Stp.refl (n₀ : Nat) (W : World) : Stp n₀ W W := ⟨KeepsOthers.refl W, Below.refl n₀ W⟩
theorem Stp.trans {n₀ : Nat} {A B C : World} (h : Stp n₀ A B) (k : Stp n₀ B C) : Stp n₀ A C := ⟨h.keeps.trans k.keeps, h.below.trans k.below⟩
theorem Stp.drewN {n₀ : Nat} {A B : World} (h : Stp n₀ A B) (m : Nat) : Stp n₀ A (B.drewN m) := h.trans ⟨KeepsOthers.drewN B m, below_drewN (Below.refl n₀ B) m⟩
theorem Stp.set {n₀ : Nat} {A B : World} (h : Stp n₀ A B) {p : Addr} (hp : n₀ ≤ p.block) (v : Value) : Stp n₀ A (B.setCell p v) := h.trans ⟨KeepsOthers.setCell B p v, (Below.refl n₀ B).setCell hp v⟩
theorem Stp.alloc {n₀ : Nat} {A B : World} (h : Stp n₀ A B) (hB : n₀ ≤ B.heap.size) (o : Obj) : Stp n₀ A (B.alloc o) := h.trans ⟨KeepsOthers.alloc B o, (Below.refl n₀ B).alloc hB o⟩
theorem Stp.grown {n₀ : Nat} {A B C : World} {row : Option Nat} (h : Stp n₀ A B) (hg : B.grownBy C row) (hB : n₀ ≤ B.heap.size) (hr : ∀ k, row = some k → n₀ ≤ k ∧ ∀ o, B.heap[k]? = some o → o.isCells = true) : Stp n₀ A C :=
  h.trans ⟨KeepsOthers.of_grownBy hg (fun j o e ho => (hr j e).2 o ho), (Below.refl n₀ B).grown hg hB (fun k e => (hr k e).1)⟩
theorem Stp.from {n₀ : Nat} {A B : World} (h : Stp n₀ A B) (b : Nat) : KeepsFrom b A B := h.keeps.from b
theorem Stp.size {n₀ : Nat} {A B : World} (h : Stp n₀ A B) : A.heap.size ≤ B.heap.size := h.below.size
theorem boxed_drewN {W : World} {B : Nat} {t : TypeId} {v : Value} (h : Boxed W B t v) (m : Nat) : Boxed (W.drewN m) B t v := h
/-- what a box holds is kept by a turn of a block that holds no cells -/
theorem boxed_ownF {β : Type} (b B : Nat) (t : TypeId) (f : β → Value) : OwnFrom b (fun s W => Boxed W B t (f s)) := Own.from (boxed_own B t f) b
/-- a block of words -/
def warr (l : List Nat) : Array Value := (l.map fun (x : Nat) => Value.int .u32 (x : Int)).toArray
/-- words as values -/
abbrev wvals (l : List Nat) : List Value := l.map fun (x : Nat) => Value.int .u32 (x : Int)
/-- block g holds the words l, and may be more behind them -/
def Arr (W : World) (g : Nat) (l : List Nat) : Prop := ∃ cur : Array Value, W.heap[g]? = some (.cells cur 50 (0, 0)) ∧ cur.toList.take l.length = wvals l
theorem arr_of {W : World} {g : Nat} {l : List Nat} (h : W.heap[g]? = some (.cells (warr l) 50 (0, 0))) : Arr W g l := ⟨_, h, by simp [warr, wvals, List.take_of_length_le]⟩
theorem arr_lt {W : World} {g : Nat} {l : List Nat} (h : Arr W g l) : g < W.heap.size := let ⟨_, h, _⟩ := h; (Array.getElem?_eq_some_iff.1 h).1
theorem arr_cell {W : World} {g : Nat} {l : List Nat} (h : Arr W g l) (i : Nat) (hi : i < l.length) : W.cell? ⟨g, i, none⟩ = some (.int .u32 ((l.getD i 0 : Nat) : Int)) := by
  obtain ⟨cur, h, ht⟩ := h
  simp only [World.cell?, h, Option.isSome_none, Bool.false_eq_true, if_false]
  have h1 : (cur.toList.take l.length)[i]? = some (.int .u32 ((l.getD i 0 : Nat) : Int)) := by
    rw [ht]; simp [hi, List.getD_eq_getElem?_getD]
  rw [List.getElem?_take_of_lt hi] at h1
  simpa using h1
theorem arr_frozen {W : World} {g : Nat} {l : List Nat} (h : Arr W g l) (i : Nat) : W.frozen? ⟨g, i, none⟩ = false := by
  obtain ⟨cur, h, ht⟩ := h
  simp [World.frozen?, h]
theorem arr_kept {W W' : World} {row : Option Nat} {g : Nat} {l : List Nat} (h : Arr W g l) (hg : W.grownBy W' row) (hne : some g ≠ row) : Arr W' g l := by
  have hl := arr_lt h
  obtain ⟨cur, h, ht⟩ := h
  exact ⟨cur, (hg.block g hl hne).trans h, ht⟩
theorem arr_alloc {W : World} {g : Nat} {l : List Nat} (h : Arr W g l) (o : Obj) : Arr (W.alloc o) g l := arr_kept h (World.grownBy_alloc W o none) (by simp)
theorem arr_drewN {W : World} {g : Nat} {l : List Nat} (h : Arr W g l) (m : Nat) : Arr (W.drewN m) g l := h
theorem grownBy_setCell_at (W : World) (b o : Nat) (v : Value) : W.grownBy (W.setCell ⟨b, o, none⟩ v) (some b) :=
  ⟨rfl, rfl, rfl, (KeepsWalks.setCell W _ v).size, fun k _ hk => Below.heap_setCell _ _ _ k (fun e => hk (by rw [e]))⟩
theorem arr_other {W : World} {g : Nat} {l : List Nat} (h : Arr W g l) {B o : Nat} (hne : g ≠ B) (v : Value) : Arr (W.setCell ⟨B, o, none⟩ v) g l := arr_kept h (grownBy_setCell_at W B o v) (by simpa using hne)
theorem boxed_other {W : World} {B : Nat} {t : TypeId} {v : Value} (h : Boxed W B t v) {b o : Nat} (hne : B ≠ b) (u : Value) : Boxed (W.setCell ⟨b, o, none⟩ u) B t v := h.kept (grownBy_setCell_at W b o u) (by simpa using hne)
theorem arr_set {W : World} {g : Nat} {l : List Nat} (h : Arr W g l) (i x : Nat) : Arr (W.setCell ⟨g, i, none⟩ (.int .u32 (x : Int))) g (l.set i x) := by
  obtain ⟨cur, h, ht⟩ := h
  obtain ⟨hlt, hk⟩ := Array.getElem?_eq_some_iff.1 h
  refine ⟨cur.setIfInBounds i (.int .u32 (x : Int)), ?_, ?_⟩
  · show (W.heap.modify g _)[g]? = _
    rw [Array.getElem?_eq_getElem (by rw [Array.size_modify]; exact hlt), Array.getElem_modify_self, hk]
    rfl
  · rw [Array.toList_setIfInBounds, List.length_set, List.take_set, ht]
    simp [wvals, List.map_set]
theorem arr_new (W : World) (l : List Nat) : Arr (W.alloc (.cells (warr l) 50)) W.heap.size l := arr_of (World.alloc_heap_new W _)
theorem arr_below {W W' : World} {n g : Nat} {l : List Nat} (h : Arr W g l) (hb : Below n W W') (hg : g < n) : Arr W' g l := let ⟨cur, h, ht⟩ := h; ⟨cur, (hb.block g hg).trans h, ht⟩
theorem arr_putObj {W : World} {g : Nat} {l : List Nat} (h : Arr W g l) {D : Nat} {o : Obj} (o' : Obj) (hD : W.heap[D]? = some o) (ho : o.isCells = false) : Arr (W.putObj D o') g l :=
  arr_kept h (grownBy_putObj' W D o') (fun e => by
    obtain rfl : g = D := by simpa using e
    obtain ⟨cur, h, ht⟩ := h
    rw [h] at hD; cases hD; cases ho)
theorem arr_ownF {β : Type} (b g : Nat) (f : β → List Nat) : OwnFrom b (fun s W => Arr W g (f s)) := by
  intro s X Y row h hg hrow
  refine arr_kept h hg fun e' => ?_
  obtain ⟨o, ho, hc⟩ := (hrow g e'.symm).2
  obtain ⟨cur, h, ht⟩ := h
  rw [h] at ho; cases ho; cases hc
theorem alloc_get (W : World) (o : Obj) (i : Nat) : (W.alloc o).heap[i]? = if i = W.heap.size then some o else W.heap[i]? := by
  show (W.heap.push o)[i]? = _
  rw [Array.getElem?_push]
/-- blocks laid one behind the other -/
def allocs : World → List Obj → World
  | w, [] => w
  | w, o :: os => allocs (w.alloc o) os
theorem allocs_size (w : World) (os : List Obj) : (allocs w os).heap.size = w.heap.size + os.length := by
  induction os generalizing w with
  | nil => rfl
  | cons o os ih => simp only [allocs, ih, World.size_alloc, List.length_cons]; omega
theorem allocs_old (w : World) (os : List Obj) (i : Nat) (h : i < w.heap.size) : (allocs w os).heap[i]? = w.heap[i]? := by
  induction os generalizing w with
  | nil => rfl
  | cons o os ih => simp only [allocs]; rw [ih _ (by simp; omega), alloc_get, if_neg (by omega)]
theorem allocs_get (w : World) (os : List Obj) (i : Nat) (h : i < os.length) : (allocs w os).heap[w.heap.size + i]? = os[i]? := by
  induction os generalizing w i with
  | nil => cases h
  | cons o os ih =>
    simp only [allocs]
    cases i with
    | zero => rw [allocs_old _ _ _ (by simp), alloc_get, if_pos (by simp)]; rfl
    | succ i =>
      have := ih (w.alloc o) i (by simpa using h)
      rw [World.size_alloc, show w.heap.size + 1 + i = w.heap.size + (i + 1) by omega] at this
      rw [this]; rfl
theorem allocs_stp (w : World) (os : List Obj) {n₀ : Nat} (h : n₀ ≤ w.heap.size) : Stp n₀ w (allocs w os) := by
  induction os generalizing w with
  | nil => exact Stp.refl _ _
  | cons o os ih => exact ((Stp.refl n₀ w).alloc h o).trans (ih (w.alloc o) (by simp; omega))
/-- what of a block of words is read -/
theorem arr_rd {W : World} {g : Nat} {l : List Nat} (h : Arr W g l) (hw : Words l) (hs : l.length ≤ 35184372088832) : Rd W (some ⟨g, 0, none⟩) l :=
  ⟨fun i hi => ⟨g, 0, rfl, by rw [Nat.zero_add]; exact arr_cell h i hi⟩, hw, hs⟩
/-- 'make' of a slice of words: the cells are 0 -/
theorem warr_made (m : Nat) : madeCells #[.int .u32 0] m = warr (List.replicate m 0) := by
  apply Array.ext
  · simp [madeCells, warr]
  · intro i h1 h2
    simp [madeCells, warr, Nat.mod_one]
theorem info_u32 : (Tryz.prog.info? 50).map (fun i => (i.zero, i.size, i.bytes)) = some (some (.int .u32 0), 1, 4) := by kernel_rfl
/-- 'make(nat, L, C)' -/
theorem make_nat (L C : Int) (n m : Nat) (hL : L = (n : Int)) (hC : C = (m : Int)) (hnm : n ≤ m) (hm : m ≤ 35184372088832) (W : World) :
    (Instr.makeSlice 54 (.int .i64 L) (.int .i64 C)).run Tryz.prog W = .ok (.slice (some ⟨W.heap.size, 0, none⟩) n m) (W.alloc (.cells (warr (List.replicate m 0)) 50)) := by
  obtain ⟨i0, hi, hz0, hz1, hz2⟩ := info_parts info_u32
  subst hL hC
  have := run_make (P := Tryz.prog) W 54 50 i0 _ Tryz.underlying54 hi hz0 .i64 .i64 (n : Int) (m : Int) (by omega) (by omega) (by rw [hz2]; omega) (by omega)
  rw [this, hz1]
  simp [Value.cells, warr_made]
/-- what reads is kept by a turn of a block that holds no cells -/
theorem Rd.putObj {W : World} {A : Option Addr} {l : List Nat} (h : Rd W A l) {D : Nat} {o : Obj} (o' : Obj) (hD : W.heap[D]? = some o) (ho : o.isCells = false) : Rd (W.putObj D o') A l :=
  h.same fun a v hv => cell_kept hv (grownBy_putObj' W D o') (fun r e => by cases e; exact ⟨o, hD, ho⟩)
/-- block B is a box of type t -/
def HasBox (W : World) (B : Nat) (t : TypeId) : Prop := ∃ v, Boxed W B t v
theorem HasBox.of {W : World} {B : Nat} {t : TypeId} {v : Value} (h : Boxed W B t v) : HasBox W B t := ⟨v, h⟩
theorem HasBox.drewN {W : World} {B : Nat} {t : TypeId} (h : HasBox W B t) (m : Nat) : HasBox (W.drewN m) B t := h
theorem HasBox.alloc {W : World} {B : Nat} {t : TypeId} (h : HasBox W B t) (o : Obj) : HasBox (W.alloc o) B t := let ⟨v, h⟩ := h; ⟨v, h.alloc o⟩
theorem HasBox.set {W : World} {B : Nat} {t : TypeId} (h : HasBox W B t) (p : Addr) (u : Value) : HasBox (W.setCell p u) B t := by
  obtain ⟨v, h⟩ := h
  obtain ⟨b, o, s⟩ := p
  obtain ⟨hlt, hk⟩ := Array.getElem?_eq_some_iff.1 h
  by_cases e : b = B
  · subst e
    refine ⟨if s.isSome then v else if o = 0 then u else v, ?_⟩
    show (W.heap.modify b _)[b]? = _
    rw [Array.getElem?_eq_getElem (by rw [Array.size_modify]; exact hlt), Array.getElem_modify_self, hk]
    cases s with
    | some s => rfl
    | none =>
      cases o with
      | zero => rfl
      | succ o => simp
  · exact ⟨v, (Below.heap_setCell _ _ _ _ (fun h => e h.symm)).trans h⟩
theorem boxed_set {W : World} {B : Nat} {t : TypeId} (v : Value) (h : HasBox W B t) : Boxed (W.setCell ⟨B, 0, none⟩ v) B t v := let ⟨_, h⟩ := h; h.set v
/-- the end of a round -/
theorem limb_end {B n₀ : Nat} {I : World → Prop} {W W' : World} {a : Act} (h : Stp n₀ W W') (hi : Stp n₀ W W' → I W') : limbPost B n₀ I W .normal a W' := ⟨h.from B, h.below, hi h⟩
end Nm
end Go.Proofs.YtlhmbbpkhahbeaaGreatDoor
namespace Go.Proofs.YtlhmbbpkhahbeaaGreatDoor
namespace Nm
open Go.RowKit Go.Shelf Go.BigFrame
attribute [local go_sem] Oper.semAt_some
theorem at_in (n : Nat) (A : Option Addr) (c : Nat) (l : List Nat) (i : Nat) (w : World) (hA : Rd w A l) (_hl : l.length ≤ c) :
    CallsIn Fence.wide n Tryz.prog 84 #[.slice A l.length c, .int .i64 (i : Int)] w fun e w' => e = .returned (.int .u32 (l.getD i 0 : Nat)) ∧ w' = w := by
  refine callsIn_wide.2 ?_
  by_cases h : i < l.length
  · obtain ⟨b, o, x, rfl, hc, hx, _⟩ := hA.get i h
    rw [hx.out]
    go_enter Tryz.func84, Tryz.ntmps84
    go_wp2
    go_ret
    exact ⟨rfl, rfl⟩
  · rw [List.getD_eq_getElem?_getD, List.getElem?_eq_none (by omega)]
    go_enter Tryz.func84, Tryz.ntmps84
    go_wp2
    go_ret
    exact ⟨rfl, rfl⟩
/-- what a function that returns a magnitude comes to -/
def RetNat (n : Nat) (w : World) (e : Ending) (w' : World) : Prop :=
  ∃ A c, e = .returned (.slice A (lim n).length c) ∧ (lim n).length ≤ c ∧ Rd w' A (lim n) ∧ Below w.heap.size w w'
theorem trim_in (n : Nat) (A : Option Addr) (c : Nat) (l : List Nat) (w : World) (hA : Rd w A l) (hl : l.length ≤ c) :
    CallsIn Fence.wide n Tryz.prog 63 #[.slice A l.length c] w fun e w' => e = .returned (.slice A (trim l).length c) ∧ w = w' := callsIn_wide.2 (trim_calls A c l w hA hl)
theorem rd_block {w : World} {A : Option Addr} {l : List Nat} (h : Rd w A l) : ∀ b o, A = some ⟨b, o, none⟩ → 0 < l.length → b < w.heap.size := by
  intro b o e hl; obtain ⟨b', o', e', hc⟩ := h.cell 0 hl; rw [e] at e'; cases e'; exact World.block_lt_of_cell? w _ hc
/-- the words of a sum so far, and zeros behind -/
theorem set_snoc (outs : List Nat) (m z : Nat) (k : Nat) (hk : outs.length = k) (hm : 0 < m) : (outs ++ List.replicate m 0).set k z = (outs ++ [z]) ++ List.replicate (m - 1) 0 := by
  subst hk
  obtain ⟨m, rfl⟩ : ∃ j, m = j + 1 := ⟨m - 1, by omega⟩
  simp [List.replicate_succ]
theorem take_snoc (l : List Nat) (k : Nat) (x : Nat) (hk : k < l.length) (hx : l.getD k 0 = x) : l.take (k + 1) = l.take k ++ [x] := by
  rw [List.take_succ_eq_append_getElem hk]
  rw [List.getD_eq_getElem?_getD, List.getElem?_eq_getElem hk] at hx
  simp at hx; rw [hx]
theorem val_take_succ (l : List Nat) (k x : Nat) (hx : l.getD k 0 = x) : val (l.take (k + 1)) = val (l.take k) + BB ^ k * x := by
  by_cases hk : k < l.length
  · rw [take_snoc l k x hk hx, val_snoc]; simp [Nat.min_eq_left (Nat.le_of_lt hk)]
  · rw [List.getD_eq_getElem?_getD, List.getElem?_eq_none (by omega)] at hx
    simp at hx; subst hx
    rw [List.take_of_length_le (by omega), List.take_of_length_le (by omega)]; simp
/-- one round of the sum -/
theorem add_step {l1 l2 outs : List Nat} {k cy x y : Nat} (hx : l1.getD k 0 = x) (hy : l2.getD k 0 = y) (hl : outs.length = k)
    (h : val outs + BB ^ k * cy = val (l1.take k) + val (l2.take k)) :
    val (outs ++ [(cy + (x + y)) % BB]) + BB ^ (k + 1) * ((cy + (x + y)) / BB) = val (l1.take (k + 1)) + val (l2.take (k + 1)) := by
  rw [val_snoc, val_take_succ l1 k x hx, val_take_succ l2 k y hy, hl, Nat.pow_succ, Nat.mul_assoc, Nat.add_assoc, ← Nat.mul_add, Nat.mod_add_div, Nat.mul_add, Nat.mul_add]
  omega
set_option maxRecDepth 100000 in
set_option maxHeartbeats 2000000 in
theorem add_ge (A1 A2 : Option Addr) (c1 c2 : Nat) (l1 l2 : List Nat) (w : World) (h1 : Rd w A1 l1) (h2 : Rd w A2 l2) (_hc1 : l1.length ≤ c1) (hc2 : l2.length ≤ c2)
    (hle : l2.length ≤ l1.length) (hsm : l1.length ≤ 1048576) :
    Calls Tryz.prog 52 #[.slice A1 l1.length c1, .slice A2 l2.length c2] w (RetNat (val l1 + val l2) w) := by
  refine (callsIn_wide (n := 5)).1 ?_
  refine callsIn_of_wp_marks Tryz.func52 rfl trivial ?_ rfl
  simp only [Tryz.ntmps52, List.size_toArray, List.length_cons, List.length_nil, Nat.reduceAdd, Nat.reduceSub, Array.replicate_succ, Array.replicate_zero, List.push_toArray, List.append_toArray, List.nil_append, List.cons_append]
  have hs1 := h1.small
  have hs2 := h2.small
  have hlt : ¬ (l1.length < l2.length) := by omega
  have hmk := make_nat 0 ((l1.length : Int) + 1) 0 (l1.length + 1) rfl (by simp) (by omega) (by omega)
  gi_wp2_with (refine ⟨trivial, ?_⟩; gi_at_call 66; refine (callsIn_wide.2 (limbs_calls _ _ _ _)).mono ?_; rintro e w2 ⟨rfl, rfl⟩)
  clear hmk
  obtain ⟨w3, hw3⟩ : ∃ w3, allocs w [.cells #[.slice A2 l2.length c2] 54, .cells (warr (List.replicate (l1.length + 1) 0)) 50, .cells #[.slice (some ⟨w.heap.size + 1, 0, none⟩) 0 (l1.length + 1)] 54, .cells #[.int .u64 0] 92, .cells #[.slice A1 l1.length c1] 54] = w3 := ⟨_, rfl⟩
  have hget := allocs_get w [.cells #[.slice A2 l2.length c2] 54, .cells (warr (List.replicate (l1.length + 1) 0)) 50, .cells #[.slice (some ⟨w.heap.size + 1, 0, none⟩) 0 (l1.length + 1)] 54, .cells #[.int .u64 0] 92, .cells #[.slice A1 l1.length c1] 54]
  have hs3 := allocs_stp w [.cells #[.slice A2 l2.length c2] 54, .cells (warr (List.replicate (l1.length + 1) 0)) 50, .cells #[.slice (some ⟨w.heap.size + 1, 0, none⟩) 0 (l1.length + 1)] 54, .cells #[.int .u64 0] 92, .cells #[.slice A1 l1.length c1] 54] (Nat.le_refl w.heap.size)
  have hsz3 := allocs_size w [.cells #[.slice A2 l2.length c2] 54, .cells (warr (List.replicate (l1.length + 1) 0)) 50, .cells #[.slice (some ⟨w.heap.size + 1, 0, none⟩) 0 (l1.length + 1)] 54, .cells #[.int .u64 0] 92, .cells #[.slice A1 l1.length c1] 54]
  rw [hw3] at hget hs3 hsz3
  simp only [allocs] at hw3
  rw [hw3]
  clear hw3
  replace hsz3 : w.heap.size + 5 ≤ w3.heap.size := by rw [hsz3]; exact Nat.le_refl _
  have hB4 : Boxed w3 w.heap.size 54 (.slice A2 l2.length c2) := hget 0 (by simp)
  have hR3 : Arr w3 (w.heap.size + 1) (List.replicate (l1.length + 1) 0) := arr_of (hget 1 (by simp))
  have hB3 : Boxed w3 (w.heap.size + 2) 54 (.slice (some ⟨w.heap.size + 1, 0, none⟩) 0 (l1.length + 1)) := hget 2 (by simp)
  have hB2 : Boxed w3 (w.heap.size + 3) 92 (.int .u64 0) := hget 3 (by simp)
  have hB1 : Boxed w3 (w.heap.size + 4) 54 (.slice A1 l1.length c1) := hget 4 (by simp)
  clear hget
  refine wpIn_limbs_p (n₀ := w.heap.size) (l := l1) rfl (by omega) (gf := 92) (lb := #[.pointer (some ⟨w.heap.size + 4, 0, none⟩)]) rfl trivial (enters_of Tryz.func92 (by kernel_rfl) rfl)
    (limbs1_in _ (w.heap.size + 4) A1 c1 l1 w.heap.size w3 hB1.cell (h1.below hs3.below rfl) (by omega) (rd_block h1)) (by omega) (Below.refl _ _) rfl
    (fun k W => ∃ (outs : List Nat) (cy : Nat), Boxed W w.heap.size 54 (.slice A2 l2.length c2) ∧ Boxed W (w.heap.size + 2) 54 (.slice (some ⟨w.heap.size + 1, 0, none⟩) k (l1.length + 1)) ∧ Boxed W (w.heap.size + 3) 92 (.int .u64 (cy : Int)) ∧
      Arr W (w.heap.size + 1) (outs ++ List.replicate (l1.length + 1 - k) 0) ∧ Below w.heap.size w W ∧ cy ≤ 1 ∧ outs.length = k ∧ Words outs ∧ Hid (val outs + BB ^ k * cy = val (l1.take k) + val (l2.take k)))
    ?own ?start ?round ?done
  case own =>
    rintro k X Y row ⟨outs, cy, a1, a2, a3, a4, a5, a6⟩ hg hr
    exact ⟨outs, cy, boxed_ownF _ _ _ (fun _ => _) k X Y row a1 hg hr, boxed_ownF _ _ _ (fun _ => _) k X Y row a2 hg hr, boxed_ownF _ _ _ (fun _ => _) k X Y row a3 hg hr, arr_ownF _ _ (fun _ => _) k X Y row a4 hg hr,
      ownFrom_below (Nat.le_refl _) (by omega) k X Y row a5 hg hr, a6⟩
  case start => exact ⟨[], 0, hB4, hB3, hB2, hR3, hs3.below, by omega, rfl, words_nil, by simp [Hid, val]⟩
  case round =>
    intro k W hk
    obtain ⟨x, hx, hxb⟩ : ∃ x, Hid (l1.getD k 0 = x) ∧ x < 4294967296 := ⟨_, rfl, words_getD h1.words k⟩
    obtain ⟨y, hy, hyb⟩ : ∃ y, Hid (l2.getD k 0 = y) ∧ y < 4294967296 := ⟨_, rfl, words_getD h2.words k⟩
    rw [hx.out]
    have hat : ∀ n w', Rd w' A2 l2 → CallsIn Fence.wide n Tryz.prog 84 #[.slice A2 l2.length c2, .int .i64 (k : Int)] w' fun e w'' => e = .returned (.int .u32 (y : Int)) ∧ w'' = w' := by
      intro n w' h; have := at_in n A2 c2 l2 k w' h hc2; rwa [hy.out] at this
    gi_wp2
    refine ⟨trivial, ?_⟩
    clear W
    rintro W ⟨outs, cy, hbb, hbo, hbc, harr, hbl, hcy, hol, how, hval⟩
    have g1 := hbb.cell
    have g2 := hbo.cell
    have g3 := hbc.cell
    obtain ⟨u, g4⟩ : ∃ u : Nat, W.cell? ⟨w.heap.size + 1, k, none⟩ = some (.int .u32 (u : Int)) := ⟨_, arr_cell harr k (by simp; omega)⟩
    have f2 := hbo.frozen
    have f3 := hbc.frozen
    have f4 := arr_frozen harr k
    have hwz := hbc.lt
    have t1 : w.heap.size + 1 < W.heap.size := by omega
    have t2 : w.heap.size + 2 < W.heap.size := by omega
    have Hol := Lib.hid hol
    clear hol
    gi_wp2
    have hwide : ∀ f, Fence.wide.fn f := fun _ => trivial
    refine wpIn_region_tail 9 (by kernel_rfl) (by kernel_rfl) (by kernel_rfl) ?_
    simp only [List.take_succ_cons, List.take_zero, List.drop_succ_cons, List.drop_zero]
    repeat (gi_big_quiet_step ((gi_at_call 84; exact CallsIn.quiet_of_same (CallsIn.inRound _ (hat _ _ (h2.below (below_drewN hbl _) rfl))))))
    refine wpQuietIn_nil ?_
    intro m
    obtain ⟨z, hz⟩ : ∃ z : Nat, ((cy : Int) + ((x : Int) + (y : Int))) % 4294967296 = (z : Int) := ⟨(cy + (x + y)) % 4294967296, by omega⟩
    obtain ⟨q, hq⟩ : ∃ q : Nat, ((cy : Int) + ((x : Int) + (y : Int))) / 4294967296 = (q : Int) := ⟨(cy + (x + y)) / 4294967296, by omega⟩
    gi_wp2
    simp only [Nat.add_assoc, Nat.reduceAdd]
    have hz' : z = (cy + (x + y)) % BB := by show z = _ % 4294967296; omega
    have hq' : q = (cy + (x + y)) / BB := by show q = _ / 4294967296; omega
    refine limb_end (by (repeat (first | with_reducible exact Stp.refl _ _ | with_reducible refine Stp.set ?_ (by simp) _ | with_reducible refine Stp.alloc ?_ (by simp; omega) _ | with_reducible refine Stp.drewN ?_ _))) (fun hst => ⟨outs ++ [z], q, by (repeat (first | with_reducible exact hbb | with_reducible exact HasBox.of hbb | with_reducible refine boxed_other ?_ (by omega) _ | with_reducible refine boxed_set _ ?_ | with_reducible refine HasBox.set ?_ _ _ | with_reducible refine HasBox.alloc ?_ _ | with_reducible refine HasBox.drewN ?_ _ | with_reducible refine Boxed.alloc ?_ _ | with_reducible refine boxed_drewN ?_ _)), by (repeat (first | with_reducible exact hbo | with_reducible exact HasBox.of hbo | with_reducible refine boxed_other ?_ (by omega) _ | with_reducible refine boxed_set _ ?_ | with_reducible refine HasBox.set ?_ _ _ | with_reducible refine HasBox.alloc ?_ _ | with_reducible refine HasBox.drewN ?_ _ | with_reducible refine Boxed.alloc ?_ _ | with_reducible refine boxed_drewN ?_ _)), by (repeat (first | with_reducible exact hbc | with_reducible exact HasBox.of hbc | with_reducible refine boxed_other ?_ (by omega) _ | with_reducible refine boxed_set _ ?_ | with_reducible refine HasBox.set ?_ _ _ | with_reducible refine HasBox.alloc ?_ _ | with_reducible refine HasBox.drewN ?_ _ | with_reducible refine Boxed.alloc ?_ _ | with_reducible refine boxed_drewN ?_ _)), ?_, hbl.trans hst.below, by omega, by simp [Hol.out], ?_, ?_⟩)
    · rw [show l1.length + 1 - (k + 1) = l1.length + 1 - k - 1 by omega, ← set_snoc outs (l1.length + 1 - k) z k Hol.out (by omega)]
      (repeat (first | with_reducible exact harr | with_reducible refine arr_other ?_ (by omega) _ | with_reducible refine arr_set ?_ _ _ | with_reducible refine arr_alloc ?_ _ | with_reducible refine arr_drewN ?_ _))
    · exact words_append.2 ⟨how, fun u hu => by simp at hu; rw [hu, hz']; exact Nat.mod_lt _ (by decide)⟩
    · rw [hz', hq']; exact add_step hx.out hy.out Hol.out hval.out
  case done =>
    rintro D W hD ⟨outs, cy, hbb, hbo, hbc, harr, hbl, hcy, hol, how, hval⟩ hK
    have g2 := hbo.cell
    have g3 := hbc.cell
    obtain ⟨u, g4⟩ : ∃ u : Nat, W.cell? ⟨w.heap.size + 1, l1.length, none⟩ = some (.int .u32 (u : Int)) := ⟨_, arr_cell harr l1.length (by simp; omega)⟩
    have f4 := arr_frozen harr l1.length
    have hwz := hbc.lt
    have t1 : w.heap.size + 1 < W.heap.size := by omega
    have t2 : w.heap.size + 2 < W.heap.size := by omega
    have Hol := Lib.hid hol
    clear hol
    gi_wp2
    obtain ⟨W5, hW5⟩ : ∃ W5, (W.setCell ⟨w.heap.size + 1, l1.length, none⟩ (.int .u32 (cy : Int))).alloc (.cells #[.int .u32 (cy : Int)] 50) = W5 := ⟨_, rfl⟩
    have hst5 : Stp w.heap.size W W5 := by rw [← hW5]; exact ((Stp.refl _ W).set (by simp) _).alloc (by simp [World.setCell]; omega) _
    have harr5 : Arr W5 (w.heap.size + 1) (outs ++ [cy]) := by
      have := arr_alloc (arr_set harr l1.length cy) (.cells #[.int .u32 (cy : Int)] 50)
      rw [set_snoc outs (l1.length + 1 - l1.length) cy l1.length Hol.out (by omega), show l1.length + 1 - l1.length - 1 = 0 by omega] at this
      rw [← hW5]; simpa using this
    rw [hW5]
    clear hW5
    have hK5 := hst5.keeps.same D _ hK rfl
    have hww : Words (outs ++ [cy]) := words_append.2 ⟨how, fun u hu => by simp at hu; rw [hu]; show cy < 4294967296; omega⟩
    have hlen : (outs ++ [cy]).length = l1.length + 1 := by simp [Hol.out]
    have hrd := arr_rd harr5 hww (by omega)
    have ht := fun n => trim_in n (some ⟨w.heap.size + 1, 0, none⟩) (l1.length + 1) (outs ++ [cy]) W5 hrd (by omega)
    have hval' : trim (outs ++ [cy]) = lim (val l1 + val l2) := by
      unfold trim
      have := hval.out
      rw [List.take_length, List.take_of_length_le (by omega)] at this
      rw [val_snoc, Hol.out, this]
    rw [hval', hlen] at ht
    have hrd2 := hrd.trim
    have htl := trim_length_le hww
    rw [hval'] at hrd2 htl
    have hDl := (Array.getElem?_eq_some_iff.1 hK5).1
    clear hval hval'
    refine ⟨trivial, ?_⟩
    refine (ht _).mono ?_
    rintro e w' ⟨rfl, rfl⟩
    gi_wp2
    refine ⟨by simp, .inl ⟨_, _, rfl, run_takeDeferred hK5, ?_⟩⟩
    exact ⟨_, results_tmp rfl _ _ _, _, _, rfl, by omega, hrd2.putObj _ hK5 rfl, hbl.trans (hst5.below.trans (belowK_b (w := w) (Nat.le_refl _) W5 D _ _ (by omega) hK5 rfl rfl))⟩
set_option maxRecDepth 100000 in
set_option maxHeartbeats 2000000 in
theorem add_lt (A1 A2 : Option Addr) (c1 c2 : Nat) (l1 l2 : List Nat) (w : World) (h1 : Rd w A1 l1) (h2 : Rd w A2 l2) (hc1 : l1.length ≤ c1) (_hc2 : l2.length ≤ c2)
    (hle : l1.length < l2.length) (hsm : l2.length ≤ 1048576) :
    Calls Tryz.prog 52 #[.slice A1 l1.length c1, .slice A2 l2.length c2] w (RetNat (val l2 + val l1) w) := by
  refine (callsIn_wide (n := 5)).1 ?_
  refine callsIn_of_wp_marks Tryz.func52 rfl trivial ?_ rfl
  simp only [Tryz.ntmps52, List.size_toArray, List.length_cons, List.length_nil, Nat.reduceAdd, Nat.reduceSub, Array.replicate_succ, Array.replicate_zero, List.push_toArray, List.append_toArray, List.nil_append, List.cons_append]
  have hs1 := h1.small
  have hs2 := h2.small
  skip
  have hmk := make_nat 0 ((l2.length : Int) + 1) 0 (l2.length + 1) rfl (by simp) (by omega) (by omega)
  gi_wp2_with (refine ⟨trivial, ?_⟩; gi_at_call 66; refine (callsIn_wide.2 (limbs_calls _ _ _ _)).mono ?_; rintro e w2 ⟨rfl, rfl⟩)
  clear hmk
  obtain ⟨w3, hw3⟩ : ∃ w3, allocs w [.cells #[.slice A1 l1.length c1] 54, .cells (warr (List.replicate (l2.length + 1) 0)) 50, .cells #[.slice (some ⟨w.heap.size + 1, 0, none⟩) 0 (l2.length + 1)] 54, .cells #[.int .u64 0] 92, .cells #[.slice A2 l2.length c2] 54] = w3 := ⟨_, rfl⟩
  have hget := allocs_get w [.cells #[.slice A1 l1.length c1] 54, .cells (warr (List.replicate (l2.length + 1) 0)) 50, .cells #[.slice (some ⟨w.heap.size + 1, 0, none⟩) 0 (l2.length + 1)] 54, .cells #[.int .u64 0] 92, .cells #[.slice A2 l2.length c2] 54]
  have hs3 := allocs_stp w [.cells #[.slice A1 l1.length c1] 54, .cells (warr (List.replicate (l2.length + 1) 0)) 50, .cells #[.slice (some ⟨w.heap.size + 1, 0, none⟩) 0 (l2.length + 1)] 54, .cells #[.int .u64 0] 92, .cells #[.slice A2 l2.length c2] 54] (Nat.le_refl w.heap.size)
  have hsz3 := allocs_size w [.cells #[.slice A1 l1.length c1] 54, .cells (warr (List.replicate (l2.length + 1) 0)) 50, .cells #[.slice (some ⟨w.heap.size + 1, 0, none⟩) 0 (l2.length + 1)] 54, .cells #[.int .u64 0] 92, .cells #[.slice A2 l2.length c2] 54]
  rw [hw3] at hget hs3 hsz3
  simp only [allocs] at hw3
  rw [hw3]
  clear hw3
  replace hsz3 : w.heap.size + 5 ≤ w3.heap.size := by rw [hsz3]; exact Nat.le_refl _
  have hB4 : Boxed w3 w.heap.size 54 (.slice A1 l1.length c1) := hget 0 (by simp)
  have hR3 : Arr w3 (w.heap.size + 1) (List.replicate (l2.length + 1) 0) := arr_of (hget 1 (by simp))
  have hB3 : Boxed w3 (w.heap.size + 2) 54 (.slice (some ⟨w.heap.size + 1, 0, none⟩) 0 (l2.length + 1)) := hget 2 (by simp)
  have hB2 : Boxed w3 (w.heap.size + 3) 92 (.int .u64 0) := hget 3 (by simp)
  have hB1 : Boxed w3 (w.heap.size + 4) 54 (.slice A2 l2.length c2) := hget 4 (by simp)
  clear hget
  refine wpIn_limbs_p (n₀ := w.heap.size) (l := l2) rfl (by omega) (gf := 92) (lb := #[.pointer (some ⟨w.heap.size + 4, 0, none⟩)]) rfl trivial (enters_of Tryz.func92 (by kernel_rfl) rfl)
    (limbs1_in _ (w.heap.size + 4) A2 c2 l2 w.heap.size w3 hB1.cell (h2.below hs3.below rfl) (by omega) (rd_block h2)) (by omega) (Below.refl _ _) rfl
    (fun k W => ∃ (outs : List Nat) (cy : Nat), Boxed W w.heap.size 54 (.slice A1 l1.length c1) ∧ Boxed W (w.heap.size + 2) 54 (.slice (some ⟨w.heap.size + 1, 0, none⟩) k (l2.length + 1)) ∧ Boxed W (w.heap.size + 3) 92 (.int .u64 (cy : Int)) ∧
      Arr W (w.heap.size + 1) (outs ++ List.replicate (l2.length + 1 - k) 0) ∧ Below w.heap.size w W ∧ cy ≤ 1 ∧ outs.length = k ∧ Words outs ∧ Hid (val outs + BB ^ k * cy = val (l2.take k) + val (l1.take k)))
    ?own ?start ?round ?done
  case own =>
    rintro k X Y row ⟨outs, cy, a1, a2, a3, a4, a5, a6⟩ hg hr
    exact ⟨outs, cy, boxed_ownF _ _ _ (fun _ => _) k X Y row a1 hg hr, boxed_ownF _ _ _ (fun _ => _) k X Y row a2 hg hr, boxed_ownF _ _ _ (fun _ => _) k X Y row a3 hg hr, arr_ownF _ _ (fun _ => _) k X Y row a4 hg hr,
      ownFrom_below (Nat.le_refl _) (by omega) k X Y row a5 hg hr, a6⟩
  case start => exact ⟨[], 0, hB4, hB3, hB2, hR3, hs3.below, by omega, rfl, words_nil, by simp [Hid, val]⟩
  case round =>
    intro k W hk
    obtain ⟨x, hx, hxb⟩ : ∃ x, Hid (l2.getD k 0 = x) ∧ x < 4294967296 := ⟨_, rfl, words_getD h2.words k⟩
    obtain ⟨y, hy, hyb⟩ : ∃ y, Hid (l1.getD k 0 = y) ∧ y < 4294967296 := ⟨_, rfl, words_getD h1.words k⟩
    rw [hx.out]
    have hat : ∀ n w', Rd w' A1 l1 → CallsIn Fence.wide n Tryz.prog 84 #[.slice A1 l1.length c1, .int .i64 (k : Int)] w' fun e w'' => e = .returned (.int .u32 (y : Int)) ∧ w'' = w' := by
      intro n w' h; have := at_in n A1 c1 l1 k w' h hc1; rwa [hy.out] at this
    gi_wp2
    refine ⟨trivial, ?_⟩
    clear W
    rintro W ⟨outs, cy, hbb, hbo, hbc, harr, hbl, hcy, hol, how, hval⟩
    have g1 := hbb.cell
    have g2 := hbo.cell
    have g3 := hbc.cell
    obtain ⟨u, g4⟩ : ∃ u : Nat, W.cell? ⟨w.heap.size + 1, k, none⟩ = some (.int .u32 (u : Int)) := ⟨_, arr_cell harr k (by simp; omega)⟩
    have f2 := hbo.frozen
    have f3 := hbc.frozen
    have f4 := arr_frozen harr k
    have hwz := hbc.lt
    have t1 : w.heap.size + 1 < W.heap.size := by omega
    have t2 : w.heap.size + 2 < W.heap.size := by omega
    have Hol := Lib.hid hol
    clear hol
    gi_wp2
    have hwide : ∀ f, Fence.wide.fn f := fun _ => trivial
    refine wpIn_region_tail 9 (by kernel_rfl) (by kernel_rfl) (by kernel_rfl) ?_
    simp only [List.take_succ_cons, List.take_zero, List.drop_succ_cons, List.drop_zero]
    repeat (gi_big_quiet_step ((gi_at_call 84; exact CallsIn.quiet_of_same (CallsIn.inRound _ (hat _ _ (h1.below (below_drewN hbl _) rfl))))))
    refine wpQuietIn_nil ?_
    intro m
    obtain ⟨z, hz⟩ : ∃ z : Nat, ((cy : Int) + ((x : Int) + (y : Int))) % 4294967296 = (z : Int) := ⟨(cy + (x + y)) % 4294967296, by omega⟩
    obtain ⟨q, hq⟩ : ∃ q : Nat, ((cy : Int) + ((x : Int) + (y : Int))) / 4294967296 = (q : Int) := ⟨(cy + (x + y)) / 4294967296, by omega⟩
    gi_wp2
    simp only [Nat.add_assoc, Nat.reduceAdd]
    have hz' : z = (cy + (x + y)) % BB := by show z = _ % 4294967296; omega
    have hq' : q = (cy + (x + y)) / BB := by show q = _ / 4294967296; omega
    refine limb_end (by (repeat (first | with_reducible exact Stp.refl _ _ | with_reducible refine Stp.set ?_ (by simp) _ | with_reducible refine Stp.alloc ?_ (by simp; omega) _ | with_reducible refine Stp.drewN ?_ _))) (fun hst => ⟨outs ++ [z], q, by (repeat (first | with_reducible exact hbb | with_reducible exact HasBox.of hbb | with_reducible refine boxed_other ?_ (by omega) _ | with_reducible refine boxed_set _ ?_ | with_reducible refine HasBox.set ?_ _ _ | with_reducible refine HasBox.alloc ?_ _ | with_reducible refine HasBox.drewN ?_ _ | with_reducible refine Boxed.alloc ?_ _ | with_reducible refine boxed_drewN ?_ _)), by (repeat (first | with_reducible exact hbo | with_reducible exact HasBox.of hbo | with_reducible refine boxed_other ?_ (by omega) _ | with_reducible refine boxed_set _ ?_ | with_reducible refine HasBox.set ?_ _ _ | with_reducible refine HasBox.alloc ?_ _ | with_reducible refine HasBox.drewN ?_ _ | with_reducible refine Boxed.alloc ?_ _ | with_reducible refine boxed_drewN ?_ _)), by (repeat (first | with_reducible exact hbc | with_reducible exact HasBox.of hbc | with_reducible refine boxed_other ?_ (by omega) _ | with_reducible refine boxed_set _ ?_ | with_reducible refine HasBox.set ?_ _ _ | with_reducible refine HasBox.alloc ?_ _ | with_reducible refine HasBox.drewN ?_ _ | with_reducible refine Boxed.alloc ?_ _ | with_reducible refine boxed_drewN ?_ _)), ?_, hbl.trans hst.below, by omega, by simp [Hol.out], ?_, ?_⟩)
    · rw [show l2.length + 1 - (k + 1) = l2.length + 1 - k - 1 by omega, ← set_snoc outs (l2.length + 1 - k) z k Hol.out (by omega)]
      (repeat (first | with_reducible exact harr | with_reducible refine arr_other ?_ (by omega) _ | with_reducible refine arr_set ?_ _ _ | with_reducible refine arr_alloc ?_ _ | with_reducible refine arr_drewN ?_ _))
    · exact words_append.2 ⟨how, fun u hu => by simp at hu; rw [hu, hz']; exact Nat.mod_lt _ (by decide)⟩
    · rw [hz', hq']; exact add_step hx.out hy.out Hol.out hval.out
  case done =>
    rintro D W hD ⟨outs, cy, hbb, hbo, hbc, harr, hbl, hcy, hol, how, hval⟩ hK
    have g2 := hbo.cell
    have g3 := hbc.cell
    obtain ⟨u, g4⟩ : ∃ u : Nat, W.cell? ⟨w.heap.size + 1, l2.length, none⟩ = some (.int .u32 (u : Int)) := ⟨_, arr_cell harr l2.length (by simp; omega)⟩
    have f4 := arr_frozen harr l2.length
    have hwz := hbc.lt
    have t1 : w.heap.size + 1 < W.heap.size := by omega
    have t2 : w.heap.size + 2 < W.heap.size := by omega
    have Hol := Lib.hid hol
    clear hol
    gi_wp2
    obtain ⟨W5, hW5⟩ : ∃ W5, (W.setCell ⟨w.heap.size + 1, l2.length, none⟩ (.int .u32 (cy : Int))).alloc (.cells #[.int .u32 (cy : Int)] 50) = W5 := ⟨_, rfl⟩
    have hst5 : Stp w.heap.size W W5 := by rw [← hW5]; exact ((Stp.refl _ W).set (by simp) _).alloc (by simp [World.setCell]; omega) _
    have harr5 : Arr W5 (w.heap.size + 1) (outs ++ [cy]) := by
      have := arr_alloc (arr_set harr l2.length cy) (.cells #[.int .u32 (cy : Int)] 50)
      rw [set_snoc outs (l2.length + 1 - l2.length) cy l2.length Hol.out (by omega), show l2.length + 1 - l2.length - 1 = 0 by omega] at this
      rw [← hW5]; simpa using this
    rw [hW5]
    clear hW5
    have hK5 := hst5.keeps.same D _ hK rfl
    have hww : Words (outs ++ [cy]) := words_append.2 ⟨how, fun u hu => by simp at hu; rw [hu]; show cy < 4294967296; omega⟩
    have hlen : (outs ++ [cy]).length = l2.length + 1 := by simp [Hol.out]
    have hrd := arr_rd harr5 hww (by omega)
    have ht := fun n => trim_in n (some ⟨w.heap.size + 1, 0, none⟩) (l2.length + 1) (outs ++ [cy]) W5 hrd (by omega)
    have hval' : trim (outs ++ [cy]) = lim (val l2 + val l1) := by
      unfold trim
      have := hval.out
      rw [List.take_length, List.take_of_length_le (by omega)] at this
      rw [val_snoc, Hol.out, this]
    rw [hval', hlen] at ht
    have hrd2 := hrd.trim
    have htl := trim_length_le hww
    rw [hval'] at hrd2 htl
    have hDl := (Array.getElem?_eq_some_iff.1 hK5).1
    clear hval hval'
    refine ⟨trivial, ?_⟩
    refine (ht _).mono ?_
    rintro e w' ⟨rfl, rfl⟩
    gi_wp2
    refine ⟨by simp, .inl ⟨_, _, rfl, run_takeDeferred hK5, ?_⟩⟩
    exact ⟨_, results_tmp rfl _ _ _, _, _, rfl, by omega, hrd2.putObj _ hK5 rfl, hbl.trans (hst5.below.trans (belowK_b (w := w) (Nat.le_refl _) W5 D _ _ (by omega) hK5 rfl rfl))⟩
/-- '(nat).add' -/
theorem add_calls (A1 A2 : Option Addr) (c1 c2 : Nat) (l1 l2 : List Nat) (w : World) (h1 : Rd w A1 l1) (h2 : Rd w A2 l2) (hc1 : l1.length ≤ c1) (hc2 : l2.length ≤ c2)
    (hs1 : l1.length ≤ 1048576) (hs2 : l2.length ≤ 1048576) :
    Calls Tryz.prog 52 #[.slice A1 l1.length c1, .slice A2 l2.length c2] w (RetNat (val l1 + val l2) w) := by
  by_cases h : l1.length < l2.length
  · rw [Nat.add_comm]; exact add_lt A1 A2 c1 c2 l1 l2 w h1 h2 hc1 hc2 h hs2
  · exact add_ge A1 A2 c1 c2 l1 l2 w h1 h2 hc1 hc2 (by omega) hs1
end Nm
end Go.Proofs.YtlhmbbpkhahbeaaGreatDoor
namespace Go.Proofs.YtlhmbbpkhahbeaaGreatDoor
namespace Nm
open Go.RowKit
theorem ret_int {k : IntKind} {a b : Int} (h : a = b) : Ending.returned (.int k a) = .returned (.int k b) := by rw [h]
/-- how two numbers compare -/
def cmpZ (a b : Int) : Int := if a < b then -1 else if b < a then 1 else 0
theorem cmp_int_calls (a b : Int) (w : World) : Calls Tryz.prog 69 #[.int .i64 a, .int .i64 b] w fun e w' => e = .returned (.int .i64 (cmpZ a b)) ∧ w' = w := by
  by_cases h : a < b
  · go_enter Tryz.func69, Tryz.ntmps69
    go_wp2
    go_ret
    exact ⟨ret_int (by simp [cmpZ, h]), rfl⟩
  · by_cases h2 : b < a
    · go_enter Tryz.func69, Tryz.ntmps69
      go_wp2
      go_ret
      exact ⟨ret_int (by simp [cmpZ, h, h2]), rfl⟩
    · go_enter Tryz.func69, Tryz.ntmps69
      go_wp2
      go_ret
      exact ⟨ret_int (by simp only [cmpZ]; rw [if_neg (by omega), if_neg (by omega)]), rfl⟩
theorem cmp_u32_calls (a b : Int) (w : World) : Calls Tryz.prog 91 #[.int .u32 a, .int .u32 b] w fun e w' => e = .returned (.int .i64 (cmpZ a b)) ∧ w' = w := by
  by_cases h : a < b
  · go_enter Tryz.func91, Tryz.ntmps91
    go_wp2
    go_ret
    exact ⟨ret_int (by simp [cmpZ, h]), rfl⟩
  · by_cases h2 : b < a
    · go_enter Tryz.func91, Tryz.ntmps91
      go_wp2
      go_ret
      exact ⟨ret_int (by simp [cmpZ, h, h2]), rfl⟩
    · go_enter Tryz.func91, Tryz.ntmps91
      go_wp2
      go_ret
      exact ⟨ret_int (by simp only [cmpZ]; rw [if_neg (by omega), if_neg (by omega)]), rfl⟩
/-- what 'must' panics with -/
def wrong (e : Int) : List PanicEntry := [{ v := .iface 104 (.agg #[.int .i64 e]), recovered := false }]
theorem must_ok (e : Int) (w : World) : Calls Tryz.prog 25 #[.bool true, .int .i64 e] w fun x w' => x = .returned (.tuple #[]) ∧ w' = w := by
  go_enter Tryz.func25, Tryz.ntmps25
  go_wp2
  go_end0
  exact ⟨rfl, rfl⟩
theorem must_no (e : Int) (w : World) : Calls Tryz.prog 25 #[.bool false, .int .i64 e] w fun x w' => x = .panicked (wrong e) ∧ w' = w := by
  go_enter Tryz.func25, Tryz.ntmps25
  go_wp2
  exact ⟨rfl, rfl, rfl⟩
/-- formed: what Check accepts -/
def okI (neg : Bool) (l : List Nat) : Bool := if l.length = 0 then !neg else decide (l.length ≤ 300) && (l.getD (l.length - 1) 0 != 0)
abbrev iv (neg : Bool) (A : Option Addr) (n c : Nat) : Value := .agg #[.bool neg, .slice A n c]
set_option maxRecDepth 100000 in
set_option maxHeartbeats 1000000 in
theorem Check_calls (neg : Bool) (A : Option Addr) (c : Nat) (l : List Nat) (w : World) (hA : Rd w A l) (hc : l.length ≤ c) :
    Calls Tryz.prog 35 #[iv neg A l.length c] w fun e w' => e = .returned (.int .i64 (if okI neg l then 0 else 1)) ∧ Below w.heap.size w w' := by
  have hs := hA.small
  by_cases h300 : 300 < l.length
  · have hk : okI neg l = false := by unfold okI; rw [if_neg (by omega), show decide (l.length ≤ 300) = false from decide_eq_false (by omega)]; rfl
    rw [hk]
    clear hk
    simp only [Bool.false_eq_true, if_false]
    go_enter Tryz.func35, Tryz.ntmps35
    go_wp2
    go_ret
    exact ⟨rfl, (Below.refl _ _).alloc (Nat.le_refl _) _⟩
  · by_cases h0 : l.length = 0
    · obtain rfl : l = [] := List.length_eq_zero_iff.1 h0
      cases neg
      · have hk : okI false [] = true := by decide
        rw [hk, if_pos rfl]
        clear hk
        go_enter Tryz.func35, Tryz.ntmps35
        go_wp2
        go_ret
        exact ⟨rfl, (Below.refl _ _).alloc (Nat.le_refl _) _⟩
      · have hk : okI true [] = false := by decide
        rw [hk]
        clear hk
        simp only [Bool.false_eq_true, if_false]
        go_enter Tryz.func35, Tryz.ntmps35
        go_wp2
        go_ret
        exact ⟨rfl, (Below.refl _ _).alloc (Nat.le_refl _) _⟩
    · obtain ⟨b, o, x, rfl, hcx, hx, hxb⟩ := hA.get (l.length - 1) (by omega)
      have hbl : b < w.heap.size := World.block_lt_of_cell? w _ hcx
      have h0' : ((l.length : Int) == 0) = false := by rw [beq_eq_false_iff_ne]; omega
      have hp : 0 < l.length := by omega
      by_cases hx0 : x = 0
      · subst hx0
        have hk : okI neg l = false := by unfold okI; rw [if_neg h0, hx.out]; simp
        rw [hk]
        clear hk h0
        simp only [Bool.false_eq_true, if_false]
        have h300' : decide ((300 : Int) < (l.length : Int)) = false := decide_eq_false (by omega)
        go_enter Tryz.func35, Tryz.ntmps35
        go_wp2
        go_ret
        exact ⟨rfl, (Below.refl _ _).alloc (Nat.le_refl _) _⟩
      · have hx1 : ((x : Int) == 0) = false := by simp; omega
        have hk : okI neg l = true := by unfold okI; rw [if_neg h0, hx.out]; simp [hx0]; omega
        rw [hk, if_pos rfl]
        clear hk h0
        go_enter Tryz.func35, Tryz.ntmps35
        go_wp2
        go_ret
        exact ⟨rfl, (Below.refl _ _).alloc (Nat.le_refl _) _⟩
/-- the number of an integer -/
def toZ (neg : Bool) (l : List Nat) : Int := if neg then -(val l : Int) else val l
/-- -1, 0 or 1 -/
def sgn (neg : Bool) (l : List Nat) : Int := if l.length = 0 then 0 else if neg then -1 else 1
set_option maxHeartbeats 1000000 in
theorem sign_calls (neg : Bool) (A : Option Addr) (c : Nat) (l : List Nat) (w : World) :
    Calls Tryz.prog 68 #[iv neg A l.length c] w fun e w' => e = .returned (.int .i64 (sgn neg l)) ∧ w' = w.alloc (.cells #[.bool neg, .slice A l.length c] 24) := by
  by_cases h0 : l.length = 0
  · obtain rfl : l = [] := List.length_eq_zero_iff.1 h0
    go_enter Tryz.func68, Tryz.ntmps68
    go_wp2
    go_ret
    exact ⟨rfl, rfl⟩
  · have h0' : ((l.length : Int) == 0) = false := by rw [beq_eq_false_iff_ne]; omega
    cases neg
    · have hg : sgn false l = 1 := by unfold sgn; rw [if_neg h0]; rfl
      rw [hg]
      clear h0 hg
      go_enter Tryz.func68, Tryz.ntmps68
      go_wp2
      go_ret
      exact ⟨rfl, rfl⟩
    · have hg : sgn true l = -1 := by unfold sgn; rw [if_neg h0]; rfl
      rw [hg]
      clear h0 hg
      go_enter Tryz.func68, Tryz.ntmps68
      go_wp2
      go_ret
      exact ⟨rfl, rfl⟩
set_option maxHeartbeats 1000000 in
theorem compare_ne (A1 A2 : Option Addr) (c1 c2 : Nat) (l1 l2 : List Nat) (w : World) (h : l1.length ≠ l2.length) :
    Calls Tryz.prog 62 #[.slice A1 l1.length c1, .slice A2 l2.length c2] w fun e w' => e = .returned (.int .i64 (cmpZ l1.length l2.length)) ∧ ∃ n, w' = w.drewN n := by
  have h' : ((l1.length : Int) != (l2.length : Int)) = true := by rw [bne_iff_ne]; omega
  clear h
  go_enter Tryz.func62, Tryz.ntmps62
  go_wp2_with (go_at_call 69; refine (cmp_int_calls _ _ _).mono ?_; rintro e w' ⟨rfl, rfl⟩)
  go_ret
  exact ⟨rfl, 0, rfl⟩
set_option maxRecDepth 100000 in
set_option maxHeartbeats 2000000 in
theorem compare_eq (A1 A2 : Option Addr) (c1 c2 : Nat) (l1 l2 : List Nat) (w : World) (h1 : Rd w A1 l1) (h2 : Rd w A2 l2) (_hc1 : l1.length ≤ c1) (hc2 : l2.length ≤ c2) (h : l1.length = l2.length) :
    Calls Tryz.prog 62 #[.slice A1 l1.length c1, .slice A2 l2.length c2] w fun e w' => e = .returned (.int .i64 (cmpZ (val l1) (val l2))) ∧ ∃ n, w' = w.drewN n := by
  have hs := h1.small
  rw [← h]
  have hc2' : l1.length ≤ c2 := by omega
  have H := Lib.hid h
  have hne0 : ((l1.length : Int) != (l1.length : Int)) = false := by simp
  clear h hc2
  go_enter Tryz.func62, Tryz.ntmps62
  go_wp2
  go_loopw [5] (fun i w' => ∃ k : Nat, k ≤ l1.length ∧ i = .int .i64 ((k : Int) - 1) ∧ (∃ n, w' = w.drewN n) ∧ Hid (l1.drop k = l2.drop k)) (fun i _ => (intOf i + 1).toNat)
  case atStart => exact ⟨l1.length, Nat.le_refl _, rfl, ⟨0, rfl⟩, by show _ = _; rw [List.drop_of_length_le (Nat.le_refl _), List.drop_of_length_le (by have := H.out; omega)]⟩
  case round =>
    obtain ⟨k, hk, rfl, ⟨n0, rfl⟩, hd⟩ := hrel
    by_cases h0 : 0 < k
    · obtain ⟨k, rfl⟩ : ∃ j, k = j + 1 := ⟨k - 1, by omega⟩
      obtain ⟨b1, o1, x, rfl, hcx, hx, hxb⟩ := h1.get k (by omega)
      obtain ⟨b2, o2, y, rfl, hcy, hy, hyb⟩ := h2.get k (by have := H.out; omega)
      rw [show ((k + 1 : Nat) : Int) - 1 = (k : Int) by omega]
      clear h0
      by_cases hxy : x = y
      · subst hxy
        have hne : ((x : Int) != (x : Int)) = false := by simp
        go_wp2
        go_quiet (fail)
        go_wp2
        go_roundw
        case rel =>
          refine ⟨k, by omega, rfl, ⟨_, rfl⟩, ?_⟩
          show _ = _
          have e1 : l1.drop k = x :: l1.drop (k + 1) := by
            have := hx.out
            rw [List.getD_eq_getElem?_getD, List.getElem?_eq_getElem (by omega)] at this
            rw [List.drop_eq_getElem_cons (by omega)]; rw [show l1[k] = x by simpa using this]
          have e2 : l2.drop k = x :: l2.drop (k + 1) := by
            have := hy.out
            rw [List.getD_eq_getElem?_getD, List.getElem?_eq_getElem (by have := H.out; omega)] at this
            rw [List.drop_eq_getElem_cons (by have := H.out; omega)]; rw [show l2[k] = x by simpa using this]
          rw [e1, e2, hd.out]
        case measure => simp [intOf]
      · have hne : ((x : Int) != (y : Int)) = true := by rw [bne_iff_ne]; omega
        go_wp2
        go_quiet (fail)
        rw [World.drewN_drewN]
        obtain ⟨W, hW⟩ : ∃ W, w.drewN (n0 + nq) = W := ⟨_, rfl⟩
        replace hcx : W.cell? ⟨b1, o1 + k, none⟩ = some (.int .u32 (x : Int)) := by rw [← hW]; exact hcx
        replace hcy : W.cell? ⟨b2, o2 + k, none⟩ = some (.int .u32 (y : Int)) := by rw [← hW]; exact hcy
        rw [hW]
        have HW := Lib.hid hW
        clear hW
        go_wp2
        go_quiet ((go_at_call 91; exact Calls.quiet_of_same (cmp_u32_calls _ _ _)))
        go_wp2
        go_ret
        refine ⟨ret_int ?_, ⟨_, by rw [← HW.out, World.drewN_drewN]⟩⟩
        have hl := H.out
        unfold cmpZ
        rcases Nat.lt_or_gt_of_ne hxy with hlt | hgt
        · have := val_drop_lt h1.words h2.words H.out (k := k) (by omega) hd.out (by rw [hx.out, hy.out]; exact hlt)
          rw [if_pos (by omega), if_pos (by omega)]
        · have := val_drop_lt h2.words h1.words H.out.symm (k := k) (by omega) hd.out.symm (by rw [hx.out, hy.out]; exact hgt)
          rw [if_neg (by omega), if_pos (by omega), if_neg (by omega), if_pos (by omega)]
    · obtain rfl : k = 0 := by omega
      go_wp2
      go_ret
      have e : l1 = l2 := by simpa using hd.out
      exact ⟨ret_int (by rw [e]; simp [cmpZ]), n0, rfl⟩
/-- '(nat).compare' of magnitudes without zeros on top -/
theorem compare_calls (A1 A2 : Option Addr) (c1 c2 : Nat) (l1 l2 : List Nat) (w : World) (h1 : Rd w A1 l1) (h2 : Rd w A2 l2) (hc1 : l1.length ≤ c1) (hc2 : l2.length ≤ c2) (k1 : Canon l1) (k2 : Canon l2) :
    Calls Tryz.prog 62 #[.slice A1 l1.length c1, .slice A2 l2.length c2] w fun e w' => e = .returned (.int .i64 (cmpZ (val l1) (val l2))) ∧ ∃ n, w' = w.drewN n := by
  by_cases h : l1.length = l2.length
  · exact compare_eq A1 A2 c1 c2 l1 l2 w h1 h2 hc1 hc2 h
  · refine (compare_ne A1 A2 c1 c2 l1 l2 w h).mono ?_
    rintro e w' ⟨rfl, h'⟩
    refine ⟨ret_int ?_, h'⟩
    unfold cmpZ
    rcases Nat.lt_or_gt_of_ne h with hlt | hgt
    · have := val_lt_of_length k1.1 k2 hlt
      rw [if_pos (by omega), if_pos (by omega)]
    · have := val_lt_of_length k2.1 k1 hgt
      rw [if_neg (by omega), if_pos (by omega), if_neg (by omega), if_pos (by omega)]
end Nm
end Go.Proofs.YtlhmbbpkhahbeaaGreatDoor
namespace Go.Proofs.YtlhmbbpkhahbeaaGreatDoor
namespace Nm
open Go.RowKit Go.Shelf Go.BigFrame
attribute [local go_sem] Oper.semAt_some
theorem sub_step {l1 l2 outs : List Nat} {k cy x y z q : Nat} (hx : l1.getD k 0 = x) (hy : l2.getD k 0 = y) (hl : outs.length = k)
    (hzq : x + BB * q = z + (y + cy)) (h : val (l1.take k) + BB ^ k * cy = val outs + val (l2.take k)) :
    val (l1.take (k + 1)) + BB ^ (k + 1) * q = val (outs ++ [z]) + val (l2.take (k + 1)) := by
  rw [val_snoc, val_take_succ l1 k x hx, val_take_succ l2 k y hy, hl, Nat.pow_succ, Nat.mul_assoc]
  have : BB ^ k * (x + BB * q) = BB ^ k * (z + (y + cy)) := by rw [hzq]
  simp only [Nat.mul_add] at this
  omega
set_option maxRecDepth 100000 in
set_option maxHeartbeats 2000000 in
theorem sub_calls (A1 A2 : Option Addr) (c1 c2 : Nat) (l1 l2 : List Nat) (w : World) (h1 : Rd w A1 l1) (h2 : Rd w A2 l2) (_hc1 : l1.length ≤ c1) (hc2 : l2.length ≤ c2)
    (hle : val l2 ≤ val l1) (hll : l2.length ≤ l1.length) (hsm : l1.length ≤ 1048576) :
    Calls Tryz.prog 53 #[.slice A1 l1.length c1, .slice A2 l2.length c2] w (RetNat (val l1 - val l2) w) := by
  refine (callsIn_wide (n := 5)).1 ?_
  refine callsIn_of_wp_marks Tryz.func53 rfl trivial ?_ rfl
  simp only [Tryz.ntmps53, List.size_toArray, List.length_cons, List.length_nil, Nat.reduceAdd, Nat.reduceSub, Array.replicate_succ, Array.replicate_zero, List.push_toArray, List.append_toArray, List.nil_append, List.cons_append]
  have hs1 := h1.small
  have hs2 := h2.small
  have Hle := Lib.hid hle
  clear hle
  have hmk := make_nat (l1.length : Int) (l1.length : Int) l1.length l1.length rfl rfl (by omega) (by omega)
  gi_wp2_with (refine ⟨trivial, ?_⟩; gi_at_call 66; refine (callsIn_wide.2 (limbs_calls _ _ _ _)).mono ?_; rintro e w2 ⟨rfl, rfl⟩)
  clear hmk
  obtain ⟨w3, hw3⟩ : ∃ w3, allocs w [.cells #[.slice A2 l2.length c2] 54, .cells (warr (List.replicate l1.length 0)) 50, .cells #[.slice (some ⟨w.heap.size + 1, 0, none⟩) l1.length l1.length] 54, .cells #[.int .u64 0] 92, .cells #[.slice A1 l1.length c1] 54] = w3 := ⟨_, rfl⟩
  have hget := allocs_get w [.cells #[.slice A2 l2.length c2] 54, .cells (warr (List.replicate l1.length 0)) 50, .cells #[.slice (some ⟨w.heap.size + 1, 0, none⟩) l1.length l1.length] 54, .cells #[.int .u64 0] 92, .cells #[.slice A1 l1.length c1] 54]
  have hs3 := allocs_stp w [.cells #[.slice A2 l2.length c2] 54, .cells (warr (List.replicate l1.length 0)) 50, .cells #[.slice (some ⟨w.heap.size + 1, 0, none⟩) l1.length l1.length] 54, .cells #[.int .u64 0] 92, .cells #[.slice A1 l1.length c1] 54] (Nat.le_refl w.heap.size)
  have hsz3 := allocs_size w [.cells #[.slice A2 l2.length c2] 54, .cells (warr (List.replicate l1.length 0)) 50, .cells #[.slice (some ⟨w.heap.size + 1, 0, none⟩) l1.length l1.length] 54, .cells #[.int .u64 0] 92, .cells #[.slice A1 l1.length c1] 54]
  rw [hw3] at hget hs3 hsz3
  simp only [allocs] at hw3
  rw [hw3]
  clear hw3
  replace hsz3 : w.heap.size + 5 ≤ w3.heap.size := by rw [hsz3]; exact Nat.le_refl _
  have hB0 : Boxed w3 w.heap.size 54 (.slice A2 l2.length c2) := hget 0 (by simp)
  have hB1 : Arr w3 (w.heap.size + 1) (List.replicate l1.length 0) := arr_of (hget 1 (by simp))
  have hB2 : Boxed w3 (w.heap.size + 2) 54 (.slice (some ⟨w.heap.size + 1, 0, none⟩) l1.length l1.length) := hget 2 (by simp)
  have hB3 : Boxed w3 (w.heap.size + 3) 92 (.int .u64 0) := hget 3 (by simp)
  have hB4 : Boxed w3 (w.heap.size + 4) 54 (.slice A1 l1.length c1) := hget 4 (by simp)
  clear hget
  refine wpIn_limbs_p (n₀ := w.heap.size) (l := l1) rfl (by omega) (gf := 92) (lb := #[.pointer (some ⟨w.heap.size + 4, 0, none⟩)]) rfl trivial (enters_of Tryz.func92 (by kernel_rfl) rfl)
    (limbs1_in _ (w.heap.size + 4) A1 c1 l1 w.heap.size w3 hB4.cell (h1.below hs3.below rfl) (by omega) (rd_block h1)) (by omega) (Below.refl _ _) rfl
    (fun k W => ∃ (outs : List Nat) (cy : Nat), Boxed W w.heap.size 54 (.slice A2 l2.length c2) ∧ Arr W (w.heap.size + 1) (outs ++ List.replicate (l1.length - k) 0) ∧ Boxed W (w.heap.size + 2) 54 (.slice (some ⟨w.heap.size + 1, 0, none⟩) l1.length l1.length) ∧ Boxed W (w.heap.size + 3) 92 (.int .u64 (cy : Int)) ∧ Below w.heap.size w W ∧ cy ≤ 1 ∧ outs.length = k ∧ Words outs ∧ Hid (val (l1.take k) + BB ^ k * cy = val outs + val (l2.take k)))
    ?own ?start ?round ?done
  case own =>
    rintro k X Y row ⟨outs, cy, a0, a1, a2, a3, hbl, rest⟩ hg hr
    exact ⟨outs, cy, boxed_ownF _ _ _ (fun _ => _) k X Y row a0 hg hr, arr_ownF _ _ (fun _ => _) k X Y row a1 hg hr, boxed_ownF _ _ _ (fun _ => _) k X Y row a2 hg hr, boxed_ownF _ _ _ (fun _ => _) k X Y row a3 hg hr, ownFrom_below (Nat.le_refl _) (by omega) k X Y row hbl hg hr, rest⟩
  case start => exact ⟨[], 0, hB0, hB1, hB2, hB3, hs3.below, by omega, rfl, words_nil, by simp [Hid, val]⟩
  case round =>
    intro k W hk
    obtain ⟨x, hx, hxb⟩ : ∃ x, Hid (l1.getD k 0 = x) ∧ x < 4294967296 := ⟨_, rfl, words_getD h1.words k⟩
    obtain ⟨y, hy, hyb⟩ : ∃ y, Hid (l2.getD k 0 = y) ∧ y < 4294967296 := ⟨_, rfl, words_getD h2.words k⟩
    rw [hx.out]
    have hat : ∀ n w', Rd w' A2 l2 → CallsIn Fence.wide n Tryz.prog 84 #[.slice A2 l2.length c2, .int .i64 (k : Int)] w' fun e w'' => e = .returned (.int .u32 (y : Int)) ∧ w'' = w' := by
      intro n w' h; have := at_in n A2 c2 l2 k w' h hc2; rwa [hy.out] at this
    gi_wp2
    refine ⟨trivial, ?_⟩
    clear W
    rintro W ⟨outs, cy, hbb, harr, hbo, hbc, hbl, hcy, hol, how, hval⟩
    have Hol := Lib.hid hol
    clear hol
    obtain ⟨u, g4⟩ : ∃ u : Nat, W.cell? ⟨w.heap.size + 1, k, none⟩ = some (.int .u32 (u : Int)) := ⟨_, arr_cell harr k (by have := Hol.out; simp; omega)⟩
    have f4 := arr_frozen harr k
    have ghbb := hbb.cell
    have fhbb := hbb.frozen
    have thbb := hbb.lt
    have tharr := arr_lt harr
    have ghbo := hbo.cell
    have fhbo := hbo.frozen
    have thbo := hbo.lt
    have ghbc := hbc.cell
    have fhbc := hbc.frozen
    have thbc := hbc.lt
    obtain ⟨d, d1, d2⟩ : ∃ d : Nat, IntKind.u64.wrap ((x : Int) - (y : Int)) = (d : Int) ∧ Hid ((d : Int) = ((x : Int) - (y : Int)) % 18446744073709551616) := by
      obtain ⟨d, hd⟩ := Int.eq_ofNat_of_zero_le (show 0 ≤ ((x : Int) - (y : Int)) % 18446744073709551616 by omega)
      exact ⟨d, by rw [← hd]; rfl, hd.symm⟩
    obtain ⟨v, v1, v2⟩ : ∃ v : Nat, IntKind.u64.wrap ((d : Int) - (cy : Int)) = (v : Int) ∧ Hid ((v : Int) = ((d : Int) - (cy : Int)) % 18446744073709551616) := by
      obtain ⟨d, hd⟩ := Int.eq_ofNat_of_zero_le (show 0 ≤ ((d : Int) - (cy : Int)) % 18446744073709551616 by omega)
      exact ⟨d, by rw [← hd]; rfl, hd.symm⟩
    obtain ⟨z, z1, z2⟩ : ∃ z : Nat, (v : Int) % 4294967296 = (z : Int) ∧ Hid (z = v % 4294967296) := ⟨v % 4294967296, by omega, rfl⟩
    gi_wp2
    have hwide : ∀ f, Fence.wide.fn f := fun _ => trivial
    refine wpIn_region_all (by kernel_rfl) (by kernel_rfl) (by kernel_rfl) ?_
    repeat (gi_big_quiet_step ((gi_at_call 84; exact CallsIn.quiet_of_same (CallsIn.inRound _ (hat _ _ (h2.below (below_drewN hbl _) rfl))))))
    refine wpQuietIn_nil ?_
    intro m
    gi_wp2
    obtain ⟨q, q1, q2⟩ : ∃ q : Nat, (v : Int) / 9223372036854775808 = (q : Int) ∧ q = v / 9223372036854775808 := ⟨v / 9223372036854775808, by omega, rfl⟩
    rw [q1]
    simp only [Nat.add_assoc, Nat.reduceAdd]
    have D2 := d2.out
    have V2 := v2.out
    have Z2 := z2.out
    have hq2 : q ≤ 1 ∧ x + 4294967296 * q = z + (y + cy) := by omega
    refine limb_end (by (repeat (first | with_reducible exact Stp.refl _ _ | with_reducible refine Stp.set ?_ (by simp) _ | with_reducible refine Stp.alloc ?_ (by simp; omega) _ | with_reducible refine Stp.drewN ?_ _))) (fun hst => ⟨outs ++ [z], q, by (repeat (first | with_reducible exact hbb | with_reducible exact HasBox.of hbb | with_reducible refine boxed_other ?_ (by omega) _ | with_reducible refine boxed_set _ ?_ | with_reducible refine HasBox.set ?_ _ _ | with_reducible refine HasBox.alloc ?_ _ | with_reducible refine HasBox.drewN ?_ _ | with_reducible refine Boxed.alloc ?_ _ | with_reducible refine boxed_drewN ?_ _)), ?_, by (repeat (first | with_reducible exact hbo | with_reducible exact HasBox.of hbo | with_reducible refine boxed_other ?_ (by omega) _ | with_reducible refine boxed_set _ ?_ | with_reducible refine HasBox.set ?_ _ _ | with_reducible refine HasBox.alloc ?_ _ | with_reducible refine HasBox.drewN ?_ _ | with_reducible refine Boxed.alloc ?_ _ | with_reducible refine boxed_drewN ?_ _)), by (repeat (first | with_reducible exact hbc | with_reducible exact HasBox.of hbc | with_reducible refine boxed_other ?_ (by omega) _ | with_reducible refine boxed_set _ ?_ | with_reducible refine HasBox.set ?_ _ _ | with_reducible refine HasBox.alloc ?_ _ | with_reducible refine HasBox.drewN ?_ _ | with_reducible refine Boxed.alloc ?_ _ | with_reducible refine boxed_drewN ?_ _)), hbl.trans hst.below, hq2.1, by simp [Hol.out], ?_, ?_⟩)
    · rw [show l1.length - (k + 1) = l1.length - k - 1 by omega, ← set_snoc outs (l1.length - k) z k Hol.out (by omega)]
      (repeat (first | with_reducible exact harr | with_reducible refine arr_other ?_ (by omega) _ | with_reducible refine arr_set ?_ _ _ | with_reducible refine arr_alloc ?_ _ | with_reducible refine arr_drewN ?_ _))
    · exact words_append.2 ⟨how, fun u hu => by simp at hu; rw [hu]; show z < 4294967296; omega⟩
    · exact sub_step hx.out hy.out Hol.out hq2.2 hval.out
  case done =>
    rintro D W hD ⟨outs, cy, hbb, harr, hbo, hbc, hbl, hcy, hol, how, hval⟩ hK
    have Hol := Lib.hid hol
    clear hol
    have ghbb := hbb.cell
    have fhbb := hbb.frozen
    have thbb := hbb.lt
    have ghbo := hbo.cell
    have fhbo := hbo.frozen
    have thbo := hbo.lt
    have ghbc := hbc.cell
    have fhbc := hbc.frozen
    have thbc := hbc.lt
    have tharr := arr_lt harr
    gi_wp2
    obtain ⟨W5, hW5⟩ : ∃ W5, W = W5 := ⟨_, rfl⟩
    have hst5 : Stp w.heap.size W W5 := by rw [← hW5]; exact Stp.refl _ _
    have harr5 : Arr W5 (w.heap.size + 1) (outs) := by
      rw [← hW5]; simpa using harr
    rw [hW5]
    clear hW5
    have hK5 := hst5.keeps.same D _ hK rfl
    have hww : Words (outs) := how
    have hlen : (outs).length = l1.length := Hol.out
    have hrd := arr_rd harr5 hww (by omega)
    have ht := fun n => trim_in n (some ⟨(w.heap.size + 1), 0, none⟩) (l1.length) (outs) W5 hrd (by omega)
    have hval' : trim (outs) = lim (val l1 - val l2) := by
      unfold trim
      rw [show val (outs) = val l1 - val l2 from (by have h := hval.out; have hb := Hle.out; have ho := val_lt how; rw [Hol.out] at ho; rw [List.take_length, List.take_of_length_le hll] at h; rcases Nat.lt_or_ge 0 cy with hc | hc; (have : cy = 1 := by omega); subst this; rw [Nat.mul_one] at h; omega; (have : cy = 0 := by omega); subst this; rw [Nat.mul_zero] at h; omega)]
    rw [hval', hlen] at ht
    have hrd2 := hrd.trim
    have htl := trim_length_le hww
    rw [hval'] at hrd2 htl
    have hDl := (Array.getElem?_eq_some_iff.1 hK5).1
    clear hval hval'
    refine ⟨trivial, ?_⟩
    refine (ht _).mono ?_
    rintro e w' ⟨rfl, rfl⟩
    gi_wp2
    refine ⟨by simp, .inl ⟨_, _, rfl, run_takeDeferred hK5, ?_⟩⟩
    exact ⟨_, results_tmp rfl _ _ _, _, _, rfl, by omega, hrd2.putObj _ hK5 rfl, hbl.trans (hst5.below.trans (belowK_b (w := w) (Nat.le_refl _) W5 D _ _ (by omega) hK5 rfl rfl))⟩
end Nm
end Go.Proofs.YtlhmbbpkhahbeaaGreatDoor
namespace Go.Proofs.YtlhmbbpkhahbeaaGreatDoor
namespace Nm
open Go.RowKit Go.Shelf Go.BigFrame
attribute [local go_sem] Oper.semAt_some
theorem scaled_step {l outs : List Nat} {k cy x m n t : Nat} (hx : l.getD k 0 = x) (hl : outs.length = k) (ht : t = cy + x * m)
    (h : val outs + BB ^ k * cy = val (l.take k) * m + n) :
    val (outs ++ [t % BB]) + BB ^ (k + 1) * (t / BB) = val (l.take (k + 1)) * m + n := by
  rw [val_snoc, val_take_succ l k x hx, hl, Nat.pow_succ, Nat.mul_assoc, Nat.add_assoc, ← Nat.mul_add, Nat.mod_add_div, ht, Nat.mul_add, Nat.add_mul, Nat.mul_assoc]
  omega
theorem mul_words {x m : Nat} (hx : x < 4294967296) (hm : m < 4294967296) : x * m ≤ 18446744065119617025 := by
  have := Nat.mul_le_mul (show x ≤ 4294967295 by omega) (show m ≤ 4294967295 by omega)
  exact this
set_option maxRecDepth 100000 in
set_option maxHeartbeats 2000000 in
theorem scaled_calls (A : Option Addr) (c m n : Nat) (l : List Nat) (w : World) (h1 : Rd w A l) (_hc1 : l.length ≤ c) (hm : m < 4294967296) (hn : n < 4294967296) (hsm : l.length ≤ 1048576) :
    Calls Tryz.prog 32 #[.slice A l.length c, .int .u32 (m : Int), .int .u32 (n : Int)] w (RetNat (val l * m + n) w) := by
  refine (callsIn_wide (n := 5)).1 ?_
  refine callsIn_of_wp_marks Tryz.func32 rfl trivial ?_ rfl
  simp only [Tryz.ntmps32, List.size_toArray, List.length_cons, List.length_nil, Nat.reduceAdd, Nat.reduceSub, Array.replicate_succ, Array.replicate_zero, List.push_toArray, List.append_toArray, List.nil_append, List.cons_append]
  have hs1 := h1.small
  have hmk := make_nat 0 ((l.length : Int) + 1) 0 (l.length + 1) rfl (by simp) (by omega) (by omega)
  gi_wp2_with (refine ⟨trivial, ?_⟩; gi_at_call 66; refine (callsIn_wide.2 (limbs_calls _ _ _ _)).mono ?_; rintro e w2 ⟨rfl, rfl⟩)
  clear hmk
  obtain ⟨w3, hw3⟩ : ∃ w3, allocs w [.cells #[.int .u32 (m : Int)] 50, .cells (warr (List.replicate (l.length + 1) 0)) 50, .cells #[.slice (some ⟨w.heap.size + 1, 0, none⟩) 0 (l.length + 1)] 54, .cells #[.int .u64 (n : Int)] 92, .cells #[.slice A l.length c] 54] = w3 := ⟨_, rfl⟩
  have hget := allocs_get w [.cells #[.int .u32 (m : Int)] 50, .cells (warr (List.replicate (l.length + 1) 0)) 50, .cells #[.slice (some ⟨w.heap.size + 1, 0, none⟩) 0 (l.length + 1)] 54, .cells #[.int .u64 (n : Int)] 92, .cells #[.slice A l.length c] 54]
  have hs3 := allocs_stp w [.cells #[.int .u32 (m : Int)] 50, .cells (warr (List.replicate (l.length + 1) 0)) 50, .cells #[.slice (some ⟨w.heap.size + 1, 0, none⟩) 0 (l.length + 1)] 54, .cells #[.int .u64 (n : Int)] 92, .cells #[.slice A l.length c] 54] (Nat.le_refl w.heap.size)
  have hsz3 := allocs_size w [.cells #[.int .u32 (m : Int)] 50, .cells (warr (List.replicate (l.length + 1) 0)) 50, .cells #[.slice (some ⟨w.heap.size + 1, 0, none⟩) 0 (l.length + 1)] 54, .cells #[.int .u64 (n : Int)] 92, .cells #[.slice A l.length c] 54]
  rw [hw3] at hget hs3 hsz3
  simp only [allocs] at hw3
  rw [hw3]
  clear hw3
  replace hsz3 : w.heap.size + 5 ≤ w3.heap.size := by rw [hsz3]; exact Nat.le_refl _
  have hB0 : Boxed w3 w.heap.size 50 (.int .u32 (m : Int)) := hget 0 (by simp)
  have hB1 : Arr w3 (w.heap.size + 1) (List.replicate (l.length + 1) 0) := arr_of (hget 1 (by simp))
  have hB2 : Boxed w3 (w.heap.size + 2) 54 (.slice (some ⟨w.heap.size + 1, 0, none⟩) 0 (l.length + 1)) := hget 2 (by simp)
  have hB3 : Boxed w3 (w.heap.size + 3) 92 (.int .u64 (n : Int)) := hget 3 (by simp)
  have hB4 : Boxed w3 (w.heap.size + 4) 54 (.slice A l.length c) := hget 4 (by simp)
  clear hget
  refine wpIn_limbs_p (n₀ := w.heap.size) (l := l) rfl (by omega) (gf := 92) (lb := #[.pointer (some ⟨w.heap.size + 4, 0, none⟩)]) rfl trivial (enters_of Tryz.func92 (by kernel_rfl) rfl)
    (limbs1_in _ (w.heap.size + 4) A c l w.heap.size w3 hB4.cell (h1.below hs3.below rfl) (by omega) (rd_block h1)) (by omega) (Below.refl _ _) rfl
    (fun k W => ∃ (outs : List Nat) (cy : Nat), Boxed W w.heap.size 50 (.int .u32 (m : Int)) ∧ Arr W (w.heap.size + 1) (outs ++ List.replicate (l.length + 1 - k) 0) ∧ Boxed W (w.heap.size + 2) 54 (.slice (some ⟨w.heap.size + 1, 0, none⟩) k (l.length + 1)) ∧ Boxed W (w.heap.size + 3) 92 (.int .u64 (cy : Int)) ∧ Below w.heap.size w W ∧ cy < 4294967296 ∧ outs.length = k ∧ Words outs ∧ Hid (val outs + BB ^ k * cy = val (l.take k) * m + n))
    ?own ?start ?round ?done
  case own =>
    rintro k X Y row ⟨outs, cy, a0, a1, a2, a3, hbl, rest⟩ hg hr
    exact ⟨outs, cy, boxed_ownF _ _ _ (fun _ => _) k X Y row a0 hg hr, arr_ownF _ _ (fun _ => _) k X Y row a1 hg hr, boxed_ownF _ _ _ (fun _ => _) k X Y row a2 hg hr, boxed_ownF _ _ _ (fun _ => _) k X Y row a3 hg hr, ownFrom_below (Nat.le_refl _) (by omega) k X Y row hbl hg hr, rest⟩
  case start => exact ⟨[], n, hB0, hB1, hB2, hB3, hs3.below, hn, rfl, words_nil, by simp [Hid, val]⟩
  case round =>
    intro k W hk
    obtain ⟨x, hx, hxb⟩ : ∃ x, Hid (l.getD k 0 = x) ∧ x < 4294967296 := ⟨_, rfl, words_getD h1.words k⟩
    rw [hx.out]
    gi_wp2
    refine ⟨trivial, ?_⟩
    clear W
    rintro W ⟨outs, cy, hbb, harr, hbo, hbc, hbl, hcy, hol, how, hval⟩
    have Hol := Lib.hid hol
    clear hol
    obtain ⟨u, g4⟩ : ∃ u : Nat, W.cell? ⟨w.heap.size + 1, k, none⟩ = some (.int .u32 (u : Int)) := ⟨_, arr_cell harr k (by have := Hol.out; simp; omega)⟩
    have f4 := arr_frozen harr k
    have ghbb := hbb.cell
    have fhbb := hbb.frozen
    have thbb := hbb.lt
    have tharr := arr_lt harr
    have ghbo := hbo.cell
    have fhbo := hbo.frozen
    have thbo := hbo.lt
    have ghbc := hbc.cell
    have fhbc := hbc.frozen
    have thbc := hbc.lt
    obtain ⟨p, hp, hp2, hp3⟩ : ∃ p : Nat, (x : Int) * (m : Int) = (p : Int) ∧ p ≤ 18446744065119617025 ∧ Hid (p = x * m) := ⟨x * m, (Int.natCast_mul x m).symm, mul_words hxb hm, rfl⟩
    gi_wp2
    obtain ⟨z, hz⟩ : ∃ z : Nat, ((cy : Int) + (p : Int)) % 4294967296 = (z : Int) := ⟨(cy + p) % 4294967296, by omega⟩
    obtain ⟨q, hq⟩ : ∃ q : Nat, ((cy : Int) + (p : Int)) / 4294967296 = (q : Int) := ⟨(cy + p) / 4294967296, by omega⟩
    rw [hz, hq]
    simp only [Nat.add_assoc, Nat.reduceAdd]
    have hz' : z = (cy + p) % BB := by show z = _ % 4294967296; omega
    have hq' : q = (cy + p) / BB := by show q = _ / 4294967296; omega
    refine limb_end (by (repeat (first | with_reducible exact Stp.refl _ _ | with_reducible refine Stp.set ?_ (by simp) _ | with_reducible refine Stp.alloc ?_ (by simp; omega) _ | with_reducible refine Stp.drewN ?_ _))) (fun hst => ⟨outs ++ [z], q, by (repeat (first | with_reducible exact hbb | with_reducible exact HasBox.of hbb | with_reducible refine boxed_other ?_ (by omega) _ | with_reducible refine boxed_set _ ?_ | with_reducible refine HasBox.set ?_ _ _ | with_reducible refine HasBox.alloc ?_ _ | with_reducible refine HasBox.drewN ?_ _ | with_reducible refine Boxed.alloc ?_ _ | with_reducible refine boxed_drewN ?_ _)), ?_, by (repeat (first | with_reducible exact hbo | with_reducible exact HasBox.of hbo | with_reducible refine boxed_other ?_ (by omega) _ | with_reducible refine boxed_set _ ?_ | with_reducible refine HasBox.set ?_ _ _ | with_reducible refine HasBox.alloc ?_ _ | with_reducible refine HasBox.drewN ?_ _ | with_reducible refine Boxed.alloc ?_ _ | with_reducible refine boxed_drewN ?_ _)), by (repeat (first | with_reducible exact hbc | with_reducible exact HasBox.of hbc | with_reducible refine boxed_other ?_ (by omega) _ | with_reducible refine boxed_set _ ?_ | with_reducible refine HasBox.set ?_ _ _ | with_reducible refine HasBox.alloc ?_ _ | with_reducible refine HasBox.drewN ?_ _ | with_reducible refine Boxed.alloc ?_ _ | with_reducible refine boxed_drewN ?_ _)), hbl.trans hst.below, by omega, by simp [Hol.out], ?_, ?_⟩)
    · rw [show l.length + 1 - (k + 1) = l.length + 1 - k - 1 by omega, ← set_snoc outs (l.length + 1 - k) z k Hol.out (by omega)]
      (repeat (first | with_reducible exact harr | with_reducible refine arr_other ?_ (by omega) _ | with_reducible refine arr_set ?_ _ _ | with_reducible refine arr_alloc ?_ _ | with_reducible refine arr_drewN ?_ _))
    · exact words_append.2 ⟨how, fun u hu => by simp at hu; rw [hu, hz']; exact Nat.mod_lt _ (by decide)⟩
    · rw [hz', hq']; exact scaled_step hx.out Hol.out (by rw [hp3.out]) hval.out
  case done =>
    rintro D W hD ⟨outs, cy, hbb, harr, hbo, hbc, hbl, hcy, hol, how, hval⟩ hK
    have Hol := Lib.hid hol
    clear hol
    obtain ⟨u, g4⟩ : ∃ u : Nat, W.cell? ⟨w.heap.size + 1, l.length, none⟩ = some (.int .u32 (u : Int)) := ⟨_, arr_cell harr l.length (by have := Hol.out; simp; omega)⟩
    have f4 := arr_frozen harr l.length
    have ghbb := hbb.cell
    have fhbb := hbb.frozen
    have thbb := hbb.lt
    have tharr := arr_lt harr
    have ghbo := hbo.cell
    have fhbo := hbo.frozen
    have thbo := hbo.lt
    have ghbc := hbc.cell
    have fhbc := hbc.frozen
    have thbc := hbc.lt
    gi_wp2
    obtain ⟨W5, hW5⟩ : ∃ W5, (W.setCell ⟨w.heap.size + 1, l.length, none⟩ (.int .u32 (cy : Int))).alloc (.cells #[.int .u32 (cy : Int)] 50) = W5 := ⟨_, rfl⟩
    have hst5 : Stp w.heap.size W W5 := by rw [← hW5]; exact ((Stp.refl _ W).set (by simp) _).alloc (by simp [World.setCell]; omega) _
    have harr5 : Arr W5 (w.heap.size + 1) (outs ++ [cy]) := by
      have := arr_alloc (arr_set harr l.length cy) (.cells #[.int .u32 (cy : Int)] 50)
      rw [set_snoc outs (l.length + 1 - l.length) cy l.length Hol.out (by omega), show l.length + 1 - l.length - 1 = 0 by omega] at this
      rw [← hW5]; simpa using this
    rw [hW5]
    clear hW5
    have hK5 := hst5.keeps.same D _ hK rfl
    have hww : Words (outs ++ [cy]) := words_append.2 ⟨how, fun u hu => by simp at hu; rw [hu]; exact hcy⟩
    have hlen : (outs ++ [cy]).length = l.length + 1 := by simp [Hol.out]
    have hrd := arr_rd harr5 hww (by omega)
    have ht := fun n => trim_in n (some ⟨(w.heap.size + 1), 0, none⟩) (l.length + 1) (outs ++ [cy]) W5 hrd (by omega)
    have hval' : trim (outs ++ [cy]) = lim (val l * m + n) := by
      unfold trim
      rw [show val (outs ++ [cy]) = val l * m + n from (by have h := hval.out; rw [List.take_length] at h; rw [val_snoc, Hol.out, h])]
    rw [hval', hlen] at ht
    have hrd2 := hrd.trim
    have htl := trim_length_le hww
    rw [hval'] at hrd2 htl
    have hDl := (Array.getElem?_eq_some_iff.1 hK5).1
    clear hval hval'
    refine ⟨trivial, ?_⟩
    refine (ht _).mono ?_
    rintro e w' ⟨rfl, rfl⟩
    gi_wp2
    refine ⟨by simp, .inl ⟨_, _, rfl, run_takeDeferred hK5, ?_⟩⟩
    exact ⟨_, results_tmp rfl _ _ _, _, _, rfl, by omega, hrd2.putObj _ hK5 rfl, hbl.trans (hst5.below.trans (belowK_b (w := w) (Nat.le_refl _) W5 D _ _ (by omega) hK5 rfl rfl))⟩
end Nm
end Go.Proofs.YtlhmbbpkhahbeaaGreatDoor
namespace Go.Proofs.YtlhmbbpkhahbeaaGreatDoor
namespace Nm
open Go.RowKit Go.Shelf Go.BigFrame
attribute [local go_sem] Oper.semAt_some
theorem wraps_u64 (n : Int) (h₀ : 0 ≤ n) (h₁ : n < 2 ^ 64) : IntKind.u64.wrap n = n := by
  show n % 18446744073709551616 = n
  exact Int.emod_eq_of_lt h₀ h₁
theorem or_u64 (a b i : Nat) (ha : a < 2 ^ i) (hb : b % 2 ^ i = 0) (ha' : a < 2 ^ 64) (hb' : b < 2 ^ 64) : bits .or .u64 (a : Int) (b : Int) = ((a + b : Nat) : Int) := by
  rw [(bits_nat .u64 64 (by decide) wraps_u64 a b ha' hb').2]
  have hq : b = 2 ^ i * (b / 2 ^ i) := by have := Nat.div_add_mod b (2 ^ i); omega
  rw [hq, Nat.or_comm, ← Nat.two_pow_add_eq_or_of_lt ha (b / 2 ^ i), Nat.add_comm]
theorem or_u64' (a b i : Nat) (ha : a < 2 ^ i) (hb : b % 2 ^ i = 0) (ha' : a < 2 ^ 64) (hb' : b < 2 ^ 64) : bits .or .u64 (b : Int) (a : Int) = ((b + a : Nat) : Int) := by
  rw [(bits_nat .u64 64 (by decide) wraps_u64 b a hb' ha').2]
  have hq : b = 2 ^ i * (b / 2 ^ i) := by have := Nat.div_add_mod b (2 ^ i); omega
  rw [hq, ← Nat.two_pow_add_eq_or_of_lt ha (b / 2 ^ i)]
theorem shift_step {l outs : List Nat} {k cy x r t : Nat} (hx : l.getD k 0 = x) (hl : outs.length = k) (ht : t = cy + x * 2 ^ r)
    (h : val outs + BB ^ k * cy = val (l.take k) * 2 ^ r) :
    val (outs ++ [t % BB]) + BB ^ (k + 1) * (t / BB) = val (l.take (k + 1)) * 2 ^ r := by
  rw [val_snoc, val_take_succ l k x hx, hl, Nat.pow_succ, Nat.mul_assoc, Nat.add_assoc, ← Nat.mul_add, Nat.mod_add_div, ht, Nat.mul_add, Nat.add_mul, Nat.mul_assoc]
  omega
theorem shl_bound {x r : Nat} (hx : x < 4294967296) (hr : r < 32) : x * 2 ^ r < 9223372036854775808 := by
  have h1 : 2 ^ r ≤ 2 ^ 31 := Nat.pow_le_pow_right (by decide) (by omega)
  have h2 : x * 2 ^ r ≤ 4294967295 * 2 ^ 31 := Nat.mul_le_mul (by omega) h1
  exact Nat.lt_of_le_of_lt h2 (by decide)
theorem shl_over {x r cy : Nat} (hx : x < 4294967296) (hc : cy < 2 ^ r) : (cy + x * 2 ^ r) / 4294967296 < 2 ^ r := by
  rw [Nat.div_lt_iff_lt_mul (by decide)]
  have h2 : x * 2 ^ r + 2 ^ r ≤ 2 ^ r * 4294967296 := by
    rw [← Nat.succ_mul, Nat.mul_comm]; exact Nat.mul_le_mul (Nat.le_refl _) (by omega)
  omega
theorem val_shift (n s r : Nat) (outs : List Nat) (v : Nat) (h : n = 32 * s + r) (hv : val outs = v * 2 ^ r) : val (List.replicate s 0 ++ outs) = v * 2 ^ n := by
  rw [val_append, val_replicate, List.length_replicate, hv, h, Nat.pow_add, Nat.pow_mul, Nat.zero_add]
  show (2 ^ 32) ^ s * _ = _
  rw [Nat.mul_left_comm]
set_option maxRecDepth 100000 in
set_option maxHeartbeats 2000000 in
theorem shift_calls (A : Option Addr) (c n : Nat) (l : List Nat) (w : World) (h1 : Rd w A l) (_hc1 : l.length ≤ c) (hn : n ≤ 1048576) (hsm : l.length ≤ 1048576) :
    Calls Tryz.prog 81 #[.slice A l.length c, .int .i64 (n : Int)] w (RetNat (val l * 2 ^ n) w) := by
  obtain ⟨s, r, hsr, hr⟩ : ∃ s r, n = 32 * s + r ∧ r < 32 := ⟨n / 32, n % 32, by omega, by omega⟩
  refine (callsIn_wide (n := 5)).1 ?_
  refine callsIn_of_wp_marks Tryz.func81 rfl trivial ?_ rfl
  simp only [Tryz.ntmps81, List.size_toArray, List.length_cons, List.length_nil, Nat.reduceAdd, Nat.reduceSub, Array.replicate_succ, Array.replicate_zero, List.push_toArray, List.append_toArray, List.nil_append, List.cons_append]
  have hs1 := h1.small
  have e1 : (n : Int) / 32 = (s : Int) := by omega
  have e2 : (n : Int) % 32 = (r : Int) := by omega
  have Hsr := Lib.hid hsr
  have hs : s ≤ 1048576 := by omega
  clear hsr
  have hmk := make_nat (s : Int) ((s : Int) + (l.length : Int) + 1) s (s + l.length + 1) rfl (by simp) (by omega) (by omega)
  gi_wp2_with (refine ⟨trivial, ?_⟩; gi_at_call 66; refine (callsIn_wide.2 (limbs_calls _ _ _ _)).mono ?_; rintro e w2 ⟨rfl, rfl⟩)
  clear hmk
  obtain ⟨w3, hw3⟩ : ∃ w3, allocs w [.cells #[.int .i64 (n : Int)] 3, .cells (warr (List.replicate (s + l.length + 1) 0)) 50, .cells #[.slice (some ⟨w.heap.size + 1, 0, none⟩) s (s + l.length + 1)] 54, .cells #[.int .u64 0] 92, .cells #[.slice A l.length c] 54] = w3 := ⟨_, rfl⟩
  have hget := allocs_get w [.cells #[.int .i64 (n : Int)] 3, .cells (warr (List.replicate (s + l.length + 1) 0)) 50, .cells #[.slice (some ⟨w.heap.size + 1, 0, none⟩) s (s + l.length + 1)] 54, .cells #[.int .u64 0] 92, .cells #[.slice A l.length c] 54]
  have hs3 := allocs_stp w [.cells #[.int .i64 (n : Int)] 3, .cells (warr (List.replicate (s + l.length + 1) 0)) 50, .cells #[.slice (some ⟨w.heap.size + 1, 0, none⟩) s (s + l.length + 1)] 54, .cells #[.int .u64 0] 92, .cells #[.slice A l.length c] 54] (Nat.le_refl w.heap.size)
  have hsz3 := allocs_size w [.cells #[.int .i64 (n : Int)] 3, .cells (warr (List.replicate (s + l.length + 1) 0)) 50, .cells #[.slice (some ⟨w.heap.size + 1, 0, none⟩) s (s + l.length + 1)] 54, .cells #[.int .u64 0] 92, .cells #[.slice A l.length c] 54]
  rw [hw3] at hget hs3 hsz3
  simp only [allocs] at hw3
  rw [hw3]
  clear hw3
  replace hsz3 : w.heap.size + 5 ≤ w3.heap.size := by rw [hsz3]; exact Nat.le_refl _
  have hB0 : Boxed w3 w.heap.size 3 (.int .i64 (n : Int)) := hget 0 (by simp)
  have hB1 : Arr w3 (w.heap.size + 1) (List.replicate (s + l.length + 1) 0) := arr_of (hget 1 (by simp))
  have hB2 : Boxed w3 (w.heap.size + 2) 54 (.slice (some ⟨w.heap.size + 1, 0, none⟩) s (s + l.length + 1)) := hget 2 (by simp)
  have hB3 : Boxed w3 (w.heap.size + 3) 92 (.int .u64 0) := hget 3 (by simp)
  have hB4 : Boxed w3 (w.heap.size + 4) 54 (.slice A l.length c) := hget 4 (by simp)
  clear hget
  refine wpIn_limbs_p (n₀ := w.heap.size) (l := l) rfl (by omega) (gf := 92) (lb := #[.pointer (some ⟨w.heap.size + 4, 0, none⟩)]) rfl trivial (enters_of Tryz.func92 (by kernel_rfl) rfl)
    (limbs1_in _ (w.heap.size + 4) A c l w.heap.size w3 hB4.cell (h1.below hs3.below rfl) (by omega) (rd_block h1)) (by omega) (Below.refl _ _) rfl
    (fun k W => ∃ (outs : List Nat) (cy : Nat), Boxed W w.heap.size 3 (.int .i64 (n : Int)) ∧ Arr W (w.heap.size + 1) ((List.replicate s 0 ++ outs) ++ List.replicate (s + l.length + 1 - (s + k)) 0) ∧ Boxed W (w.heap.size + 2) 54 (.slice (some ⟨w.heap.size + 1, 0, none⟩) (s + k) (s + l.length + 1)) ∧ Boxed W (w.heap.size + 3) 92 (.int .u64 (cy : Int)) ∧ Below w.heap.size w W ∧ cy < 2 ^ r ∧ outs.length = k ∧ Words outs ∧ Hid (val outs + BB ^ k * cy = val (l.take k) * 2 ^ r))
    ?own ?start ?round ?done
  case own =>
    rintro k X Y row ⟨outs, cy, a0, a1, a2, a3, hbl, rest⟩ hg hr
    exact ⟨outs, cy, boxed_ownF _ _ _ (fun _ => _) k X Y row a0 hg hr, arr_ownF _ _ (fun _ => _) k X Y row a1 hg hr, boxed_ownF _ _ _ (fun _ => _) k X Y row a2 hg hr, boxed_ownF _ _ _ (fun _ => _) k X Y row a3 hg hr, ownFrom_below (Nat.le_refl _) (by omega) k X Y row hbl hg hr, rest⟩
  case start => exact ⟨[], 0, hB0, by rw [List.append_nil, List.replicate_append_replicate, show s + (s + l.length + 1 - (s + 0)) = s + l.length + 1 by omega]; exact hB1, hB2, hB3, hs3.below, Nat.two_pow_pos r, rfl, words_nil, by simp [Hid, val]⟩
  case round =>
    intro k W hk
    obtain ⟨x, hx, hxb⟩ : ∃ x, Hid (l.getD k 0 = x) ∧ x < 4294967296 := ⟨_, rfl, words_getD h1.words k⟩
    rw [hx.out]
    gi_wp2
    refine ⟨trivial, ?_⟩
    clear W
    rintro W ⟨outs, cy, hbb, harr, hbo, hbc, hbl, hcy, hol, how, hval⟩
    have Hol := Lib.hid hol
    clear hol
    obtain ⟨u, g4⟩ : ∃ u : Nat, W.cell? ⟨w.heap.size + 1, s + k, none⟩ = some (.int .u32 (u : Int)) := ⟨_, arr_cell harr (s + k) (by have := Hol.out; simp; omega)⟩
    have f4 := arr_frozen harr (s + k)
    have ghbb := hbb.cell
    have fhbb := hbb.frozen
    have thbb := hbb.lt
    have tharr := arr_lt harr
    have ghbo := hbo.cell
    have fhbo := hbo.frozen
    have thbo := hbo.lt
    have ghbc := hbc.cell
    have fhbc := hbc.frozen
    have thbc := hbc.lt
    obtain ⟨p, p1, p2, p3⟩ : ∃ p : Nat, IntKind.u64.wrap ((x : Int) * 2 ^ r) = (p : Int) ∧ Hid (p = x * 2 ^ r) ∧ Hid (p < 9223372036854775808) := by
      refine ⟨x * 2 ^ r, ?_, rfl, shl_bound hxb hr⟩
      have hb := shl_bound hxb hr
      have e : (x : Int) * 2 ^ r = ((x * 2 ^ r : Nat) : Int) := by simp
      rw [e]
      exact wraps_u64 _ (by omega) (by omega)
    obtain ⟨t, t1, t2, t3⟩ : ∃ t : Nat, bits .or .u64 (cy : Int) (p : Int) = (t : Int) ∧ Hid (t = cy + p) ∧ t < 18446744073709551616 := by
      have hb := p3.out
      have hc : cy < 2147483648 := Nat.lt_of_lt_of_le hcy (Nat.pow_le_pow_right (n := 2) (by decide) (show r ≤ 31 by omega))
      exact ⟨cy + p, or_u64 cy p r hcy (by rw [p2.out, Nat.mul_mod_left]) (by omega) (by omega), rfl, by omega⟩
    gi_wp2
    have hwide : ∀ f, Fence.wide.fn f := fun _ => trivial
    refine wpIn_region_tail 7 (by kernel_rfl) (by kernel_rfl) (by kernel_rfl) ?_
    simp only [List.take_succ_cons, List.take_zero, List.drop_succ_cons, List.drop_zero]
    repeat (gi_big_quiet_step ((fail)))
    refine wpQuietIn_nil ?_
    intro m
    gi_wp2
    obtain ⟨z, hz⟩ : ∃ z : Nat, (t : Int) % 4294967296 = (z : Int) := ⟨t % 4294967296, by omega⟩
    obtain ⟨q, hq⟩ : ∃ q : Nat, (t : Int) / 4294967296 = (q : Int) := ⟨t / 4294967296, by omega⟩
    rw [hz, hq]
    simp only [Nat.add_assoc, Nat.reduceAdd]
    have hz' : z = t % BB := by show z = _ % 4294967296; omega
    have hq' : q = t / BB := by show q = _ / 4294967296; omega
    have ht : t = cy + x * 2 ^ r := by rw [t2.out, p2.out]
    refine limb_end (by (repeat (first | with_reducible exact Stp.refl _ _ | with_reducible refine Stp.set ?_ (by simp) _ | with_reducible refine Stp.alloc ?_ (by simp; omega) _ | with_reducible refine Stp.drewN ?_ _))) (fun hst => ⟨outs ++ [z], q, by (repeat (first | with_reducible exact hbb | with_reducible exact HasBox.of hbb | with_reducible refine boxed_other ?_ (by omega) _ | with_reducible refine boxed_set _ ?_ | with_reducible refine HasBox.set ?_ _ _ | with_reducible refine HasBox.alloc ?_ _ | with_reducible refine HasBox.drewN ?_ _ | with_reducible refine Boxed.alloc ?_ _ | with_reducible refine boxed_drewN ?_ _)), ?_, by (repeat (first | with_reducible exact hbo | with_reducible exact HasBox.of hbo | with_reducible refine boxed_other ?_ (by omega) _ | with_reducible refine boxed_set _ ?_ | with_reducible refine HasBox.set ?_ _ _ | with_reducible refine HasBox.alloc ?_ _ | with_reducible refine HasBox.drewN ?_ _ | with_reducible refine Boxed.alloc ?_ _ | with_reducible refine boxed_drewN ?_ _)), by (repeat (first | with_reducible exact hbc | with_reducible exact HasBox.of hbc | with_reducible refine boxed_other ?_ (by omega) _ | with_reducible refine boxed_set _ ?_ | with_reducible refine HasBox.set ?_ _ _ | with_reducible refine HasBox.alloc ?_ _ | with_reducible refine HasBox.drewN ?_ _ | with_reducible refine Boxed.alloc ?_ _ | with_reducible refine boxed_drewN ?_ _)), hbl.trans hst.below, by rw [hq', ht]; exact shl_over hxb hcy, by simp [Hol.out], ?_, ?_⟩)
    · rw [← List.append_assoc (List.replicate s 0) outs [z], show s + (l.length + 1) - (s + (k + 1)) = s + l.length + 1 - (s + k) - 1 by omega, ← set_snoc (List.replicate s 0 ++ outs) (s + l.length + 1 - (s + k)) z (s + k) (by simp [Hol.out]) (by omega)]
      (repeat (first | with_reducible exact harr | with_reducible refine arr_other ?_ (by omega) _ | with_reducible refine arr_set ?_ _ _ | with_reducible refine arr_alloc ?_ _ | with_reducible refine arr_drewN ?_ _))
    · exact words_append.2 ⟨how, fun u hu => by simp at hu; rw [hu, hz']; exact Nat.mod_lt _ (by decide)⟩
    · rw [hz', hq']; exact shift_step hx.out Hol.out ht hval.out
  case done =>
    rintro D W hD ⟨outs, cy, hbb, harr, hbo, hbc, hbl, hcy, hol, how, hval⟩ hK
    have Hol := Lib.hid hol
    clear hol
    have hc : cy < 2147483648 := Nat.lt_of_lt_of_le hcy (Nat.pow_le_pow_right (n := 2) (by decide) (show r ≤ 31 by omega))
    obtain ⟨u, g4⟩ : ∃ u : Nat, W.cell? ⟨w.heap.size + 1, s + l.length, none⟩ = some (.int .u32 (u : Int)) := ⟨_, arr_cell harr (s + l.length) (by have := Hol.out; simp; omega)⟩
    have f4 := arr_frozen harr (s + l.length)
    have ghbb := hbb.cell
    have fhbb := hbb.frozen
    have thbb := hbb.lt
    have tharr := arr_lt harr
    have ghbo := hbo.cell
    have fhbo := hbo.frozen
    have thbo := hbo.lt
    have ghbc := hbc.cell
    have fhbc := hbc.frozen
    have thbc := hbc.lt
    gi_wp2
    obtain ⟨W5, hW5⟩ : ∃ W5, (W.setCell ⟨w.heap.size + 1, s + l.length, none⟩ (.int .u32 (cy : Int))).alloc (.cells #[.int .u32 (cy : Int)] 50) = W5 := ⟨_, rfl⟩
    have hst5 : Stp w.heap.size W W5 := by rw [← hW5]; exact ((Stp.refl _ W).set (by simp) _).alloc (by simp [World.setCell]; omega) _
    have harr5 : Arr W5 (w.heap.size + 1) (List.replicate s 0 ++ (outs ++ [cy])) := by
      have := arr_alloc (arr_set harr (s + l.length) cy) (.cells #[.int .u32 (cy : Int)] 50)
      rw [set_snoc (List.replicate s 0 ++ outs) (s + l.length + 1 - (s + l.length)) cy (s + l.length) (by simp [Hol.out]) (by omega), show s + l.length + 1 - (s + l.length) - 1 = 0 by omega] at this
      rw [← hW5]; simpa using this
    rw [hW5]
    clear hW5
    have hK5 := hst5.keeps.same D _ hK rfl
    have hww : Words (List.replicate s 0 ++ (outs ++ [cy])) := words_append.2 ⟨words_replicate s, words_append.2 ⟨how, fun u hu => by simp at hu; rw [hu]; show cy < 4294967296; omega⟩⟩
    have hlen : (List.replicate s 0 ++ (outs ++ [cy])).length = s + l.length + 1 := by simp [Hol.out]; omega
    have hrd := arr_rd harr5 hww (by omega)
    have ht := fun n => trim_in n (some ⟨(w.heap.size + 1), 0, none⟩) (s + l.length + 1) (List.replicate s 0 ++ (outs ++ [cy])) W5 hrd (by omega)
    have hval' : trim (List.replicate s 0 ++ (outs ++ [cy])) = lim (val l * 2 ^ n) := by
      unfold trim
      rw [show val (List.replicate s 0 ++ (outs ++ [cy])) = val l * 2 ^ n from (val_shift n s r _ _ Hsr.out (by have h := hval.out; rw [List.take_length] at h; rw [val_snoc, Hol.out, h]))]
    rw [hval', hlen] at ht
    have hrd2 := hrd.trim
    have htl := trim_length_le hww
    rw [hval'] at hrd2 htl
    have hDl := (Array.getElem?_eq_some_iff.1 hK5).1
    clear hval hval'
    refine ⟨trivial, ?_⟩
    refine (ht _).mono ?_
    rintro e w' ⟨rfl, rfl⟩
    gi_wp2
    refine ⟨by simp, .inl ⟨_, _, rfl, run_takeDeferred hK5, ?_⟩⟩
    exact ⟨_, results_tmp rfl _ _ _, _, _, rfl, by omega, hrd2.putObj _ hK5 rfl, hbl.trans (hst5.below.trans (belowK_b (w := w) (Nat.le_refl _) W5 D _ _ (by omega) hK5 rfl rfl))⟩
end Nm
end Go.Proofs.YtlhmbbpkhahbeaaGreatDoor
namespace Go.Proofs.YtlhmbbpkhahbeaaGreatDoor
namespace Nm
open Go.RowKit Go.Shelf Go.BigFrame
attribute [local go_sem] Oper.semAt_some
theorem low_word {x y P R : Nat} (hPR : P * R = BB) (hP : 0 < P) (hx : x < BB) : ((y * BB + x) / P) % BB = (y % P) * R + x / P ∧ (y % P) * R + x / P < BB := by
  have hR : 0 < R := Nat.pos_of_ne_zero (by rintro rfl; simp at hPR)
  have h1 : (y * BB + x) / P = y * R + x / P := by
    rw [← hPR, Nat.mul_left_comm, Nat.add_comm, Nat.add_mul_div_left _ _ hP, Nat.add_comm]
  have h2 : x / P < R := by rw [Nat.div_lt_iff_lt_mul hP, Nat.mul_comm]; rw [hPR]; exact hx
  have h3 : (y % P) * R + R ≤ P * R := by
    rw [← Nat.succ_mul]; exact Nat.mul_le_mul (Nat.mod_lt _ hP) (Nat.le_refl _)
  have h4 : (y % P) * R + x / P < BB := by rw [← hPR]; omega
  refine ⟨?_, h4⟩
  rw [h1]
  have h5 : y * R = BB * (y / P) + (y % P) * R := by
    rw [← hPR, Nat.mul_right_comm, ← Nat.add_mul, Nat.div_add_mod]
  rw [h5, Nat.add_assoc, Nat.mul_add_mod, Nat.mod_eq_of_lt h4]
theorem low_step {l outs : List Nat} {k n x y z : Nat} (hn : n < 32) (hx : l.getD k 0 = x) (_hy : l.getD (k + 1) 0 = y) (hxb : x < BB) (hl : outs.length = k) (hz : z = ((y * BB + x) / 2 ^ n) % BB)
    (h : val outs * 2 ^ n + l.getD 0 0 % 2 ^ n = val (l.take k) + BB ^ k * (x % 2 ^ n)) :
    val (outs ++ [z]) * 2 ^ n + l.getD 0 0 % 2 ^ n = val (l.take (k + 1)) + BB ^ (k + 1) * (y % 2 ^ n) := by
  have hPR : 2 ^ n * 2 ^ (32 - n) = BB := by rw [← Nat.pow_add, show n + (32 - n) = 32 by omega]
  have hw := (low_word (y := y) hPR (Nat.two_pow_pos n) hxb).1
  rw [← hz] at hw
  have e : z * 2 ^ n + x % 2 ^ n = x + BB * (y % 2 ^ n) := by
    rw [hw, Nat.add_mul, Nat.mul_assoc, Nat.mul_comm (2 ^ (32 - n)), hPR, Nat.mul_comm (x / 2 ^ n), Nat.add_assoc, Nat.div_add_mod, Nat.add_comm, Nat.mul_comm]
  rw [val_snoc, val_take_succ l k x hx, hl, Nat.pow_succ, Nat.mul_assoc, Nat.add_mul, Nat.mul_assoc]
  have e2 : BB ^ k * (z * 2 ^ n) + BB ^ k * (x % 2 ^ n) = BB ^ k * x + BB ^ k * (BB * (y % 2 ^ n)) := by rw [← Nat.mul_add, e, Nat.mul_add]
  omega
set_option maxRecDepth 100000 in
set_option maxHeartbeats 2000000 in
theorem low_calls (A : Option Addr) (c n : Nat) (l : List Nat) (w : World) (h1 : Rd w A l) (hc1 : l.length ≤ c) (hn : n < 32) (hsm : l.length ≤ 1048576) :
    Calls Tryz.prog 83 #[.slice A l.length c, .int .i64 (n : Int)] w (RetNat (val l / 2 ^ n) w) := by
  refine (callsIn_wide (n := 5)).1 ?_
  refine callsIn_of_wp_marks Tryz.func83 rfl trivial ?_ rfl
  simp only [Tryz.ntmps83, List.size_toArray, List.length_cons, List.length_nil, Nat.reduceAdd, Nat.reduceSub, Array.replicate_succ, Array.replicate_zero, List.push_toArray, List.append_toArray, List.nil_append, List.cons_append]
  have hs1 := h1.small
  have hmk := make_nat (l.length : Int) (l.length : Int) l.length l.length rfl rfl (by omega) (by omega)
  gi_wp2_with (refine ⟨trivial, ?_⟩; gi_at_call 66; refine (callsIn_wide.2 (limbs_calls _ _ _ _)).mono ?_; rintro e w2 ⟨rfl, rfl⟩)
  clear hmk
  obtain ⟨w3, hw3⟩ : ∃ w3, allocs w [.cells #[.slice A l.length c] 54, .cells #[.int .i64 (n : Int)] 3, .cells (warr (List.replicate l.length 0)) 50, .cells #[.slice (some ⟨w.heap.size + 2, 0, none⟩) l.length l.length] 54, .cells #[.slice A l.length c] 54] = w3 := ⟨_, rfl⟩
  have hget := allocs_get w [.cells #[.slice A l.length c] 54, .cells #[.int .i64 (n : Int)] 3, .cells (warr (List.replicate l.length 0)) 50, .cells #[.slice (some ⟨w.heap.size + 2, 0, none⟩) l.length l.length] 54, .cells #[.slice A l.length c] 54]
  have hs3 := allocs_stp w [.cells #[.slice A l.length c] 54, .cells #[.int .i64 (n : Int)] 3, .cells (warr (List.replicate l.length 0)) 50, .cells #[.slice (some ⟨w.heap.size + 2, 0, none⟩) l.length l.length] 54, .cells #[.slice A l.length c] 54] (Nat.le_refl w.heap.size)
  have hsz3 := allocs_size w [.cells #[.slice A l.length c] 54, .cells #[.int .i64 (n : Int)] 3, .cells (warr (List.replicate l.length 0)) 50, .cells #[.slice (some ⟨w.heap.size + 2, 0, none⟩) l.length l.length] 54, .cells #[.slice A l.length c] 54]
  rw [hw3] at hget hs3 hsz3
  simp only [allocs] at hw3
  rw [hw3]
  clear hw3
  replace hsz3 : w.heap.size + 5 ≤ w3.heap.size := by rw [hsz3]; exact Nat.le_refl _
  have hB0 : Boxed w3 w.heap.size 54 (.slice A l.length c) := hget 0 (by simp)
  have hB1 : Boxed w3 (w.heap.size + 1) 3 (.int .i64 (n : Int)) := hget 1 (by simp)
  have hB2 : Arr w3 (w.heap.size + 2) (List.replicate l.length 0) := arr_of (hget 2 (by simp))
  have hB3 : Boxed w3 (w.heap.size + 3) 54 (.slice (some ⟨w.heap.size + 2, 0, none⟩) l.length l.length) := hget 3 (by simp)
  have hB4 : Boxed w3 (w.heap.size + 4) 54 (.slice A l.length c) := hget 4 (by simp)
  clear hget
  refine wpIn_limbs_p (n₀ := w.heap.size) (l := l) rfl (by omega) (gf := 92) (lb := #[.pointer (some ⟨w.heap.size + 4, 0, none⟩)]) rfl trivial (enters_of Tryz.func92 (by kernel_rfl) rfl)
    (limbs1_in _ (w.heap.size + 4) A c l w.heap.size w3 hB4.cell (h1.below hs3.below rfl) (by omega) (rd_block h1)) (by omega) (Below.refl _ _) rfl
    (fun k W => ∃ (outs : List Nat), Boxed W w.heap.size 54 (.slice A l.length c) ∧ Boxed W (w.heap.size + 1) 3 (.int .i64 (n : Int)) ∧ Arr W (w.heap.size + 2) (outs ++ List.replicate (l.length - k) 0) ∧ Boxed W (w.heap.size + 3) 54 (.slice (some ⟨w.heap.size + 2, 0, none⟩) l.length l.length) ∧ Below w.heap.size w W ∧ outs.length = k ∧ Words outs ∧ Hid (val outs * 2 ^ n + l.getD 0 0 % 2 ^ n = val (l.take k) + BB ^ k * (l.getD k 0 % 2 ^ n)))
    ?own ?start ?round ?done
  case own =>
    rintro k X Y row ⟨outs, a0, a1, a2, a3, hbl, rest⟩ hg hr
    exact ⟨outs, boxed_ownF _ _ _ (fun _ => _) k X Y row a0 hg hr, boxed_ownF _ _ _ (fun _ => _) k X Y row a1 hg hr, arr_ownF _ _ (fun _ => _) k X Y row a2 hg hr, boxed_ownF _ _ _ (fun _ => _) k X Y row a3 hg hr, ownFrom_below (Nat.le_refl _) (by omega) k X Y row hbl hg hr, rest⟩
  case start => exact ⟨[], hB0, hB1, hB2, hB3, hs3.below, rfl, words_nil, by simp [Hid, val]⟩
  case round =>
    intro k W hk
    obtain ⟨x, hx, hxb⟩ : ∃ x, Hid (l.getD k 0 = x) ∧ x < 4294967296 := ⟨_, rfl, words_getD h1.words k⟩
    obtain ⟨y, hy, hyb⟩ : ∃ y, Hid (l.getD (k + 1) 0 = y) ∧ y < 4294967296 := ⟨_, rfl, words_getD h1.words (k + 1)⟩
    rw [hx.out]
    have hat : ∀ n w', Rd w' A l → CallsIn Fence.wide n Tryz.prog 84 #[.slice A l.length c, .int .i64 ((k : Int) + 1)] w' fun e w'' => e = .returned (.int .u32 (y : Int)) ∧ w'' = w' := by
      intro n w' h; have := at_in n A c l (k + 1) w' h hc1; rwa [hy.out] at this
    gi_wp2
    refine ⟨trivial, ?_⟩
    clear W
    rintro W ⟨outs, hba, hbn, harr, hbo, hbl, hol, how, hval⟩
    have Hol := Lib.hid hol
    clear hol
    obtain ⟨u, g4⟩ : ∃ u : Nat, W.cell? ⟨w.heap.size + 2, k, none⟩ = some (.int .u32 (u : Int)) := ⟨_, arr_cell harr k (by have := Hol.out; simp; omega)⟩
    have f4 := arr_frozen harr k
    have ghba := hba.cell
    have fhba := hba.frozen
    have thba := hba.lt
    have ghbn := hbn.cell
    have fhbn := hbn.frozen
    have thbn := hbn.lt
    have tharr := arr_lt harr
    have ghbo := hbo.cell
    have fhbo := hbo.frozen
    have thbo := hbo.lt
    obtain ⟨t, t1, t2⟩ : ∃ t : Nat, bits .or .u64 ((y : Int) * 4294967296) (x : Int) = (t : Int) ∧ Hid (t = y * BB + x) := by
      have e : (y : Int) * 4294967296 = ((y * 4294967296 : Nat) : Int) := by simp
      refine ⟨y * BB + x, ?_, rfl⟩
      rw [e]
      exact or_u64' x (y * 4294967296) 32 hxb (by show y * 4294967296 % 4294967296 = 0; omega) (by omega) (by omega)
    obtain ⟨z, z1, z2⟩ : ∃ z : Nat, (t : Int) / 2 ^ n % 4294967296 = (z : Int) ∧ Hid (z = (t / 2 ^ n) % BB) := ⟨(t / 2 ^ n) % BB, by simp, rfl⟩
    gi_wp2
    have hwide : ∀ f, Fence.wide.fn f := fun _ => trivial
    refine wpIn_region_tail 15 (by kernel_rfl) (by kernel_rfl) (by kernel_rfl) ?_
    simp only [List.take_succ_cons, List.take_zero, List.drop_succ_cons, List.drop_zero]
    repeat (gi_big_quiet_step ((gi_at_call 84; exact CallsIn.quiet_of_same (CallsIn.inRound _ (hat _ _ (h1.below (below_drewN hbl _) rfl))))))
    refine wpQuietIn_nil ?_
    intro m
    gi_wp2
    simp only [Nat.add_assoc, Nat.reduceAdd]
    have hz : z = ((y * BB + x) / 2 ^ n) % BB := by rw [z2.out, t2.out]
    refine limb_end (by (repeat (first | with_reducible exact Stp.refl _ _ | with_reducible refine Stp.set ?_ (by simp) _ | with_reducible refine Stp.alloc ?_ (by simp; omega) _ | with_reducible refine Stp.drewN ?_ _))) (fun hst => ⟨outs ++ [z], by (repeat (first | with_reducible exact hba | with_reducible exact HasBox.of hba | with_reducible refine boxed_other ?_ (by omega) _ | with_reducible refine boxed_set _ ?_ | with_reducible refine HasBox.set ?_ _ _ | with_reducible refine HasBox.alloc ?_ _ | with_reducible refine HasBox.drewN ?_ _ | with_reducible refine Boxed.alloc ?_ _ | with_reducible refine boxed_drewN ?_ _)), by (repeat (first | with_reducible exact hbn | with_reducible exact HasBox.of hbn | with_reducible refine boxed_other ?_ (by omega) _ | with_reducible refine boxed_set _ ?_ | with_reducible refine HasBox.set ?_ _ _ | with_reducible refine HasBox.alloc ?_ _ | with_reducible refine HasBox.drewN ?_ _ | with_reducible refine Boxed.alloc ?_ _ | with_reducible refine boxed_drewN ?_ _)), ?_, by (repeat (first | with_reducible exact hbo | with_reducible exact HasBox.of hbo | with_reducible refine boxed_other ?_ (by omega) _ | with_reducible refine boxed_set _ ?_ | with_reducible refine HasBox.set ?_ _ _ | with_reducible refine HasBox.alloc ?_ _ | with_reducible refine HasBox.drewN ?_ _ | with_reducible refine Boxed.alloc ?_ _ | with_reducible refine boxed_drewN ?_ _)), hbl.trans hst.below, by simp [Hol.out], ?_, ?_⟩)
    · rw [show l.length - (k + 1) = l.length - k - 1 by omega, ← set_snoc outs (l.length - k) z k Hol.out (by omega)]
      (repeat (first | with_reducible exact harr | with_reducible refine arr_other ?_ (by omega) _ | with_reducible refine arr_set ?_ _ _ | with_reducible refine arr_alloc ?_ _ | with_reducible refine arr_drewN ?_ _))
    · exact words_append.2 ⟨how, fun u hu => by simp at hu; rw [hu, hz]; exact Nat.mod_lt _ (by decide)⟩
    · have h := hval.out
      show val (outs ++ [z]) * 2 ^ n + l.getD 0 0 % 2 ^ n = val (l.take (k + 1)) + BB ^ (k + 1) * (l.getD (k + 1) 0 % 2 ^ n)
      rw [hy.out]
      exact low_step hn hx.out hy.out hxb Hol.out hz h
  case done =>
    rintro D W hD ⟨outs, hba, hbn, harr, hbo, hbl, hol, how, hval⟩ hK
    have Hol := Lib.hid hol
    clear hol
    have ghba := hba.cell
    have fhba := hba.frozen
    have thba := hba.lt
    have ghbn := hbn.cell
    have fhbn := hbn.frozen
    have thbn := hbn.lt
    have tharr := arr_lt harr
    have ghbo := hbo.cell
    have fhbo := hbo.frozen
    have thbo := hbo.lt
    gi_wp2
    obtain ⟨W5, hW5⟩ : ∃ W5, W = W5 := ⟨_, rfl⟩
    have hst5 : Stp w.heap.size W W5 := by rw [← hW5]; exact Stp.refl _ _
    have harr5 : Arr W5 (w.heap.size + 2) (outs) := by
      rw [← hW5]; simpa using harr
    rw [hW5]
    clear hW5
    have hK5 := hst5.keeps.same D _ hK rfl
    have hww : Words (outs) := how
    have hlen : (outs).length = l.length := Hol.out
    have hrd := arr_rd harr5 hww (by omega)
    have ht := fun n => trim_in n (some ⟨(w.heap.size + 2), 0, none⟩) (l.length) (outs) W5 hrd (by omega)
    have hval' : trim (outs) = lim (val l / 2 ^ n) := by
      unfold trim
      rw [show val (outs) = val l / 2 ^ n from (by have h := hval.out; rw [List.take_length, show l.getD l.length 0 = 0 by simp, Nat.zero_mod, Nat.mul_zero, Nat.add_zero] at h; rw [← h, Nat.add_comm, Nat.add_mul_div_right _ _ (Nat.two_pow_pos n), Nat.div_eq_of_lt (Nat.mod_lt _ (Nat.two_pow_pos n)), Nat.zero_add])]
    rw [hval', hlen] at ht
    have hrd2 := hrd.trim
    have htl := trim_length_le hww
    rw [hval'] at hrd2 htl
    have hDl := (Array.getElem?_eq_some_iff.1 hK5).1
    clear hval hval'
    refine ⟨trivial, ?_⟩
    refine (ht _).mono ?_
    rintro e w' ⟨rfl, rfl⟩
    gi_wp2
    refine ⟨by simp, .inl ⟨_, _, rfl, run_takeDeferred hK5, ?_⟩⟩
    exact ⟨_, results_tmp rfl _ _ _, _, _, rfl, by omega, hrd2.putObj _ hK5 rfl, hbl.trans (hst5.below.trans (belowK_b (w := w) (Nat.le_refl _) W5 D _ _ (by omega) hK5 rfl rfl))⟩
end Nm
end Go.Proofs.YtlhmbbpkhahbeaaGreatDoor
namespace Go.Proofs.YtlhmbbpkhahbeaaGreatDoor
namespace Nm
open Go.RowKit Go.Shelf Go.BigFrame
theorem small_step {l qs : List Nat} {b k x rest z r : Nat} (hk : k < l.length) (hx : l.getD k 0 = x) (h : val (l.drop (k + 1)) = b * val qs + rest)
    (hz : z = (rest * BB + x) / b) (hr : r = (rest * BB + x) % b) : val (l.drop k) = b * val (z :: qs) + r := by
  have e1 : l.drop k = x :: l.drop (k + 1) := by
    rw [List.getD_eq_getElem?_getD, List.getElem?_eq_getElem hk] at hx
    rw [List.drop_eq_getElem_cons hk]; rw [show l[k] = x by simpa using hx]
  rw [e1]
  simp only [val]
  rw [h]
  have h3 : b * z + r = rest * BB + x := by rw [hz, hr]; exact Nat.div_add_mod _ _
  have h4 : BB * (b * val qs) = b * (BB * val qs) := Nat.mul_left_comm _ _ _
  rw [Nat.mul_add, Nat.mul_add, h4]
  have h5 : BB * rest = rest * BB := Nat.mul_comm _ _
  omega
theorem small_bound {rest x b : Nat} (hb : rest < b) (hx : x < BB) : (rest * BB + x) / b < BB := by
  rw [Nat.div_lt_iff_lt_mul (by omega)]
  have : rest * BB + BB ≤ b * BB := by rw [← Nat.succ_mul]; exact Nat.mul_le_mul hb (Nat.le_refl _)
  rw [Nat.mul_comm BB b]; omega
theorem set_front (qs : List Nat) (k z : Nat) : (List.replicate (k + 1) 0 ++ qs).set k z = List.replicate k 0 ++ (z :: qs) := by
  rw [List.replicate_succ', List.append_assoc, List.set_append]
  simp
def Ret2 (n : Nat) (m : Nat) (w : World) (e : Ending) (w' : World) : Prop :=
  ∃ A c, e = .returned (.tuple #[.slice A (lim n).length c, .int .u32 (m : Int)]) ∧ (lim n).length ≤ c ∧ Rd w' A (lim n) ∧ Below w.heap.size w w'
set_option maxRecDepth 100000 in
set_option maxHeartbeats 2000000 in
theorem small_calls (A : Option Addr) (c b : Nat) (l : List Nat) (w : World) (h1 : Rd w A l) (_hc1 : l.length ≤ c) (hb0 : 0 < b) (hb : b < 4294967296) (hsm : l.length ≤ 1048576) :
    Calls Tryz.prog 27 #[.slice A l.length c, .int .u32 (b : Int)] w (Ret2 (val l / b) (val l % b) w) := by
  have hs1 := h1.small
  have hmk := make_nat (l.length : Int) (l.length : Int) l.length l.length rfl rfl (by omega) (by omega)
  go_enter Tryz.func27, Tryz.ntmps27
  go_wp2
  clear hmk
  go_loopw [7, 8] (fun r i W => ∃ (k rest : Nat) (qs : List Nat), k ≤ l.length ∧ rest < b ∧ r = .int .u64 (rest : Int) ∧ i = .int .i64 ((k : Int) - 1) ∧ Hid (qs.length + k = l.length) ∧ Words qs ∧ Arr W w.heap.size (List.replicate k 0 ++ qs) ∧ Below w.heap.size w W ∧ Hid (val (l.drop k) = b * val qs + rest)) (fun _ i _ => (intOf i + 1).toNat)
  case atStart => exact ⟨l.length, 0, [], Nat.le_refl _, hb0, rfl, rfl, Nat.zero_add _, words_nil, by rw [List.append_nil]; exact arr_new _ _, (Below.refl _ _).alloc (Nat.le_refl _) _, by simp [Hid, val]⟩
  case round =>
    obtain ⟨k, rest, qs, hk, hrb, rfl, rfl, hql, hqw, harr, hbl, hval⟩ := hrel
    rename_i wr
    by_cases h0 : 0 < k
    · obtain ⟨k, rfl⟩ : ∃ j, k = j + 1 := ⟨k - 1, by omega⟩
      obtain ⟨bb, o, x, rfl, hcx, hx, hxb⟩ := h1.get k (by omega)
      have hbb := World.block_lt_of_cell? w _ hcx
      replace hcx := (hbl.cell (p := ⟨bb, o + k, none⟩) hbb).trans hcx
      obtain ⟨u, g4⟩ : ∃ u : Nat, wr.cell? ⟨w.heap.size, k, none⟩ = some (.int .u32 (u : Int)) := ⟨_, arr_cell harr k (by simp; omega)⟩
      have f4 := arr_frozen harr k
      rw [show ((k + 1 : Nat) : Int) - 1 = (k : Int) by omega]
      clear h0
      obtain ⟨t, t1, t2, t3⟩ : ∃ t : Nat, bits .or .u64 ((rest : Int) * 4294967296) (x : Int) = (t : Int) ∧ Hid (t = rest * BB + x) ∧ t < 18446744073709551616 := by
        have e : (rest : Int) * 4294967296 = ((rest * 4294967296 : Nat) : Int) := by simp
        refine ⟨rest * BB + x, ?_, rfl, by show rest * 4294967296 + x < 18446744073709551616; omega⟩
        rw [e]
        exact or_u64' x (rest * 4294967296) 32 hxb (by show rest * 4294967296 % 4294967296 = 0; omega) (by omega) (by omega)
      obtain ⟨z, z1, z2, z3⟩ : ∃ z : Nat, (t : Int) / (b : Int) = (z : Int) ∧ Hid (z = (rest * BB + x) / b) ∧ z < 4294967296 := ⟨t / b, by simp, by rw [← t2.out]; rfl, by rw [t2.out]; exact small_bound hrb hxb⟩
      obtain ⟨r, r1, r2, r3⟩ : ∃ r : Nat, (t : Int) % (b : Int) = (r : Int) ∧ Hid (r = (rest * BB + x) % b) ∧ r < b := ⟨t % b, by simp, by rw [← t2.out]; rfl, Nat.mod_lt _ hb0⟩
      go_wp2
      rw [r1]
      refine ⟨⟨k, r, z :: qs, by omega, r3, rfl, rfl, by have := hql.out; show (z :: qs).length + k = l.length; simp; omega, words_cons.2 ⟨z3, hqw⟩, ?_, hbl.setCell (Nat.le_refl _) _, small_step (by omega) hx.out hval.out z2.out r2.out⟩, by simp [intOf]⟩
      rw [← set_front]
      exact arr_set harr k z
    · obtain rfl : k = 0 := by omega
      have hlen : qs.length = l.length := by have := hql.out; omega
      have hrd := arr_rd (by simpa using harr : Arr wr w.heap.size qs) hqw (by omega)
      have hv : val l = b * val qs + rest := by have := hval.out; rwa [List.drop_zero] at this
      have hq : val qs = val l / b := by rw [hv, Nat.add_comm, Nat.add_mul_div_left _ _ hb0, Nat.div_eq_of_lt hrb, Nat.zero_add]
      have hr : rest = val l % b := by rw [hv, Nat.mul_add_mod, Nat.mod_eq_of_lt hrb]
      have ht := trim_calls (some ⟨w.heap.size, 0, none⟩) l.length qs wr hrd (by omega)
      have hval' : trim qs = lim (val l / b) := by unfold trim; rw [hq]
      have hrd2 := hrd.trim
      have htl := trim_length_le hqw
      rw [hval'] at hrd2 htl ht
      rw [hlen] at ht htl
      clear hval hv hq hval' hlen harr
      have Hr := Lib.hid hr
      clear hr
      go_wp2_with (go_at_call 63; refine ht.mono ?_; rintro e w' ⟨rfl, rfl⟩)
      go_ret2
      refine ⟨_, _, ?_, htl, hrd2, hbl⟩
      rw [← Hr.out]
      rfl
theorem Rd.head {w : World} {A : Option Addr} {l : List Nat} (h : Rd w A l) (hl : 0 < l.length) : ∃ b o, A = some ⟨b, o, none⟩ := by
  obtain ⟨b, o, e, _⟩ := h.cell 0 hl
  exact ⟨b, o, e⟩
/-- how many binary digits a number has -/
def blen (n : Nat) : Nat := if n = 0 then 0 else n.log2 + 1
theorem blen_zero : blen 0 = 0 := rfl
theorem blen_of {n k : Nat} (h1 : n < 2 ^ k) (h2 : 2 ^ k ≤ 2 * n) : blen n = k := by
  have hn : n ≠ 0 := by rintro rfl; have := Nat.two_pow_pos k; omega
  unfold blen
  rw [if_neg hn]
  cases k with
  | zero => simp at h1; omega
  | succ k =>
    rw [(Nat.log2_eq_iff hn).2 ⟨by rw [Nat.pow_succ] at h2; omega, h1⟩]
theorem blen_lt (n : Nat) : n < 2 ^ blen n := by
  unfold blen
  split
  · rename_i h; rw [h]; decide
  · exact Nat.lt_log2_self
theorem blen_le {n : Nat} (h : n ≠ 0) : 2 ^ blen n ≤ 2 * n := by
  unfold blen
  rw [if_neg h, Nat.pow_succ, Nat.mul_comm]
  exact Nat.mul_le_mul (Nat.le_refl _) (Nat.log2_self_le h)
theorem blen_half {n : Nat} (h : n ≠ 0) : blen n = 1 + blen (n / 2) := by
  by_cases h2 : n / 2 = 0
  · have : n = 1 := by omega
    subst this; decide
  · refine blen_of ?_ ?_
    · have := blen_lt (n / 2)
      rw [Nat.add_comm, Nat.pow_succ]; omega
    · have := blen_le h2
      rw [Nat.add_comm, Nat.pow_succ]; omega
theorem bitLen_eq : ∀ (n x : Nat), x < 2 ^ n → n ≤ 64 → Lib.bitLen x = blen x
  | 0, x, h, _ => by
    have : x = 0 := by simpa using h
    subst this; decide
  | n + 1, x, h, hn => by
    by_cases hx : x = 0
    · subst hx; decide
    · rw [Lib.bitLen_half x hx (Nat.lt_of_lt_of_le h (Nat.pow_le_pow_right (by decide) hn)), blen_half hx, bitLen_eq n (x / 2) (by rw [Nat.pow_succ] at h; omega) (by omega)]
theorem blen_word {x : Nat} (h : x < 4294967296) : blen x ≤ 32 := by
  by_cases hx : x = 0
  · subst hx; decide
  · have h1 := blen_le hx
    rcases Nat.lt_or_ge 32 (blen x) with hc | hc
    · have := Nat.pow_le_pow_right (n := 2) (by decide) (show 33 ≤ blen x by omega)
      have e : 2 ^ 33 = 8589934592 := by decide
      omega
    · exact hc
theorem pow_BB (k : Nat) : BB ^ k = 2 ^ (32 * k) := by rw [Nat.pow_mul]
/-- the binary digits of a magnitude -/
theorem blen_val {l : List Nat} (h : Canon l) (hl : 0 < l.length) : blen (val l) = 32 * (l.length - 1) + blen (l.getD (l.length - 1) 0) := by
  have hne : l ≠ [] := by rintro rfl; simp at hl
  have e := List.dropLast_concat_getLast hne
  have ht : l.getD (l.length - 1) 0 = l.getLast hne := by rw [List.getLast_eq_getElem, List.getD_eq_getElem?_getD, List.getElem?_eq_getElem (by omega)]; rfl
  have hx := h.2 hne
  rw [ht]
  have hw : Words l.dropLast := by rw [List.dropLast_eq_take]; exact words_take h.1 _
  have hv : val l = val l.dropLast + BB ^ (l.length - 1) * l.getLast hne := by
    conv => lhs; rw [← e]
    rw [val_snoc, List.length_dropLast]
  have h1 := val_lt hw
  rw [List.length_dropLast] at h1
  generalize l.getLast hne = x at *
  generalize val l.dropLast = v at *
  rw [pow_BB] at hv h1
  generalize 32 * (l.length - 1) = m at *
  have h2 := blen_lt x
  have h3 := blen_le hx
  refine blen_of ?_ ?_
  · rw [hv, Nat.pow_add]
    have : 2 ^ m * x + 2 ^ m ≤ 2 ^ m * 2 ^ blen x := by rw [← Nat.mul_succ]; exact Nat.mul_le_mul (Nat.le_refl _) h2
    omega
  · rw [hv, Nat.pow_add]
    have : 2 ^ m * 2 ^ blen x ≤ 2 ^ m * (2 * x) := Nat.mul_le_mul (Nat.le_refl _) h3
    rw [Nat.mul_left_comm] at this
    omega
theorem len32_calls (x : Nat) (w : World) (h : x < 4294967296) : Calls Tryz.prog 100 #[.int .u32 (x : Int)] w fun e w' => e = .returned (.int .i64 (blen x : Int)) ∧ w' = w := by
  have := Tryz.bits_Len32 (x : Int) w (by omega) (by omega)
  rwa [Int.toNat_natCast, bitLen_eq 32 x h (by decide)] at this
theorem lead32_calls (x : Nat) (w : World) (h : x < 4294967296) : Calls Tryz.prog 80 #[.int .u32 (x : Int)] w fun e w' => e = .returned (.int .i64 (32 - (blen x : Int))) ∧ w' = w := by
  have := Tryz.bits_LeadingZeros32 (x : Int) w (by omega) (by omega)
  rwa [Int.toNat_natCast, bitLen_eq 32 x h (by decide)] at this
set_option maxRecDepth 100000 in
set_option maxHeartbeats 2000000 in
/-- '(nat).bits' -/
theorem bits_calls (A : Option Addr) (c : Nat) (l : List Nat) (w : World) (h1 : Rd w A l) (hc1 : l.length ≤ c) (hk : Canon l) (hsm : l.length ≤ 1048576) :
    Calls Tryz.prog 90 #[.slice A l.length c] w fun e w' => e = .returned (.int .i64 (blen (val l) : Int)) ∧ ∃ n, w' = w.drewN n := by
  by_cases h0 : l.length = 0
  · have h0' : ((l.length : Int) == 0) = true := by rw [beq_iff_eq]; omega
    obtain rfl : l = [] := List.length_eq_zero_iff.1 h0
    go_enter Tryz.func90, Tryz.ntmps90
    go_wp2
    go_ret
    exact ⟨rfl, 0, rfl⟩
  · have h0' : ((l.length : Int) == 0) = false := by rw [beq_eq_false_iff_ne]; omega
    obtain ⟨b, o, x, rfl, hcx, hx, hxb⟩ := h1.get (l.length - 1) (by omega)
    have hp : 0 < l.length := by omega
    rw [blen_val hk hp, hx.out]
    clear h0
    have hb := blen_word hxb
    generalize hB : blen x = y at *
    have HB := Lib.hid hB
    clear hB
    have hcall : ∀ W, Calls Tryz.prog 100 #[.int .u32 (x : Int)] W fun e w' => e = .returned (.int .i64 (y : Int)) ∧ w' = W := fun W => by have := len32_calls x W hxb; rwa [HB.out] at this
    refine (callsIn_wide (n := 5)).1 ?_
    refine callsIn_of_wp Tryz.func90 rfl trivial ?_ rfl
    simp only [Tryz.ntmps90, List.size_toArray, List.length_cons, List.length_nil, Nat.reduceAdd, Nat.reduceSub, Array.replicate_succ, Array.replicate_zero, List.push_toArray, List.append_toArray, List.nil_append, List.cons_append]
    gi_wp2_with (refine ⟨trivial, ?_⟩; gi_at_call 100; refine (callsIn_wide.2 (hcall _)).mono ?_; rintro e w' ⟨rfl, rfl⟩)
    go_ret
    exact ⟨ret_int (by omega), 0, rfl⟩
/-- a row of words that a call owns reads -/
theorem own_rd {w : World} {base n : Nat} {v : Value} {l : List Nat} (h : w.ownsRow base 50 1 v n (wvals l)) (hw : Words l) (hs : n ≤ 35184372088832) :
    ∃ A c, v = .slice A n c ∧ n = l.length ∧ n ≤ c ∧ Rd w A l ∧ (∀ b o, A = some ⟨b, o, none⟩ → base ≤ b) := by
  have hl : l.length = n := by simpa using h.1
  rcases h.2 with ⟨rfl, rfl⟩ | ⟨g, cap, cur, rfl, hb, hg, hk, hm, hcs, ht⟩
  · obtain rfl : l = [] := List.length_eq_zero_iff.1 hl
    exact ⟨none, 0, rfl, rfl, Nat.le_refl _, Rd.nil _ _, fun b o e => by cases e⟩
  · refine ⟨_, _, rfl, hl.symm, hk, ⟨fun i hi => ⟨g, 0, rfl, ?_⟩, hw, by omega⟩, fun b o e => by cases e; exact hb⟩
    have h1 : (cur.toList.take n)[i]? = some (.int .u32 ((l.getD i 0 : Nat) : Int)) := by
      rw [show n = n * 1 by omega, ht]; simp [hi, List.getD_eq_getElem?_getD]
    rw [List.getElem?_take_of_lt (by omega)] at h1
    simp only [World.cell?, hg, Option.isSome_none, Bool.false_eq_true, if_false, Nat.zero_add]
    simpa using h1
theorem own_arr {w : World} {base n : Nat} {v : Value} {l : List Nat} (h : w.ownsRow base 50 1 v n (wvals l)) (hp : 0 < l.length) :
    ∃ g c, v = .slice (some ⟨g, 0, none⟩) n c ∧ n = l.length ∧ n ≤ c ∧ c ≤ maxLen ∧ Arr w g l ∧ base ≤ g := by
  have hl : l.length = n := by simpa using h.1
  rcases h.2 with ⟨rfl, rfl⟩ | ⟨g, cap, cur, rfl, hb, hg, hk, hm, hcs, ht⟩
  · omega
  · exact ⟨g, cap, rfl, hl.symm, hk, hm, ⟨cur, hg, by rw [hl, ← ht, Nat.mul_one]⟩, hb⟩
/-- the cells of a slice that reads, as an append takes them -/
theorem rd_news {w : World} {b o : Nat} {l : List Nat} (h : Rd w (some ⟨b, o, none⟩) l) : ∀ j u, (wvals l)[j]? = some u → w.cell? ((⟨b, o, none⟩ : Addr).add j) = some u := by
  intro j u hj
  have hlt : j < l.length := by have := (List.getElem?_eq_some_iff.1 hj).1; simpa using this
  obtain ⟨b', o', e, hc⟩ := h.cell j hlt
  cases e
  rw [show (⟨b, o, none⟩ : Addr).add j = ⟨b, o + j, none⟩ from by simp [Addr.add]]
  rw [hc]
  rw [← hj]
  simp [hlt, List.getD_eq_getElem?_getD]
theorem wvals_one (l : List Nat) : ∀ u ∈ wvals l, u.oneCell' = true := by
  intro u hu
  obtain ⟨x, _, rfl⟩ := List.mem_map.1 hu
  rfl
theorem arr_own {w : World} {base g : Nat} {l : List Nat} (h : w.heap[g]? = some (.cells (warr l) 50 (0, 0))) (hb : base ≤ g) (hm : l.length ≤ maxLen) : w.ownsRow base 50 1 (.slice (some ⟨g, 0, none⟩) l.length l.length) l.length (wvals l) :=
  ⟨by simp, .inr ⟨g, l.length, warr l, rfl, hb, h, Nat.le_refl _, hm, by simp [warr], by simp [warr, wvals, List.take_of_length_le]⟩⟩
set_option maxRecDepth 100000 in
set_option maxHeartbeats 2000000 in
/-- '(nat).up' -/
theorem up_calls (A : Option Addr) (c k : Nat) (l : List Nat) (w : World) (h1 : Rd w A l) (hc1 : l.length ≤ c) (hk : Canon l) (hsm : l.length ≤ 1048576) (hkm : k ≤ 1048576) :
    Calls Tryz.prog 89 #[.slice A l.length c, .int .i64 (k : Int)] w (RetNat (BB ^ k * val l) w) := by
  by_cases h0 : l.length = 0
  · have h0' : ((l.length : Int) == 0) = true := by rw [beq_iff_eq]; omega
    obtain rfl : l = [] := List.length_eq_zero_iff.1 h0
    go_enter Tryz.func89, Tryz.ntmps89
    go_wp2
    go_ret
    exact ⟨none, 0, by simp [val, lim_zero], by simp [val, lim_zero], by simp [val, lim_zero, Rd.nil], Below.refl _ _⟩
  · have h0' : ((l.length : Int) == 0) = false := by rw [beq_eq_false_iff_ne]; omega
    have hp : 0 < l.length := by omega
    obtain ⟨b, o, rfl⟩ := h1.head hp
    have hbl : b < w.heap.size := rd_block h1 b o rfl hp
    obtain ⟨i0, hi, hz0, hz1, hz2⟩ := info_parts info_u32
    clear h0
    have hmk := make_nat (k : Int) (k : Int) k k rfl rfl (by omega) (by omega)
    have hb1 : Below w.heap.size w (w.alloc (.cells (warr (List.replicate k 0)) 50)) := (Below.refl _ _).alloc (Nat.le_refl _) _
    have harr : (w.alloc (.cells (warr (List.replicate k 0)) 50)).heap[w.heap.size]? = _ := World.alloc_heap_new w _
    have hown := arr_own harr (Nat.le_refl _) (by simp [maxLen]; omega)
    rw [List.length_replicate] at hown
    have hnews := rd_news (h1.below hb1 rfl)
    go_enter Tryz.func89, Tryz.ntmps89
    go_wp2_with (at_builtin; (refine wpList_append_own _ rfl _ _ 54 rfl w.heap.size 50 i0 (.int .u32 0) 1 4 Tryz.underlying54 hi hz0 hz1 hz2 rfl (by decide) _ _ _ rfl hown ⟨b, o, none⟩ l.length c (wvals l) rfl (by simp) hnews (wvals_one l) (by unfold maxLen; omega) (by omega) (by simp) ?_); intro v' w1 hown' hg1 _)
    have hw2 : Words (List.replicate k 0 ++ l) := words_append.2 ⟨words_replicate k, h1.words⟩
    obtain ⟨A', c', rfl, hn', hc', hrd, _⟩ := own_rd (l := List.replicate k 0 ++ l) (by rw [show wvals (List.replicate k 0 ++ l) = wvals (List.replicate k 0) ++ wvals l from List.map_append]; exact hown') hw2 (by omega)
    have hb2 : Below w.heap.size w w1 := hb1.grown hg1 (by simp) (fun j e => by cases e; exact Nat.le_refl _)
    have hv : lim (BB ^ k * val l) = List.replicate k 0 ++ l := by
      have hne : l ≠ [] := by rintro rfl; simp at hp
      rw [← lim_val (l := List.replicate k 0 ++ l) ⟨hw2, fun h => by rw [List.getLast_append_of_ne_nil _ hne]; exact hk.2 hne⟩]
      rw [val_append, val_replicate, List.length_replicate, Nat.zero_add]
    rw [hn'] at hc' ⊢
    rw [← hv] at hrd hc' ⊢
    clear hv hn' hown' hnews hown harr hmk
    go_wp2
    go_ret
    exact ⟨_, _, rfl, hc', hrd, hb2⟩
end Nm
end Go.Proofs.YtlhmbbpkhahbeaaGreatDoor
namespace Go.Proofs.YtlhmbbpkhahbeaaGreatDoor
namespace Nm
/-- the numbers of one step: M stands for the limbs below the two (three) topmost ones -/
structure Dig (B M u0 u1 u2 lo v1 v2 vlo U V : Nat) : Prop where
  hB : 0 < B
  hM : 0 < M
  hlo : lo < M
  hvlo : vlo < M
  hU : U = lo + M * (u2 + B * (u1 + B * u0))
  hV : V = vlo + M * (v2 + B * v1)
  b1 : u1 < B
  b2 : u2 < B
  c2 : v2 < B
  c1 : v1 < B
  pos : 0 < v1
  lt : U < B * V
namespace Dig
variable {B M u0 u1 u2 lo v1 v2 vlo U V : Nat}
theorem vpos (h : Dig B M u0 u1 u2 lo v1 v2 vlo U V) : 0 < V := by
  have := h.pos
  have h2 : 0 < M * (v2 + B * v1) := Nat.mul_pos h.hM (by have := Nat.mul_pos h.hB h.pos; omega)
  rw [h.hV]; omega
theorem q_lt (h : Dig B M u0 u1 u2 lo v1 v2 vlo U V) : U / V < B := by
  rw [Nat.div_lt_iff_lt_mul h.vpos]; exact h.lt
/-- the topmost limb is not greater -/
theorem u0_le (h : Dig B M u0 u1 u2 lo v1 v2 vlo U V) : u0 ≤ v1 := by
  rcases Nat.lt_or_ge v1 u0 with hc | hc
  · exfalso
    have h1 : M * (B * (B * u0)) ≤ U := by
      rw [h.hU]
      have : M * (B * (B * u0)) ≤ M * (u2 + B * (u1 + B * u0)) := Nat.mul_le_mul (Nat.le_refl _) (by
        have : B * (B * u0) ≤ B * (u1 + B * u0) := Nat.mul_le_mul (Nat.le_refl _) (by omega)
        omega)
      omega
    have h2 : B * V ≤ B * (M * (B * (v1 + 1))) := by
      refine Nat.mul_le_mul (Nat.le_refl _) ?_
      rw [h.hV]
      have h3 : M * (v2 + B * v1) + M ≤ M * (B * (v1 + 1)) := by
        rw [← Nat.mul_succ]
        refine Nat.mul_le_mul (Nat.le_refl _) ?_
        have := h.c2
        rw [Nat.mul_add]; omega
      have := h.hvlo
      omega
    have h4 : B * (M * (B * (v1 + 1))) ≤ M * (B * (B * u0)) := by
      rw [Nat.mul_left_comm]
      exact Nat.mul_le_mul (Nat.le_refl _) (Nat.mul_le_mul (Nat.le_refl _) (Nat.mul_le_mul (Nat.le_refl _) hc))
    have := h.lt
    omega
  · exact hc
theorem top_le (h : Dig B M u0 u1 u2 lo v1 v2 vlo U V) : u0 * B + u1 ≤ v1 * B + (B - 1) := by
  have := Nat.mul_le_mul h.u0_le (Nat.le_refl B)
  have := h.b1
  omega
/-- U3, the three topmost limbs -/
theorem U_lo (h : Dig B M u0 u1 u2 lo v1 v2 vlo U V) : M * ((u0 * B + u1) * B + u2) ≤ U ∧ U < M * ((u0 * B + u1) * B + u2 + 1) := by
  have e : u2 + B * (u1 + B * u0) = (u0 * B + u1) * B + u2 := by
    rw [Nat.mul_comm B (u1 + B * u0), Nat.mul_comm B u0, Nat.add_comm u1, Nat.add_comm u2]
  rw [h.hU, e, Nat.mul_add M _ 1]
  have := h.hlo
  omega
/-- the start: the guess is not too small -/
theorem start (h : Dig B M u0 u1 u2 lo v1 v2 vlo U V) : U / V ≤ (u0 * B + u1) / v1 := by
  rw [Nat.le_div_iff_mul_le h.pos]
  have h1 : (U / V) * V ≤ U := Nat.div_mul_le_self U V
  have h2 : (U / V) * (M * (B * v1)) ≤ U := by
    refine Nat.le_trans (Nat.mul_le_mul (Nat.le_refl _) ?_) h1
    rw [h.hV]
    have : M * (B * v1) ≤ M * (v2 + B * v1) := Nat.mul_le_mul (Nat.le_refl _) (by omega)
    omega
  have h3 := h.U_lo.2
  have e : (U / V) * (M * (B * v1)) = M * ((U / V * v1) * B) := by
    rw [Nat.mul_left_comm, Nat.mul_left_comm _ B, Nat.mul_comm B]
  rw [e] at h2
  have h4 := Nat.lt_of_mul_lt_mul_left (Nat.lt_of_le_of_lt h2 h3)
  have h5 : (U / V * v1) * B < (u0 * B + u1 + 1) * B := by
    rw [Nat.add_mul _ 1 B]; have := h.b2; omega
  have := Nat.lt_of_mul_lt_mul_right h5
  omega
/-- a guess that fails the test is too great -/
theorem dec (h : Dig B M u0 u1 u2 lo v1 v2 vlo U V) {G R : Nat} (hG : G * v1 + R = u0 * B + u1) (ht : R * B + u2 < G * v2) : U / V < G := by
  rw [Nat.div_lt_iff_lt_mul h.vpos]
  have h1 : (u0 * B + u1) * B + u2 + 1 ≤ G * (v2 + B * v1) := by
    rw [← hG, Nat.add_mul, Nat.mul_add]
    have : G * v1 * B = G * (B * v1) := by rw [Nat.mul_assoc, Nat.mul_comm v1]
    omega
  have h2 := Nat.mul_le_mul (Nat.le_refl M) h1
  have h3 := h.U_lo.2
  have e : G * (M * (v2 + B * v1)) = M * (G * (v2 + B * v1)) := Nat.mul_left_comm _ _ _
  rw [h.hV, Nat.mul_add, e]
  omega
/-- a guess that stands the test is at most one too great -/
theorem good (h : Dig B M u0 u1 u2 lo v1 v2 vlo U V) {G R : Nat} (hG : G * v1 + R = u0 * B + u1) (hb : G < B) (ht : G * v2 ≤ R * B + u2) : G ≤ U / V + 1 := by
  have h1 : G * (v2 + B * v1) ≤ (u0 * B + u1) * B + u2 := by
    rw [← hG, Nat.add_mul, Nat.mul_add]
    have : G * v1 * B = G * (B * v1) := by rw [Nat.mul_assoc, Nat.mul_comm v1]
    omega
  have h2 := Nat.mul_le_mul (Nat.le_refl M) h1
  have h3 := h.U_lo.1
  have e : G * (M * (v2 + B * v1)) = M * (G * (v2 + B * v1)) := Nat.mul_left_comm _ _ _
  have h4 : G * vlo ≤ B * M := Nat.mul_le_mul (Nat.le_of_lt hb) (Nat.le_of_lt h.hvlo)
  have h5 : B * M ≤ M * (v2 + B * v1) := by
    rw [Nat.mul_comm]
    refine Nat.mul_le_mul (Nat.le_refl _) ?_
    have : B * 1 ≤ B * v1 := Nat.mul_le_mul (Nat.le_refl _) h.pos
    rw [Nat.mul_one] at this
    omega
  have h6 : G * V ≤ U + V := by
    rw [h.hV, Nat.mul_add, e]
    omega
  rcases Nat.eq_zero_or_pos G with rfl | hp
  · exact Nat.zero_le _
  · have : G - 1 ≤ U / V := by
      rw [Nat.le_div_iff_mul_le h.vpos, Nat.sub_mul]; omega
    generalize U / V = q at *
    omega
/-- with a rest that is no limb the test is stood -/
theorem broke (h : Dig B M u0 u1 u2 lo v1 v2 vlo U V) {G R : Nat} (hG : G * v1 + R = u0 * B + u1) (hR : B ≤ R) : G < B ∧ G ≤ U / V + 1 := by
  have h1 := h.top_le
  have hb : G < B := by
    rcases Nat.lt_or_ge G B with hc | hc
    · exact hc
    · exfalso
      have := Nat.mul_le_mul hc (Nat.le_refl v1)
      rw [Nat.mul_comm B v1] at this
      have := h.hB
      omega
  refine ⟨hb, h.good hG hb ?_⟩
  have h2 : G * v2 ≤ B * B := Nat.mul_le_mul (Nat.le_of_lt hb) (Nat.le_of_lt h.c2)
  have h3 := Nat.mul_le_mul hR (Nat.le_refl B)
  omega
end Dig
/-- a list with three words more at its end -/
theorem split3 {l : List Nat} {m : Nat} (h : l.length = m + 3) : l = l.take m ++ [l.getD m 0, l.getD (m + 1) 0, l.getD (m + 2) 0] := by
  apply List.ext_getElem
  · simp [h]
  · intro i h1 h2
    rw [List.getElem_append]
    split
    · simp
    · rename_i hi
      have hi' : m ≤ i := by simp [h] at hi; omega
      have hm : (l.take m).length = m := by simp [h]
      rcases (show i = m ∨ i = m + 1 ∨ i = m + 2 by omega) with rfl | rfl | rfl <;> simp [hm, h1, List.getD_eq_getElem?_getD]
theorem split2 {l : List Nat} {m : Nat} (h : l.length = m + 2) : l = l.take m ++ [l.getD m 0, l.getD (m + 1) 0] := by
  apply List.ext_getElem
  · simp [h]
  · intro i h1 h2
    rw [List.getElem_append]
    split
    · simp
    · rename_i hi
      have hi' : m ≤ i := by simp [h] at hi; omega
      have hm : (l.take m).length = m := by simp [h]
      rcases (show i = m ∨ i = m + 1 by omega) with rfl | rfl <;> simp [hm, h1, List.getD_eq_getElem?_getD]
theorem dig_of {seg vl : List Nat} {m : Nat} (hs : seg.length = m + 3) (hv : vl.length = m + 2) (ws : Words seg) (wv : Words vl) (ht : vl.getD (m + 1) 0 ≠ 0) (hlt : val seg < BB * val vl) :
    Dig BB (BB ^ m) (seg.getD (m + 2) 0) (seg.getD (m + 1) 0) (seg.getD m 0) (val (seg.take m)) (vl.getD (m + 1) 0) (vl.getD m 0) (val (vl.take m)) (val seg) (val vl) where
  hB := by decide
  hM := Nat.pos_of_ne_zero (by have := Nat.one_le_pow m BB (by decide); omega)
  hlo := by have := val_lt (words_take ws m); rwa [List.length_take, Nat.min_eq_left (by omega)] at this
  hvlo := by have := val_lt (words_take wv m); rwa [List.length_take, Nat.min_eq_left (by omega)] at this
  hU := by
    conv => lhs; rw [split3 hs]
    rw [val_append, List.length_take, Nat.min_eq_left (by omega)]
    simp [val]
  hV := by
    conv => lhs; rw [split2 hv]
    rw [val_append, List.length_take, Nat.min_eq_left (by omega)]
    simp [val]
  b1 := words_getD ws _
  b2 := words_getD ws _
  c2 := words_getD wv _
  c1 := words_getD wv _
  pos := by omega
  lt := hlt
/-- one round of the subtraction of a multiple -/
theorem mulsub_arith {B P X O G Y cy bw x y t z bq : Nat} (ht : t = cy + G * y) (hz : x + B * bq = z + (t % B + bw)) (h : X + P * (cy + bw) = O + G * Y) :
    (X + P * x) + P * B * (t / B + bq) = (O + P * z) + G * (Y + P * y) := by
  have e1 : x + B * (t / B + bq) = z + bw + (cy + G * y) := by
    rw [← ht]
    have := Nat.mod_add_div t B
    rw [Nat.mul_add]
    omega
  have e2 : P * x + P * (B * (t / B + bq)) = P * (z + bw + (cy + G * y)) := by rw [← Nat.mul_add, e1]
  have e3 : G * (Y + P * y) = G * Y + P * (G * y) := by rw [Nat.mul_add, Nat.mul_left_comm]
  have e4 : P * (z + bw + (cy + G * y)) = P * z + P * (cy + bw) + P * (G * y) := by
    rw [← Nat.mul_add, ← Nat.mul_add]; congr 1; omega
  rw [Nat.mul_assoc, e3]
  omega
end Nm
end Go.Proofs.YtlhmbbpkhahbeaaGreatDoor
namespace Go.Proofs.YtlhmbbpkhahbeaaGreatDoor
namespace Nm
open Go.RowKit Go.Shelf Go.BigFrame
attribute [local go_sem] Oper.semAt_some
theorem seg_get (pre outs seg post : List Nat) (k j : Nat) (h : outs.length = k) (hk : k ≤ j) (hj : j < seg.length) : (pre ++ (outs ++ seg.drop k) ++ post).getD (pre.length + j) 0 = seg.getD j 0 := by
  subst h
  rw [List.getD_eq_getElem?_getD, List.append_assoc, List.getElem?_append_right (by omega), List.getElem?_append_left (by simp; omega), List.getElem?_append_right (by omega), List.getElem?_drop, List.getD_eq_getElem?_getD]
  congr 2
  omega
theorem seg_set (pre outs seg post : List Nat) (k z : Nat) (h : outs.length = k) (hk : k < seg.length) : (pre ++ (outs ++ seg.drop k) ++ post).set (pre.length + k) z = pre ++ ((outs ++ [z]) ++ seg.drop (k + 1)) ++ post := by
  subst h
  rw [List.drop_eq_getElem_cons hk, List.append_assoc, List.set_append_right _ _ (by omega), Nat.add_sub_cancel_left, List.append_assoc, List.set_append_right _ _ (by omega), Nat.sub_self, List.cons_append, List.set_cons_zero]
  simp
theorem fin_step {P s o r v : Nat} (hs : s ≤ 1) (h : P + r = o + P * s) (ho : o < P) (_hr : r < v) (_hv : v < P) : s = 1 ∧ o = r := by
  have e : s = 1 := by
    rcases Nat.eq_zero_or_pos s with h0 | h0
    · exfalso; rw [h0, Nat.mul_zero] at h; omega
    · omega
  refine ⟨e, ?_⟩
  rw [e, Nat.mul_one] at h
  omega
/-- block g, and new blocks, alone have turned -/
theorem grw_set {w W : World} {g : Nat} (h : w.grownBy W (some g)) {p : Addr} (hp : p.block = g ∨ w.heap.size ≤ p.block) (v : Value) : w.grownBy (W.setCell p v) (some g) :=
  ⟨h.os, h.tape, h.output, Nat.le_trans h.size (KeepsWalks.setCell W p v).size, fun k hk hne => by
    have hk' : k ≠ p.block := by
      intro e
      rcases hp with hp | hp
      · exact hne (by rw [e, hp])
      · omega
    rw [Below.heap_setCell _ _ _ k hk']
    exact h.block k hk hne⟩
theorem grw_alloc {w W : World} {g : Nat} (h : w.grownBy W (some g)) (o : Obj) : w.grownBy (W.alloc o) (some g) :=
  ⟨h.os, h.tape, h.output, by have := h.size; simp; omega, fun k hk hne => by rw [Below.heap_alloc _ _ _ (by have := h.size; omega)]; exact h.block k hk hne⟩
theorem grw_drewN {w W : World} {g : Nat} (h : w.grownBy W (some g)) (m : Nat) : w.grownBy (W.drewN m) (some g) := ⟨h.os, h.tape, h.output, h.size, h.block⟩
theorem grw_refl (w : World) (g : Nat) : w.grownBy w (some g) := ⟨rfl, rfl, rfl, Nat.le_refl _, fun _ _ _ => rfl⟩
theorem grw_put {w W : World} {g : Nat} (h : w.grownBy W (some g)) {D : Nat} (hD : w.heap.size ≤ D) (o : Obj) : w.grownBy (W.putObj D o) (some g) :=
  ⟨h.os, h.tape, h.output, by have := h.size; simp [World.putObj]; omega, fun k hk hne => by rw [World.putObj_heap_other (by omega)]; exact h.block k hk hne⟩
theorem grw_rd {w W : World} {g : Nat} (h : w.grownBy W (some g)) {A : Option Addr} {l : List Nat} (hA : Rd w A l) (hb : ∀ b o, A = some ⟨b, o, none⟩ → b ≠ g) : Rd W A l :=
  ⟨fun i hi => by
    obtain ⟨b, o, e, hc⟩ := hA.cell i hi
    refine ⟨b, o, e, (World.cell?_of_block (h.block b (World.block_lt_of_cell? w _ hc) ?_)).trans hc⟩
    intro e'; exact hb b o e (by cases e'; rfl), hA.words, hA.small⟩
theorem grw_ownF {β : Type} {b g : Nat} {w : World} (hb : w.heap.size ≤ b) : OwnFrom b (fun (_ : β) W => w.grownBy W (some g)) := by
  intro s X Y row h hg hr
  refine ⟨hg.os.trans h.os, hg.tape.trans h.tape, hg.output.trans h.output, Nat.le_trans h.size hg.size, fun k hk hne => ?_⟩
  rw [hg.block k (by have := h.size; omega) (fun e => by have := (hr k e.symm).1; omega)]
  exact h.block k hk hne
theorem blk_ownF {β : Type} {B D : Nat} {o : Obj} (h : D < B) : OwnFrom B (fun (_ : β) W => W.heap[D]? = some o) := by
  intro s X Y row hs hg hr
  rw [hg.block D (Array.getElem?_eq_some_iff.1 hs).1 (fun e => by have := (hr D e.symm).1; omega)]
  exact hs
set_option maxRecDepth 100000 in
set_option maxHeartbeats 8000000 in
theorem digit_calls (g cu n : Nat) (pre seg post vl : List Nat) (Av : Option Addr) (cv : Nat) (w : World) (harr : Arr w g (pre ++ seg ++ post)) (hsl : seg.length = n + 1) (hvl : vl.length = n) (hn : 2 ≤ n)
    (hw : Words (pre ++ seg ++ post)) (_hcu : n + 1 ≤ cu) (hv : Rd w Av vl) (_hcv : n ≤ cv) (hvb : ∀ b o, Av = some ⟨b, o, none⟩ → b < g) (htop : vl.getD (n - 1) 0 ≠ 0) (hlt : val seg < BB * val vl)
    (hsm : n ≤ 1048576) (hsp : pre.length ≤ 4194304) :
    Calls Tryz.prog 82 #[.slice (some ⟨g, pre.length, none⟩) (n + 1) cu, .slice Av n cv] w fun e w' =>
      ∃ seg', e = .returned (.int .u32 ((val seg / val vl : Nat) : Int)) ∧ Arr w' g (pre ++ seg' ++ post) ∧ seg'.length = n + 1 ∧ Words seg' ∧ val seg' = val seg % val vl ∧ w.grownBy w' (some g) := by
  have wseg : Words seg := (words_append.1 (words_append.1 hw).1).2
  have hdig := dig_of (m := n - 2) (by omega) (by omega) wseg hv.words (by rw [show n - 2 + 1 = n - 1 by omega]; exact htop) hlt
  rw [show n - 2 + 2 = n by omega, show n - 2 + 1 = n - 1 by omega] at hdig
  obtain ⟨bv, ov, v1, rfl, hcv1, hv1, hv1b⟩ := hv.get (n - 1) (by omega)
  obtain ⟨bv', ov', v2, e', hcv2, hv2, hv2b⟩ := hv.get (n - 2) (by omega)
  cases e'
  have hg := arr_lt harr
  have hbv : bv < g := hvb bv ov rfl
  have hbvw : bv < w.heap.size := by omega
  have hseg : ∀ j, j < n + 1 → w.cell? ⟨g, pre.length + j, none⟩ = some (.int .u32 ((seg.getD j 0 : Nat) : Int)) := by
    intro j hj
    rw [arr_cell harr (pre.length + j) (by simp; omega)]
    have := seg_get pre [] seg post 0 j rfl (by omega) (by omega)
    simp only [List.drop_zero, List.nil_append] at this
    rw [this]
  obtain ⟨u0, hu0, hu0b⟩ : ∃ u, Hid (seg.getD n 0 = u) ∧ u < 4294967296 := ⟨_, rfl, words_getD wseg n⟩
  obtain ⟨u1, hu1, hu1b⟩ : ∃ u, Hid (seg.getD (n - 1) 0 = u) ∧ u < 4294967296 := ⟨_, rfl, words_getD wseg (n - 1)⟩
  obtain ⟨u2, hu2, hu2b⟩ : ∃ u, Hid (seg.getD (n - 2) 0 = u) ∧ u < 4294967296 := ⟨_, rfl, words_getD wseg (n - 2)⟩
  rw [hu0.out, hu1.out, hu2.out, hv1.out, hv2.out] at hdig
  have hv1p : 0 < v1 := hdig.pos
  have hc0 := hseg n (by omega)
  have hc1 := hseg (n - 1) (by omega)
  have hc2 := hseg (n - 2) (by omega)
  rw [hu0.out] at hc0
  rw [hu1.out] at hc1
  rw [hu2.out] at hc2
  have HD := Lib.hid hdig
  have HL := Lib.hid hlt
  have HT := Lib.hid htop
  have HV := Lib.hid hvl
  have HS := Lib.hid hsl
  have HW := Lib.hid hw
  clear hdig hlt htop hvl hsl hw hseg hvb
  obtain ⟨top, t1, t2, t3⟩ : ∃ t : Nat, bits .or .u64 ((u0 : Int) * 4294967296) (u1 : Int) = (t : Int) ∧ Hid (t = u0 * BB + u1) ∧ t < 18446744073709551616 := by
    have e : (u0 : Int) * 4294967296 = ((u0 * 4294967296 : Nat) : Int) := by simp
    refine ⟨u0 * BB + u1, ?_, rfl, by show u0 * 4294967296 + u1 < 18446744073709551616; omega⟩
    rw [e]
    exact or_u64' u1 (u0 * 4294967296) 32 hu1b (by show u0 * 4294967296 % 4294967296 = 0; omega) (by omega) (by omega)
  obtain ⟨G0, g1, g2, g3⟩ : ∃ z : Nat, (top : Int) / (v1 : Int) = (z : Int) ∧ Hid (z = top / v1) ∧ z < 18446744073709551616 := ⟨top / v1, by simp, rfl, Nat.lt_of_le_of_lt (Nat.div_le_self _ _) t3⟩
  obtain ⟨R0, r1, r2, r3⟩ : ∃ z : Nat, (top : Int) % (v1 : Int) = (z : Int) ∧ Hid (z = top % v1) ∧ z < v1 := ⟨top % v1, by simp, rfl, Nat.mod_lt _ hv1p⟩
  refine (callsIn_wide (n := 5)).1 ?_
  refine callsIn_of_wp_marks Tryz.func82 rfl trivial ?_ rfl
  simp only [Tryz.ntmps82, List.size_toArray, List.length_cons, List.length_nil, Nat.reduceAdd, Nat.reduceSub, Array.replicate_succ, Array.replicate_zero, List.push_toArray, List.append_toArray, List.nil_append, List.cons_append]
  gi_wp2
  have hwide : ∀ f, Fence.wide.fn f := fun _ => trivial
  refine wpIn_region_all (by kernel_rfl) (by kernel_rfl) (by kernel_rfl) ?_
  repeat (gi_big_quiet_step (fail))
  refine wpQuietIn_nil ?_
  intro mq
  gi_wp2
  have H1 := r1
  rw [H1]
  clear H1
  rename_i K hK
  obtain ⟨w3, hw3⟩ : ∃ w3, (((w.alloc (.cells #[.slice (some ⟨g, pre.length, none⟩) (n + 1) cu] 54)).drewN mq).alloc (.cells #[.int .u64 (G0 : Int)] 92)) = w3 := ⟨_, rfl⟩
  have hB0 : Boxed w3 w.heap.size 54 (.slice (some ⟨g, pre.length, none⟩) (n + 1) cu) := by rw [← hw3]; exact (boxed_drewN (Boxed.new _ _ _) _).alloc _
  have hB1 : Boxed w3 (w.heap.size + 1) 92 (.int .u64 (G0 : Int)) := by rw [← hw3]; have := Boxed.new ((w.alloc (.cells #[.slice (some ⟨g, pre.length, none⟩) (n + 1) cu] 54)).drewN mq) 92 (.int .u64 (G0 : Int)); simpa [World.drewN] using this
  have hR : Arr w3 g (pre ++ seg ++ post) := by rw [← hw3]; exact arr_alloc (arr_drewN (arr_alloc harr _) _) _
  have hG : w.grownBy w3 (some g) := by rw [← hw3]; exact grw_alloc (grw_drewN (grw_alloc (grw_refl _ _) _) _) _
  rw [hw3]
  clear hw3
  have hrest : ∀ (G : Nat) (W : World) (s3 s6 s8 s9 s10 s11 s12 s13 s14 s15 s16 s17 s18 s19 s20 s21 s22 s23 s24 s25 s26 s27 s28 s29 s30 s31 s32 s33 s34 s35 s36 s37 s38 s39 s40 s41 s42 s43 s44 s45 s46 s47 s48 s49 s50 s51 s52 s53 s54 s55 s56 s57 s58 s59 s60 s61 s62 s63 s64 s65 s66 s67 s68 s69 s70 s71 s72 s73 s74 s75 s76 s77 s78 s79 s80 s81 s82 s83 s84 s85 s86 s87 s88 s89 s90 s91 s92 s93 s94 s95 s96 s97 s98 s99 s100 s101 s102 s103 s104 s105 s106 s107 s108 s109 s110 s111 s112 s113 s114 s115 s116 s117 s118 s119 s120 s121 s122 s123 s124 s125 s126 s127 s128 s129 s130 s131 s132 s133 s134 s135 s136 s137 s138 s139 s140 s141 s142 s143 s144 s145 s146 s147 s148 s149 s150 s151 s152 s153 s154 s155 s156 s157 s158 s159 s160 s161 s162 s163 : Value), Hid (val seg / val vl ≤ G) → Hid (G ≤ val seg / val vl + 1) → G < 4294967296 → Boxed W w.heap.size 54 (.slice (some ⟨g, pre.length, none⟩) (n + 1) cu) → Boxed W (w.heap.size + 1) 92 (.int .u64 (G : Int)) → Arr W g (pre ++ seg ++ post) → w.grownBy W (some g) →
      K { tmps := #[.slice (some ⟨g, pre.length, none⟩) (n + 1) cu, .slice (some ⟨bv, ov, none⟩) n cv, .pointer (some ⟨w.heap.size, 0, none⟩), s3, .int .u32 0, .int .i64 (n : Int), s6, .pointer (some ⟨w.heap.size + 1, 0, none⟩), s8, s9, s10, s11, s12, s13, s14, s15, s16, s17, s18, s19, s20, s21, s22, s23, s24, s25, s26, s27, s28, s29, s30, s31, s32, s33, s34, s35, s36, s37, s38, s39, s40, s41, s42, s43, s44, s45, s46, s47, s48, s49, s50, s51, s52, s53, s54, s55, s56, s57, s58, s59, s60, s61, s62, s63, s64, s65, s66, s67, s68, s69, s70, s71, s72, s73, s74, s75, s76, s77, s78, s79, s80, s81, s82, s83, s84, s85, s86, s87, s88, s89, s90, s91, s92, s93, s94, s95, s96, s97, s98, s99, s100, s101, s102, s103, s104, s105, s106, s107, s108, s109, s110, s111, s112, s113, s114, s115, s116, s117, s118, s119, s120, s121, s122, s123, s124, s125, s126, s127, s128, s129, s130, s131, s132, s133, s134, s135, s136, s137, s138, s139, s140, s141, s142, s143, s144, s145, s146, s147, s148, s149, s150, s151, s152, s153, s154, s155, s156, s157, s158, s159, s160, s161, s162, s163], defers := [] } W := by
    intro G W s3 s6 s8 s9 s10 s11 s12 s13 s14 s15 s16 s17 s18 s19 s20 s21 s22 s23 s24 s25 s26 s27 s28 s29 s30 s31 s32 s33 s34 s35 s36 s37 s38 s39 s40 s41 s42 s43 s44 s45 s46 s47 s48 s49 s50 s51 s52 s53 s54 s55 s56 s57 s58 s59 s60 s61 s62 s63 s64 s65 s66 s67 s68 s69 s70 s71 s72 s73 s74 s75 s76 s77 s78 s79 s80 s81 s82 s83 s84 s85 s86 s87 s88 s89 s90 s91 s92 s93 s94 s95 s96 s97 s98 s99 s100 s101 s102 s103 s104 s105 s106 s107 s108 s109 s110 s111 s112 s113 s114 s115 s116 s117 s118 s119 s120 s121 s122 s123 s124 s125 s126 s127 s128 s129 s130 s131 s132 s133 s134 s135 s136 s137 s138 s139 s140 s141 s142 s143 s144 s145 s146 s147 s148 s149 s150 s151 s152 s153 s154 s155 s156 s157 s158 s159 s160 s161 s162 s163 hq1 hq2 hGb hB0 hB1 hR hG
    refine hK _ _ ?_
    have hz0 := hB1.lt
    have hzg := hG.size
    gi_wp2_with (gi_at_call 66; refine (callsIn_wide.2 (limbs_calls _ _ _ _)).mono ?_; rintro e w2 ⟨rfl, rfl⟩)
    obtain ⟨w5, hw3⟩ : ∃ w5, allocs W [.cells #[.int .u64 0] 92, .cells #[.int .u64 0] 92, .cells #[.slice (some ⟨bv, ov, none⟩) n cv] 54] = w5 := ⟨_, rfl⟩
    have hget := allocs_get W [.cells #[.int .u64 0] 92, .cells #[.int .u64 0] 92, .cells #[.slice (some ⟨bv, ov, none⟩) n cv] 54]
    have hs3 := allocs_stp W [.cells #[.int .u64 0] 92, .cells #[.int .u64 0] 92, .cells #[.slice (some ⟨bv, ov, none⟩) n cv] 54] (Nat.le_refl W.heap.size)
    have hsz3 := allocs_size W [.cells #[.int .u64 0] 92, .cells #[.int .u64 0] 92, .cells #[.slice (some ⟨bv, ov, none⟩) n cv] 54]
    rw [hw3] at hget hs3 hsz3
    simp only [allocs] at hw3
    rw [hw3]
    clear hw3
    replace hsz3 : W.heap.size + 3 ≤ w5.heap.size := by rw [hsz3]; exact Nat.le_refl _
    have hC0 : Boxed w5 W.heap.size 92 (.int .u64 0) := hget 0 (by simp)
    have hC1 : Boxed w5 (W.heap.size + 1) 92 (.int .u64 0) := hget 1 (by simp)
    have hC2 : Boxed w5 (W.heap.size + 2) 54 (.slice (some ⟨bv, ov, none⟩) n cv) := hget 2 (by simp)
    clear hget

    have hB0' : Boxed w5 w.heap.size 54 (.slice (some ⟨g, pre.length, none⟩) (n + 1) cu) := (hs3.below.block w.heap.size (by omega)).trans hB0
    have hB1' : Boxed w5 (w.heap.size + 1) 92 (.int .u64 (G : Int)) := (hs3.below.block (w.heap.size + 1) (by omega)).trans hB1
    have hR' : Arr w5 g (pre ++ seg ++ post) := arr_below hR hs3.below (by omega)
    have hG' : w.grownBy w5 (some g) := ⟨hs3.below.os.trans hG.os, hs3.below.tape.trans hG.tape, hs3.below.output.trans hG.output, by omega, fun k hk hne => (hs3.below.block k (by omega)).trans (hG.block k hk hne)⟩
    have hvl5 : Rd w5 (some ⟨bv, ov, none⟩) vl := grw_rd hG' hv (fun b o e => by cases e; omega)
    refine wpIn_limbs_p (n₀ := g) (l := vl) rfl (by omega) (gf := 92) (lb := #[.pointer (some ⟨W.heap.size + 2, 0, none⟩)]) rfl trivial (enters_of Tryz.func92 (by kernel_rfl) rfl)
      (limbs1_in _ (W.heap.size + 2) (some ⟨bv, ov, none⟩) cv vl g w5 (by rw [HV.out]; exact hC2.cell) hvl5 (by omega) (fun b o e _ => by cases e; exact hbv)) (by omega) (Below.refl _ _) rfl
      (fun k X => ∃ (outs : List Nat) (cy bw : Nat), Boxed X w.heap.size 54 (.slice (some ⟨g, pre.length, none⟩) (n + 1) cu) ∧ Boxed X (w.heap.size + 1) 92 (.int .u64 (G : Int)) ∧ Boxed X W.heap.size 92 (.int .u64 (bw : Int)) ∧ Boxed X (W.heap.size + 1) 92 (.int .u64 (cy : Int)) ∧
        Arr X g (pre ++ (outs ++ seg.drop k) ++ post) ∧ w.grownBy X (some g) ∧ cy < 4294967296 ∧ bw ≤ 1 ∧ outs.length = k ∧ Words outs ∧ Hid (val (seg.take k) + BB ^ k * (cy + bw) = val outs + G * val (vl.take k)))
      ?own ?start ?round ?done
    case own =>
      rintro k X Y row ⟨outs, cy, bw, a0, a1, a2, a3, a4, a5, rest⟩ hg hr
      exact ⟨outs, cy, bw, boxed_ownF _ _ _ (fun _ => _) k X Y row a0 hg hr, boxed_ownF _ _ _ (fun _ => _) k X Y row a1 hg hr, boxed_ownF _ _ _ (fun _ => _) k X Y row a2 hg hr, boxed_ownF _ _ _ (fun _ => _) k X Y row a3 hg hr, arr_ownF _ _ (fun _ => _) k X Y row a4 hg hr, grw_ownF (by omega) k X Y row a5 hg hr, rest⟩
    case start => exact ⟨[], 0, 0, hB0', hB1', hC0, hC1, by simpa using hR', hG', by omega, by omega, rfl, words_nil, by simp [Hid, val]⟩
    case round =>
      intro k X hk
      obtain ⟨y, hy, hyb⟩ : ∃ y, Hid (vl.getD k 0 = y) ∧ y < 4294967296 := ⟨_, rfl, words_getD hv.words k⟩
      obtain ⟨x, hx, hxb⟩ : ∃ y, Hid (seg.getD k 0 = y) ∧ y < 4294967296 := ⟨_, rfl, words_getD wseg k⟩
      rw [hy.out]
      have hkn : k < n := by have := HV.out; omega
      gi_wp2
      refine ⟨trivial, ?_⟩
      clear X
      rintro X ⟨outs, cy, bw, b0, b1, b2, b3, hra, hgr, hcy, hbw, hol, how, hval⟩
      have Hol := Lib.hid hol
      clear hol
      have g4 := arr_cell hra (pre.length + k) (by have := Hol.out; have := HS.out; simp; omega)
      rw [seg_get pre outs seg post k k Hol.out (Nat.le_refl _) (by have := HS.out; omega), hx.out] at g4
      have f4 := arr_frozen hra (pre.length + k)
      have tg := arr_lt hra
      have gb0 := b0.cell
      have fb0 := b0.frozen
      have tb0 := b0.lt
      have gb1 := b1.cell
      have fb1 := b1.frozen
      have tb1 := b1.lt
      have gb2 := b2.cell
      have fb2 := b2.frozen
      have tb2 := b2.lt
      have gb3 := b3.cell
      have fb3 := b3.frozen
      have tb3 := b3.lt

      obtain ⟨p, hp, hp2, hp3⟩ : ∃ p : Nat, (G : Int) * (y : Int) = (p : Int) ∧ p ≤ 18446744065119617025 ∧ Hid (p = G * y) := ⟨G * y, (Int.natCast_mul G y).symm, mul_words hGb hyb, rfl⟩
      obtain ⟨t, ht, ht2, ht3⟩ : ∃ t : Nat, (cy : Int) + (p : Int) = (t : Int) ∧ t < 18446744073709551616 ∧ Hid (t = cy + p) := ⟨cy + p, by omega, by omega, rfl⟩
      obtain ⟨lo, hlo, hlo2, hlo3⟩ : ∃ z : Nat, (t : Int) % 4294967296 = (z : Int) ∧ z < 4294967296 ∧ Hid (z = t % BB) := ⟨t % 4294967296, by omega, by omega, rfl⟩
      obtain ⟨d, d1, d2⟩ : ∃ d : Nat, IntKind.u64.wrap ((x : Int) - (lo : Int)) = (d : Int) ∧ Hid ((d : Int) = ((x : Int) - (lo : Int)) % 18446744073709551616) := by
        obtain ⟨d, hd⟩ := Int.eq_ofNat_of_zero_le (show 0 ≤ ((x : Int) - (lo : Int)) % 18446744073709551616 by omega)
        exact ⟨d, by rw [← hd]; rfl, hd.symm⟩
      obtain ⟨v, e1, e2⟩ : ∃ v : Nat, IntKind.u64.wrap ((d : Int) - (bw : Int)) = (v : Int) ∧ Hid ((v : Int) = ((d : Int) - (bw : Int)) % 18446744073709551616) := by
        obtain ⟨d, hd⟩ := Int.eq_ofNat_of_zero_le (show 0 ≤ ((d : Int) - (bw : Int)) % 18446744073709551616 by omega)
        exact ⟨d, by rw [← hd]; rfl, hd.symm⟩
      obtain ⟨z, z1, z2⟩ : ∃ z : Nat, (v : Int) % 4294967296 = (z : Int) ∧ Hid (z = v % 4294967296) := ⟨v % 4294967296, by omega, rfl⟩
      gi_wp2
      refine wpIn_region_all (by kernel_rfl) (by kernel_rfl) (by kernel_rfl) ?_
      repeat (gi_big_quiet_step (fail))
      refine wpQuietIn_nil ?_
      intro mm
      gi_wp2
      obtain ⟨bq, bq1, bq2⟩ : ∃ q : Nat, (v : Int) / 9223372036854775808 = (q : Int) ∧ q = v / 9223372036854775808 := ⟨v / 9223372036854775808, by omega, rfl⟩
      obtain ⟨hi, hi1, hi2⟩ : ∃ q : Nat, (t : Int) / 4294967296 = (q : Int) ∧ q = t / BB := ⟨t / 4294967296, by omega, rfl⟩
      rw [bq1, hi1]
      have D2 := d2.out
      have V2 := e2.out
      have Z2 := z2.out
      have hzz : bq ≤ 1 ∧ x + 4294967296 * bq = z + (lo + bw) ∧ z < 4294967296 := by omega
      have hhi : hi < 4294967296 := by rw [hi2]; show t / 4294967296 < _; omega
      refine limb_end (by (repeat (first | with_reducible exact Stp.refl _ _ | with_reducible refine Stp.set ?_ (by first | (dsimp only; omega) | omega) _ | with_reducible refine Stp.alloc ?_ (by simp; omega) _ | with_reducible refine Stp.drewN ?_ _))) (fun hst => ⟨outs ++ [z], hi, bq, by (repeat (first | with_reducible exact b0 | with_reducible exact HasBox.of b0 | with_reducible refine boxed_other ?_ (by omega) _ | with_reducible refine boxed_set _ ?_ | with_reducible refine HasBox.set ?_ _ _ | with_reducible refine HasBox.alloc ?_ _ | with_reducible refine HasBox.drewN ?_ _ | with_reducible refine Boxed.alloc ?_ _ | with_reducible refine boxed_drewN ?_ _)), by (repeat (first | with_reducible exact b1 | with_reducible exact HasBox.of b1 | with_reducible refine boxed_other ?_ (by omega) _ | with_reducible refine boxed_set _ ?_ | with_reducible refine HasBox.set ?_ _ _ | with_reducible refine HasBox.alloc ?_ _ | with_reducible refine HasBox.drewN ?_ _ | with_reducible refine Boxed.alloc ?_ _ | with_reducible refine boxed_drewN ?_ _)), by (repeat (first | with_reducible exact b2 | with_reducible exact HasBox.of b2 | with_reducible refine boxed_other ?_ (by omega) _ | with_reducible refine boxed_set _ ?_ | with_reducible refine HasBox.set ?_ _ _ | with_reducible refine HasBox.alloc ?_ _ | with_reducible refine HasBox.drewN ?_ _ | with_reducible refine Boxed.alloc ?_ _ | with_reducible refine boxed_drewN ?_ _)), by (repeat (first | with_reducible exact b3 | with_reducible exact HasBox.of b3 | with_reducible refine boxed_other ?_ (by omega) _ | with_reducible refine boxed_set _ ?_ | with_reducible refine HasBox.set ?_ _ _ | with_reducible refine HasBox.alloc ?_ _ | with_reducible refine HasBox.drewN ?_ _ | with_reducible refine Boxed.alloc ?_ _ | with_reducible refine boxed_drewN ?_ _)), ?_, by (repeat (first | with_reducible exact hgr | with_reducible refine grw_set ?_ (by first | exact .inl rfl | (right; dsimp only; omega)) _ | with_reducible refine grw_alloc ?_ _ | with_reducible refine grw_drewN ?_ _)), hhi, hzz.1, by simp [Hol.out], ?_, ?_⟩)
      · rw [← seg_set pre outs seg post k z Hol.out (by have := HS.out; omega)]
        (repeat (first | with_reducible exact hra | with_reducible refine arr_other ?_ (by omega) _ | with_reducible refine arr_set ?_ _ _ | with_reducible refine arr_alloc ?_ _ | with_reducible refine arr_drewN ?_ _))
      · exact words_append.2 ⟨how, fun u hu => by simp at hu; rw [hu]; exact hzz.2.2⟩
      · show val (seg.take (k + 1)) + BB ^ (k + 1) * (hi + bq) = val (outs ++ [z]) + G * val (vl.take (k + 1))
        rw [val_take_succ seg k x hx.out, val_take_succ vl k y hy.out, val_snoc, Hol.out, Nat.pow_succ, hi2]
        exact mulsub_arith (ht3.out.trans (by rw [hp3.out])) (by rw [← hlo3.out]; exact hzz.2.1) hval.out
    case done =>
      rintro D X hD ⟨outs, cy, bw, b0, b1, b2, b3, hra, hgr, hcy, hbw, hol, how, hval⟩ hKD
      rw [HV.out] at hra hol hval
      have Hol := Lib.hid hol
      clear hol
      have g4 := arr_cell hra (pre.length + n) (by have := Hol.out; have := HS.out; simp; omega)
      rw [seg_get pre outs seg post n n Hol.out (Nat.le_refl _) (by have := HS.out; omega), hu0.out] at g4
      have f4 := arr_frozen hra (pre.length + n)
      have tg := arr_lt hra
      have gb0 := b0.cell
      have fb0 := b0.frozen
      have tb0 := b0.lt
      have gb1 := b1.cell
      have fb1 := b1.frozen
      have tb1 := b1.lt
      have gb2 := b2.cell
      have fb2 := b2.frozen
      have tb2 := b2.lt
      have gb3 := b3.cell
      have fb3 := b3.frozen
      have tb3 := b3.lt

      have hVV := HD.out.vpos
      -- the words above: what is left of the topmost one
      have key : val seg + BB ^ n * (cy + bw) = val outs + BB ^ n * u0 + G * val vl := by
        have h := hval.out
        rw [List.take_of_length_le (Nat.le_of_eq HV.out)] at h
        have h2 := val_take_succ seg n u0 hu0.out
        rw [List.take_of_length_le (Nat.le_of_eq HS.out)] at h2
        omega
      have hob : val outs < BB ^ n := by have := val_lt how; rwa [Hol.out] at this
      have hdrop : seg.drop n = [u0] := by
        have := hu0.out
        rw [List.drop_eq_getElem_cons (by have := HS.out; omega), List.drop_of_length_le (by have := HS.out; omega)]
        rw [List.getD_eq_getElem?_getD, List.getElem?_eq_getElem (by have := HS.out; omega)] at this
        simp at this; rw [this]
      have Kkey := Lib.hid key
      have Khob := Lib.hid hob
      have Kdrop := Lib.hid hdrop
      clear key hob hdrop
      by_cases hGq : G = val seg / val vl
      · -- the guess is right
        obtain ⟨z, hz, hzz, hz4⟩ : ∃ z : Nat, u0 = z + (cy + bw) ∧ z < 4294967296 ∧ Hid (val outs + BB ^ n * z = val seg % val vl) := by
          have h1 : G * val vl + val seg % val vl = val seg := by rw [hGq, Nat.mul_comm]; exact Nat.div_add_mod _ _
          have h2 := Kkey.out
          have h3 : BB ^ n * (cy + bw) < BB ^ n * (u0 + 1) := by rw [Nat.mul_add (BB ^ n) u0 1, Nat.mul_one]; have := Khob.out; omega
          have h4 := Nat.lt_of_mul_lt_mul_left h3
          refine ⟨u0 - (cy + bw), by omega, by omega, ?_⟩
          show _ = _
          rw [Nat.mul_sub]
          have h5 : BB ^ n * (cy + bw) ≤ BB ^ n * u0 := Nat.mul_le_mul (Nat.le_refl _) (by omega)
          omega
        have w1 : IntKind.u64.wrap ((u0 : Int) - (cy : Int)) = ((z + bw : Nat) : Int) := by
          show ((u0 : Int) - (cy : Int)) % 18446744073709551616 = _
          omega
        have w2 : IntKind.u64.wrap (((z + bw : Nat) : Int) - (bw : Int)) = (z : Int) := by
          show (((z + bw : Nat) : Int) - (bw : Int)) % 18446744073709551616 = _
          omega
        have w3' : (z : Int) % 4294967296 = (z : Int) := by omega
        have w4 : (((z : Int) / 9223372036854775808) == 0) = true := by rw [beq_iff_eq]; omega
        have w5' : (G : Int) % 4294967296 = (G : Int) := by omega
        obtain ⟨zb, hzb⟩ : ∃ zb, z + bw = zb := ⟨_, rfl⟩
        rw [hzb] at w1 w2
        have Hz := Lib.hid hz
        have Hq := Lib.hid hGq
        clear hz hGq hzb
        gi_wp2
        refine wpIn_region_all (by kernel_rfl) (by kernel_rfl) (by kernel_rfl) ?_
        repeat (gi_big_quiet_step (fail))
        refine wpQuietIn_nil ?_
        intro mm
        gi_wp2
        obtain ⟨X5, hX5⟩ : ∃ X5, (X.drewN mm).setCell ⟨g, pre.length + n, none⟩ (.int .u32 (z : Int)) = X5 := ⟨_, rfl⟩
        have hst5 : Stp g X X5 := by rw [← hX5]; (repeat (first | with_reducible exact Stp.refl _ _ | with_reducible refine Stp.set ?_ (by first | (dsimp only; omega) | omega) _ | with_reducible refine Stp.alloc ?_ (by simp; omega) _ | with_reducible refine Stp.drewN ?_ _))
        have hgr5 : w.grownBy X5 (some g) := by rw [← hX5]; (repeat (first | with_reducible exact hgr | with_reducible refine grw_set ?_ (by first | exact .inl rfl | (right; dsimp only; omega)) _ | with_reducible refine grw_alloc ?_ _ | with_reducible refine grw_drewN ?_ _))
        have hra5 : Arr X5 g (pre ++ (outs ++ [z]) ++ post) := by
          rw [← hX5]
          have := arr_set (arr_drewN hra mm) (pre.length + n) z
          rw [seg_set pre outs seg post n z Hol.out (by have := HS.out; omega), List.drop_of_length_le (by have := HS.out; omega), List.append_nil] at this
          exact this
        rw [hX5]
        clear hX5
        have hK5 := hst5.keeps.same D _ hKD rfl
        refine ⟨by simp, .inl ⟨_, _, rfl, run_takeDeferred hK5, ?_⟩⟩
        refine ⟨_, results_tmp rfl _ _ _, outs ++ [z], by rw [← Hq.out]; rfl, arr_putObj hra5 _ hK5 rfl, by simp [Hol.out], words_append.2 ⟨how, fun u hu => by simp at hu; rw [hu]; exact hzz⟩, ?_, grw_put hgr5 (by omega) _⟩
        rw [val_snoc, Hol.out]; exact hz4.out
      · -- the guess is one too great
        have hG1 : G = val seg / val vl + 1 := by
          have := hq1.out
          have := hq2.out
          generalize val seg / val vl = q at *
          omega
        obtain ⟨hz, hz4⟩ : cy + bw = u0 + 1 ∧ Hid (val outs + val vl = BB ^ n + val seg % val vl) := by
          have h1 : val vl * (val seg / val vl) + val seg % val vl = val seg := Nat.div_add_mod _ _
          have h1' : G * val vl = val vl * (val seg / val vl) + val vl := by rw [hG1, Nat.add_mul, Nat.one_mul, Nat.mul_comm]
          have h2 := Kkey.out
          have h6 := Nat.mod_lt (val seg) hVV
          have h7 : val vl < BB ^ n := by have := val_lt hv.words; rwa [HV.out] at this
          have h8 := Khob.out
          have h3 : BB ^ n * u0 < BB ^ n * (cy + bw) := by omega
          have h4 := Nat.lt_of_mul_lt_mul_left h3
          have h5 : BB ^ n * (cy + bw) < BB ^ n * (u0 + 2) := by rw [Nat.mul_add (BB ^ n) u0 2]; omega
          have h9 := Nat.lt_of_mul_lt_mul_left h5
          have e : cy + bw = u0 + 1 := by omega
          refine ⟨e, ?_⟩
          show _ = _
          rw [e, Nat.mul_add (BB ^ n) u0 1] at h2
          omega
        obtain ⟨y1, w1, w2⟩ : ∃ y1 : Nat, IntKind.u64.wrap ((u0 : Int) - (cy : Int)) = (y1 : Int) ∧ IntKind.u64.wrap ((y1 : Int) - (bw : Int)) = 18446744073709551615 := by
          obtain ⟨d, hd⟩ := Int.eq_ofNat_of_zero_le (show 0 ≤ ((u0 : Int) - (cy : Int)) % 18446744073709551616 by omega)
          refine ⟨d, hd, ?_⟩
          show ((d : Int) - (bw : Int)) % 18446744073709551616 = _
          omega
        have Hz := Lib.hid hz
        have Hq := Lib.hid hG1
        clear hz hGq hG1
        gi_wp2
        refine wpIn_region_all (by kernel_rfl) (by kernel_rfl) (by kernel_rfl) ?_
        repeat (gi_big_quiet_step (fail))
        refine wpQuietIn_nil ?_
        intro mm
        gi_wp2_with (gi_at_call 66; refine (callsIn_wide.2 (limbs_calls _ _ _ _)).mono ?_; rintro e w2 ⟨rfl, rfl⟩)
        obtain ⟨X5, hX5⟩ : ∃ X5, (X.drewN mm).setCell ⟨g, pre.length + n, none⟩ (.int .u32 4294967295) = X5 := ⟨_, rfl⟩
        have hsx : X5.heap.size = X.heap.size := by rw [← hX5]; simp [World.setCell, World.drewN]
        have hst5 : Stp g X X5 := by rw [← hX5]; (repeat (first | with_reducible exact Stp.refl _ _ | with_reducible refine Stp.set ?_ (by first | (dsimp only; omega) | omega) _ | with_reducible refine Stp.alloc ?_ (by simp; omega) _ | with_reducible refine Stp.drewN ?_ _))
        have hgr5 : w.grownBy X5 (some g) := by rw [← hX5]; (repeat (first | with_reducible exact hgr | with_reducible refine grw_set ?_ (by first | exact .inl rfl | (right; dsimp only; omega)) _ | with_reducible refine grw_alloc ?_ _ | with_reducible refine grw_drewN ?_ _))
        have hra5 : Arr X5 g (pre ++ (outs ++ [4294967295]) ++ post) := by
          rw [← hX5]
          have := arr_set (arr_drewN hra mm) (pre.length + n) 4294967295
          rw [seg_set pre outs seg post n 4294967295 Hol.out (by have := HS.out; omega), List.drop_of_length_le (by have := HS.out; omega), List.append_nil] at this
          exact this
        have c0 : Boxed X5 w.heap.size 54 (.slice (some ⟨g, pre.length, none⟩) (n + 1) cu) := by rw [← hX5]; (repeat (first | with_reducible exact b0 | with_reducible exact HasBox.of b0 | with_reducible refine boxed_other ?_ (by omega) _ | with_reducible refine boxed_set _ ?_ | with_reducible refine HasBox.set ?_ _ _ | with_reducible refine HasBox.alloc ?_ _ | with_reducible refine HasBox.drewN ?_ _ | with_reducible refine Boxed.alloc ?_ _ | with_reducible refine boxed_drewN ?_ _))
        have c1 : Boxed X5 (w.heap.size + 1) 92 (.int .u64 (G : Int)) := by rw [← hX5]; (repeat (first | with_reducible exact b1 | with_reducible exact HasBox.of b1 | with_reducible refine boxed_other ?_ (by omega) _ | with_reducible refine boxed_set _ ?_ | with_reducible refine HasBox.set ?_ _ _ | with_reducible refine HasBox.alloc ?_ _ | with_reducible refine HasBox.drewN ?_ _ | with_reducible refine Boxed.alloc ?_ _ | with_reducible refine boxed_drewN ?_ _))
        rw [hX5]
        clear hX5
        have hK5 := hst5.keeps.same D _ hKD rfl
        rw [← hsx]
        have Hsx := Lib.hid hsx
        clear hsx
        obtain ⟨X7, hw3⟩ : ∃ X7, allocs X5 [.cells #[.int .u64 0] 92, .cells #[.slice (some ⟨bv, ov, none⟩) n cv] 54] = X7 := ⟨_, rfl⟩
        have hget := allocs_get X5 [.cells #[.int .u64 0] 92, .cells #[.slice (some ⟨bv, ov, none⟩) n cv] 54]
        have hs3 := allocs_stp X5 [.cells #[.int .u64 0] 92, .cells #[.slice (some ⟨bv, ov, none⟩) n cv] 54] (Nat.le_refl X5.heap.size)
        have hsz3 := allocs_size X5 [.cells #[.int .u64 0] 92, .cells #[.slice (some ⟨bv, ov, none⟩) n cv] 54]
        rw [hw3] at hget hs3 hsz3
        simp only [allocs] at hw3
        rw [hw3]
        clear hw3
        replace hsz3 : X5.heap.size + 2 ≤ X7.heap.size := by rw [hsz3]; exact Nat.le_refl _
        have hE0 : Boxed X7 X5.heap.size 92 (.int .u64 0) := hget 0 (by simp)
        have hE1 : Boxed X7 (X5.heap.size + 1) 54 (.slice (some ⟨bv, ov, none⟩) n cv) := hget 1 (by simp)
        clear hget

        have c0' : Boxed X7 w.heap.size 54 (.slice (some ⟨g, pre.length, none⟩) (n + 1) cu) := (hs3.below.block w.heap.size (by have := c0.lt; omega)).trans c0
        have c1' : Boxed X7 (w.heap.size + 1) 92 (.int .u64 (G : Int)) := (hs3.below.block (w.heap.size + 1) (by have := c1.lt; omega)).trans c1
        have hra7 : Arr X7 g (pre ++ (outs ++ [4294967295]) ++ post) := arr_below hra5 hs3.below (arr_lt hra5)
        have hgr7 : w.grownBy X7 (some g) := ⟨hs3.below.os.trans hgr5.os, hs3.below.tape.trans hgr5.tape, hs3.below.output.trans hgr5.output, by have := hgr5.size; omega, fun k hk hne => (hs3.below.block k (by have := hgr5.size; omega)).trans (hgr5.block k hk hne)⟩
        have hDX : D < X5.heap.size := (Array.getElem?_eq_some_iff.1 hK5).1
        have hK7 : X7.heap[D]? = some (.deferred (some [])) := (hs3.below.block D hDX).trans hK5
        have hvl7 : Rd X7 (some ⟨bv, ov, none⟩) vl := grw_rd hgr7 hv (fun b o e => by cases e; omega)
        have hs2l : (outs ++ [4294967295]).length = n + 1 := by simp [Hol.out]
        have ws2 : Words (outs ++ [4294967295]) := words_append.2 ⟨how, fun u hu => by simp at hu; rw [hu]; show 4294967295 < 4294967296; omega⟩
        have hs2v : val ((outs ++ [4294967295]).take n) = val outs := by rw [List.take_append_of_le_length (by rw [Hol.out]; omega), List.take_of_length_le (by rw [Hol.out]; omega)]
        have hs2n : (outs ++ [4294967295]).getD n 0 = 4294967295 := by rw [List.getD_eq_getElem?_getD, List.getElem?_append_right (by rw [Hol.out]; omega), Hol.out, Nat.sub_self]; rfl
        generalize hS2 : outs ++ [4294967295] = seg2 at *
        have HS2l := Lib.hid hs2l
        have HS2v := Lib.hid hs2v
        have HS2n := Lib.hid hs2n
        have HX5g := hgr5.size
        clear hS2 hs2l hs2v hs2n g4 f4
        refine wpIn_limbs_p (n₀ := g) (l := vl) rfl (by omega) (gf := 92) (lb := #[.pointer (some ⟨X5.heap.size + 1, 0, none⟩)]) rfl trivial (enters_of Tryz.func92 (by kernel_rfl) rfl)
          (limbs1_in _ (X5.heap.size + 1) (some ⟨bv, ov, none⟩) cv vl g X7 (by rw [HV.out]; exact hE1.cell) hvl7 (by omega) (fun b o e _ => by cases e; exact hbv)) (by omega) (Below.refl _ _) rfl
          (fun k Y => ∃ (o2 : List Nat) (s : Nat), Boxed Y w.heap.size 54 (.slice (some ⟨g, pre.length, none⟩) (n + 1) cu) ∧ Boxed Y (w.heap.size + 1) 92 (.int .u64 (G : Int)) ∧ Boxed Y X5.heap.size 92 (.int .u64 (s : Int)) ∧ Y.heap[D]? = some (.deferred (some [])) ∧
            Arr Y g (pre ++ (o2 ++ seg2.drop k) ++ post) ∧ w.grownBy Y (some g) ∧ s ≤ 1 ∧ o2.length = k ∧ Words o2 ∧ Hid (val (seg2.take k) + val (vl.take k) = val o2 + BB ^ k * s))
          ?own2 ?start2 ?round2 ?done2
        case own2 =>
          rintro k Y Z row ⟨o2, s, a0, a1, a2, a3, a4, a5, rest⟩ hg hr
          exact ⟨o2, s, boxed_ownF _ _ _ (fun _ => _) k Y Z row a0 hg hr, boxed_ownF _ _ _ (fun _ => _) k Y Z row a1 hg hr, boxed_ownF _ _ _ (fun _ => _) k Y Z row a2 hg hr, blk_ownF (by omega) k Y Z row a3 hg hr, arr_ownF _ _ (fun _ => _) k Y Z row a4 hg hr, grw_ownF (by omega) k Y Z row a5 hg hr, rest⟩
        case start2 => exact ⟨[], 0, c0', c1', hE0, hK7, by simpa using hra7, hgr7, by omega, rfl, words_nil, by simp [Hid, val]⟩
        case round2 =>
          intro k Y hk
          obtain ⟨y, hy, hyb⟩ : ∃ y, Hid (vl.getD k 0 = y) ∧ y < 4294967296 := ⟨_, rfl, words_getD hv.words k⟩
          obtain ⟨x, hx, hxb⟩ : ∃ y, Hid (seg2.getD k 0 = y) ∧ y < 4294967296 := ⟨_, rfl, words_getD ws2 k⟩
          rw [hy.out]
          have hkn : k < n := by have := HV.out; omega
          gi_wp2
          refine ⟨trivial, ?_⟩
          clear Y
          rintro Y ⟨o2, s, b0, b1, b2, hKY, hra, hgr, hs1, hol, how, hval⟩
          have Ho2 := Lib.hid hol
          clear hol
          have g4 := arr_cell hra (pre.length + k) (by have := Ho2.out; have := HS2l.out; simp; omega)
          rw [seg_get pre o2 seg2 post k k Ho2.out (Nat.le_refl _) (by have := HS2l.out; omega), hx.out] at g4
          have f4 := arr_frozen hra (pre.length + k)
          have tg := arr_lt hra
          have gb0 := b0.cell
          have fb0 := b0.frozen
          have tb0 := b0.lt
          have gb1 := b1.cell
          have fb1 := b1.frozen
          have tb1 := b1.lt
          have gb2 := b2.cell
          have fb2 := b2.frozen
          have tb2 := b2.lt

          obtain ⟨t, ht, ht2, ht3⟩ : ∃ t : Nat, (s : Int) + ((x : Int) + (y : Int)) = (t : Int) ∧ t < 18446744073709551616 ∧ Hid (t = s + (x + y)) := ⟨s + (x + y), by omega, by omega, rfl⟩
          obtain ⟨z, z1, z2⟩ : ∃ z : Nat, (t : Int) % 4294967296 = (z : Int) ∧ Hid (z = t % BB) := ⟨t % 4294967296, by omega, rfl⟩
          gi_wp2
          refine wpIn_region_tail 10 (by kernel_rfl) (by kernel_rfl) (by kernel_rfl) ?_
          simp only [List.take_succ_cons, List.take_zero, List.drop_succ_cons, List.drop_zero]
          repeat (gi_big_quiet_step (fail))
          refine wpQuietIn_nil ?_
          intro m2
          gi_wp2
          obtain ⟨hi, hi1, hi2⟩ : ∃ q : Nat, (t : Int) / 4294967296 = (q : Int) ∧ q = t / BB := ⟨t / 4294967296, by omega, rfl⟩
          rw [hi1]
          have htt := ht3.out
          have hh : hi ≤ 1 := by rw [hi2]; show t / 4294967296 ≤ 1; omega
          refine limb_end (by (repeat (first | with_reducible exact Stp.refl _ _ | with_reducible refine Stp.set ?_ (by first | (dsimp only; omega) | omega) _ | with_reducible refine Stp.alloc ?_ (by simp; omega) _ | with_reducible refine Stp.drewN ?_ _))) (fun hst => ⟨o2 ++ [z], hi, by (repeat (first | with_reducible exact b0 | with_reducible exact HasBox.of b0 | with_reducible refine boxed_other ?_ (by omega) _ | with_reducible refine boxed_set _ ?_ | with_reducible refine HasBox.set ?_ _ _ | with_reducible refine HasBox.alloc ?_ _ | with_reducible refine HasBox.drewN ?_ _ | with_reducible refine Boxed.alloc ?_ _ | with_reducible refine boxed_drewN ?_ _)), by (repeat (first | with_reducible exact b1 | with_reducible exact HasBox.of b1 | with_reducible refine boxed_other ?_ (by omega) _ | with_reducible refine boxed_set _ ?_ | with_reducible refine HasBox.set ?_ _ _ | with_reducible refine HasBox.alloc ?_ _ | with_reducible refine HasBox.drewN ?_ _ | with_reducible refine Boxed.alloc ?_ _ | with_reducible refine boxed_drewN ?_ _)), by (repeat (first | with_reducible exact b2 | with_reducible exact HasBox.of b2 | with_reducible refine boxed_other ?_ (by omega) _ | with_reducible refine boxed_set _ ?_ | with_reducible refine HasBox.set ?_ _ _ | with_reducible refine HasBox.alloc ?_ _ | with_reducible refine HasBox.drewN ?_ _ | with_reducible refine Boxed.alloc ?_ _ | with_reducible refine boxed_drewN ?_ _)), hst.keeps.same D _ hKY rfl, ?_, by (repeat (first | with_reducible exact hgr | with_reducible refine grw_set ?_ (by first | exact .inl rfl | (right; dsimp only; omega)) _ | with_reducible refine grw_alloc ?_ _ | with_reducible refine grw_drewN ?_ _)), hh, by simp [Ho2.out], ?_, ?_⟩)
          · rw [← seg_set pre o2 seg2 post k z Ho2.out (by have := HS2l.out; omega)]
            (repeat (first | with_reducible exact hra | with_reducible refine arr_other ?_ (by omega) _ | with_reducible refine arr_set ?_ _ _ | with_reducible refine arr_alloc ?_ _ | with_reducible refine arr_drewN ?_ _))
          · exact words_append.2 ⟨how, fun u hu => by simp at hu; rw [hu, z2.out]; exact Nat.mod_lt _ (by decide)⟩
          · show val (seg2.take (k + 1)) + val (vl.take (k + 1)) = val (o2 ++ [z]) + BB ^ (k + 1) * hi
            rw [z2.out, hi2, htt]
            exact (add_step hx.out hy.out Ho2.out hval.out.symm).symm
        case done2 =>
          rintro D2 Y hD2 ⟨o2, s, b0, b1, b2, hKY, hra, hgr, hs1, hol, how, hval⟩ hKD2
          rw [HV.out] at hra hol hval
          have Ho2 := Lib.hid hol
          clear hol
          have g4 := arr_cell hra (pre.length + n) (by have := Ho2.out; have := HS2l.out; simp; omega)
          rw [seg_get pre o2 seg2 post n n Ho2.out (Nat.le_refl _) (by have := HS2l.out; omega), HS2n.out] at g4
          have f4 := arr_frozen hra (pre.length + n)
          have tg := arr_lt hra
          have gb0 := b0.cell
          have fb0 := b0.frozen
          have tb0 := b0.lt
          have gb1 := b1.cell
          have fb1 := b1.frozen
          have tb1 := b1.lt
          have gb2 := b2.cell
          have fb2 := b2.frozen
          have tb2 := b2.lt

          have hob2 : val o2 < BB ^ n := by have := val_lt how; rwa [Ho2.out] at this
          have hfin : Hid (s = 1 ∧ val o2 = val seg % val vl) := by
            have h := hval.out
            rw [HS2v.out, List.take_of_length_le (Nat.le_of_eq HV.out), hz4.out] at h
            have h6 := Nat.mod_lt (val seg) hVV
            have h7 : val vl < BB ^ n := by have := val_lt hv.words; rwa [HV.out] at this
            exact fin_step hs1 h hob2 h6 h7
          obtain ⟨hs, hov⟩ := hfin.out
          subst hs
          have hov' := Lib.hid hov
          clear hov hfin hval hob2
          obtain ⟨q, q1, q2, q3⟩ : ∃ q : Nat, IntKind.u64.wrap ((G : Int) - 1) = (q : Int) ∧ Hid (q = val seg / val vl) ∧ q < 4294967296 := by
            have := Hq.out
            generalize val seg / val vl = Q at *
            refine ⟨G - 1, ?_, by show G - 1 = _; omega, by omega⟩
            show ((G : Int) - 1) % 18446744073709551616 = _
            omega
          have q4 : (q : Int) % 4294967296 = (q : Int) := by omega
          have aw : IntKind.u32.wrap (((4294967295 : Nat) : Int) + 1) = 0 := by decide
          gi_wp2
          refine wpIn_region_tail 8 (by kernel_rfl) (by kernel_rfl) (by kernel_rfl) ?_
          simp only [List.take_succ_cons, List.take_zero, List.drop_succ_cons, List.drop_zero]
          repeat (gi_big_quiet_step (fail))
          refine wpQuietIn_nil ?_
          intro m2
          gi_wp2
          obtain ⟨Y5, hY5⟩ : ∃ Y5, (Y.drewN m2).setCell ⟨g, pre.length + n, none⟩ (.int .u32 0) = Y5 := ⟨_, rfl⟩
          have hst6 : Stp g Y Y5 := by rw [← hY5]; (repeat (first | with_reducible exact Stp.refl _ _ | with_reducible refine Stp.set ?_ (by first | (dsimp only; omega) | omega) _ | with_reducible refine Stp.alloc ?_ (by simp; omega) _ | with_reducible refine Stp.drewN ?_ _))
          have hgr6 : w.grownBy Y5 (some g) := by rw [← hY5]; (repeat (first | with_reducible exact hgr | with_reducible refine grw_set ?_ (by first | exact .inl rfl | (right; dsimp only; omega)) _ | with_reducible refine grw_alloc ?_ _ | with_reducible refine grw_drewN ?_ _))
          have hra6 : Arr Y5 g (pre ++ (o2 ++ [0]) ++ post) := by
            rw [← hY5]
            have := arr_set (arr_drewN hra m2) (pre.length + n) 0
            rw [seg_set pre o2 seg2 post n 0 Ho2.out (by have := HS2l.out; omega), List.drop_of_length_le (by have := HS2l.out; omega), List.append_nil] at this
            exact this
          rw [hY5]
          clear hY5
          have hK6 := hst6.keeps.same D2 _ hKD2 rfl
          have hK6D := hst6.keeps.same D _ hKY rfl
          have hDD : D ≠ D2 := by omega
          refine ⟨by simp, .inl ⟨_, _, rfl, run_takeDeferred hK6, ?_⟩⟩
          have hK7D : (Y5.putObj D2 (.deferred none)).heap[D]? = some (.deferred (some [])) := (World.putObj_heap_other hDD).trans hK6D
          refine ⟨by simp, .inl ⟨_, _, rfl, run_takeDeferred hK7D, ?_⟩⟩
          refine ⟨_, results_tmp rfl _ _ _, o2 ++ [0], by rw [← q2.out]; rfl, arr_putObj (arr_putObj hra6 _ hK6 rfl) _ hK7D rfl, by simp [Ho2.out], words_append.2 ⟨how, fun u hu => by simp at hu; rw [hu]; decide⟩, ?_, grw_put (grw_put hgr6 (by omega) _) (by omega) _⟩
          rw [val_snoc, Nat.mul_zero, Nat.add_zero]; exact hov'.out
  have hcv2' : w.cell? ⟨bv, ov + (n - 2), none⟩ = some (.int .u32 (v2 : Int)) := hcv2
  have cv1 := hv1b
  have cv2 := hv2b
  have HR0 := Lib.hid r3
  gi_loopw [8] (fun r W => ∃ G R : Nat, r = .int .u64 (R : Int) ∧ R < 4294967296 ∧ Hid (G * v1 + R = u0 * BB + u1) ∧ Hid (val seg / val vl ≤ G) ∧ G < 18446744073709551616 ∧ Boxed W w.heap.size 54 (.slice (some ⟨g, pre.length, none⟩) (n + 1) cu) ∧ Boxed W (w.heap.size + 1) 92 (.int .u64 (G : Int)) ∧ Arr W g (pre ++ seg ++ post) ∧ w.grownBy W (some g))
    (fun r _ => (4294967296 - intOf r).toNat)
  case atStart =>
    refine ⟨G0, R0, rfl, by omega, ?_, ?_, g3, hB0, hB1, hR, hG⟩
    · show G0 * v1 + R0 = u0 * BB + u1
      rw [g2.out, r2.out, ← t2.out, Nat.mul_comm]; exact Nat.div_add_mod _ _
    · show _ ≤ G0
      rw [g2.out, t2.out]; exact HD.out.start
  case round =>
    obtain ⟨G, R, rfl, hRb, hGR, hqG, hGb, b0, b1, hra, hgr⟩ := hrel
    have hgz := hgr.size
    have x2 := arr_cell hra (pre.length + (n - 2)) (by have := HS.out; simp; omega)
    rw [show (pre ++ seg ++ post).getD (pre.length + (n - 2)) 0 = u2 by
      have := seg_get pre [] seg post 0 (n - 2) rfl (by omega) (by have := HS.out; omega)
      simp only [List.drop_zero, List.nil_append] at this
      rw [this]; exact hu2.out] at x2
    have y1 : wr.cell? ⟨bv, ov + (n - 1), none⟩ = some (.int .u32 (v1 : Int)) := (World.cell?_of_block (hgr.block bv (by omega) (by intro e; cases e; omega))).trans hcv1
    have y2 : wr.cell? ⟨bv, ov + (n - 2), none⟩ = some (.int .u32 (v2 : Int)) := (World.cell?_of_block (hgr.block bv (by omega) (by intro e; cases e; omega))).trans hcv2
    have gb0 := b0.cell
    have fb0 := b0.frozen
    have tb0 := b0.lt
    have gb1 := b1.cell
    have fb1 := b1.frozen
    have tb1 := b1.lt
    have tg := arr_lt hra
    by_cases hGB : G < 4294967296
    · obtain ⟨p, p1, p2, p3⟩ : ∃ p : Nat, (G : Int) * (v2 : Int) = (p : Int) ∧ p ≤ 18446744065119617025 ∧ Hid (p = G * v2) := ⟨G * v2, (Int.natCast_mul G v2).symm, mul_words hGB (by have := hv2b; omega), rfl⟩
      obtain ⟨t, q1, q2, q3⟩ : ∃ t : Nat, bits .or .u64 ((R : Int) * 4294967296) (u2 : Int) = (t : Int) ∧ Hid (t = R * BB + u2) ∧ t < 18446744073709551616 := by
        have e : (R : Int) * 4294967296 = ((R * 4294967296 : Nat) : Int) := by simp
        refine ⟨R * BB + u2, ?_, rfl, by show R * 4294967296 + u2 < 18446744073709551616; omega⟩
        rw [e]
        exact or_u64' u2 (R * 4294967296) 32 hu2b (by show R * 4294967296 % 4294967296 = 0; omega) (by omega) (by omega)
      have c0 : ((4294967296 : Int) ≤ (G : Int)) ↔ False := by rw [iff_false]; omega
      have c00 : ((G : Int) < 4294967296) ↔ True := by rw [iff_true]; omega
      by_cases hpt : t < p
      · have d0 : ((t : Int) < (p : Int)) ↔ True := by rw [iff_true]; omega
        have d00 : ((p : Int) ≤ (t : Int)) ↔ False := by rw [iff_false]; omega
        have hlt : Hid (val seg / val vl < G) := HD.out.dec hGR.out (by rw [← q2.out, ← p3.out]; exact hpt)
        have hG0 : 0 < G := Nat.lt_of_le_of_lt (Nat.zero_le _) hlt.out
        obtain ⟨G1, k1, k2⟩ : ∃ z : Nat, IntKind.u64.wrap ((G : Int) - 1) = (z : Int) ∧ Hid (G = z + 1) := ⟨G - 1, (show ((G : Int) - 1) % 18446744073709551616 = _ by omega), by show G = _; omega⟩
        obtain ⟨R1, m1, m2⟩ : ∃ z : Nat, (R : Int) + (v1 : Int) = (z : Int) ∧ Hid (z = R + v1) := ⟨R + v1, by omega, rfl⟩
        have m3 : R1 < 8589934592 := by have := m2.out; omega
        have hG1 : G1 * v1 + R1 = u0 * BB + u1 := by
          have h1 := hGR.out
          rw [k2.out, Nat.add_mul, Nat.one_mul] at h1
          rw [m2.out]; omega
        have hq1 : val seg / val vl ≤ G1 := by
          have h1 := k2.out
          have h2 := hlt.out
          generalize val seg / val vl = Q at *
          omega
        have hk1 : G1 < G := by have := k2.out; omega
        have HG1 := Lib.hid hG1
        have Hq1 := Lib.hid hq1
        clear hG1 hq1
        by_cases hR1 : R1 < 4294967296
        · have c1 : ((4294967296 : Int) ≤ (R1 : Int)) ↔ False := by rw [iff_false]; omega
          have c10 : ((R1 : Int) < 4294967296) ↔ True := by rw [iff_true]; omega
          gi_wp2
          refine wpIn_region_all (by kernel_rfl) (by kernel_rfl) (by kernel_rfl) ?_
          repeat (gi_big_quiet_step (fail))
          refine wpQuietIn_nil ?_
          intro mm
          gi_wp2
          refine ⟨⟨G1, R1, rfl, hR1, HG1, Hq1, by omega, by (repeat (first | with_reducible exact b0 | with_reducible exact HasBox.of b0 | with_reducible refine boxed_other ?_ (by omega) _ | with_reducible refine boxed_set _ ?_ | with_reducible refine HasBox.set ?_ _ _ | with_reducible refine HasBox.alloc ?_ _ | with_reducible refine HasBox.drewN ?_ _ | with_reducible refine Boxed.alloc ?_ _ | with_reducible refine boxed_drewN ?_ _)), by (repeat (first | with_reducible exact b1 | with_reducible exact HasBox.of b1 | with_reducible refine boxed_other ?_ (by omega) _ | with_reducible refine boxed_set _ ?_ | with_reducible refine HasBox.set ?_ _ _ | with_reducible refine HasBox.alloc ?_ _ | with_reducible refine HasBox.drewN ?_ _ | with_reducible refine Boxed.alloc ?_ _ | with_reducible refine boxed_drewN ?_ _)), by (repeat (first | with_reducible exact hra | with_reducible refine arr_other ?_ (by omega) _ | with_reducible refine arr_set ?_ _ _ | with_reducible refine arr_alloc ?_ _ | with_reducible refine arr_drewN ?_ _)), by (repeat (first | with_reducible exact hgr | with_reducible refine grw_set ?_ (by first | exact .inl rfl | (right; dsimp only; omega)) _ | with_reducible refine grw_alloc ?_ _ | with_reducible refine grw_drewN ?_ _))⟩, ?_⟩
          simp only [intOf]
          have := m2.out
          have := hv1p
          omega
        · have hb := Lib.hid (HD.out.broke HG1.out (by show 4294967296 ≤ R1; omega))
          have c1 : ((4294967296 : Int) ≤ (R1 : Int)) ↔ True := by rw [iff_true]; omega
          have c10 : ((R1 : Int) < 4294967296) ↔ False := by rw [iff_false]; omega
          gi_wp2
          refine wpIn_region_all (by kernel_rfl) (by kernel_rfl) (by kernel_rfl) ?_
          repeat (gi_big_quiet_step (fail))
          refine wpQuietIn_nil ?_
          intro mm
          gi_wp2
          have hb1 : G1 < 4294967296 := hb.out.1
          have hb2 : Hid (G1 ≤ val seg / val vl + 1) := hb.out.2
          exact hrest G1 _ _ _ _ _ _ _ _ _ _ _ _ _ _ _ _ _ _ _ _ _ _ _ _ _ _ _ _ _ _ _ _ _ _ _ _ _ _ _ _ _ _ _ _ _ _ _ _ _ _ _ _ _ _ _ _ _ _ _ _ _ _ _ _ _ _ _ _ _ _ _ _ _ _ _ _ _ _ _ _ _ _ _ _ _ _ _ _ _ _ _ _ _ _ _ _ _ _ _ _ _ _ _ _ _ _ _ _ _ _ _ _ _ _ _ _ _ _ _ _ _ _ _ _ _ _ _ _ _ _ _ _ _ _ _ _ _ _ _ _ _ _ _ _ _ _ _ _ _ _ _ _ _ _ _ _ _ _ _ Hq1 hb2 hb1 (by (repeat (first | with_reducible exact b0 | with_reducible exact HasBox.of b0 | with_reducible refine boxed_other ?_ (by omega) _ | with_reducible refine boxed_set _ ?_ | with_reducible refine HasBox.set ?_ _ _ | with_reducible refine HasBox.alloc ?_ _ | with_reducible refine HasBox.drewN ?_ _ | with_reducible refine Boxed.alloc ?_ _ | with_reducible refine boxed_drewN ?_ _))) (by (repeat (first | with_reducible exact b1 | with_reducible exact HasBox.of b1 | with_reducible refine boxed_other ?_ (by omega) _ | with_reducible refine boxed_set _ ?_ | with_reducible refine HasBox.set ?_ _ _ | with_reducible refine HasBox.alloc ?_ _ | with_reducible refine HasBox.drewN ?_ _ | with_reducible refine Boxed.alloc ?_ _ | with_reducible refine boxed_drewN ?_ _))) (by (repeat (first | with_reducible exact hra | with_reducible refine arr_other ?_ (by omega) _ | with_reducible refine arr_set ?_ _ _ | with_reducible refine arr_alloc ?_ _ | with_reducible refine arr_drewN ?_ _))) (by (repeat (first | with_reducible exact hgr | with_reducible refine grw_set ?_ (by first | exact .inl rfl | (right; dsimp only; omega)) _ | with_reducible refine grw_alloc ?_ _ | with_reducible refine grw_drewN ?_ _)))
      · have d0 : ((t : Int) < (p : Int)) ↔ False := by rw [iff_false]; omega
        have d00 : ((p : Int) ≤ (t : Int)) ↔ True := by rw [iff_true]; omega
        have hb2 : Hid (G ≤ val seg / val vl + 1) := HD.out.good hGR.out hGB (by rw [← q2.out, ← p3.out]; omega)
        gi_wp2
        refine wpIn_region_all (by kernel_rfl) (by kernel_rfl) (by kernel_rfl) ?_
        repeat (gi_big_quiet_step (fail))
        refine wpQuietIn_nil ?_
        intro mm
        gi_wp2
        exact hrest G _ _ _ _ _ _ _ _ _ _ _ _ _ _ _ _ _ _ _ _ _ _ _ _ _ _ _ _ _ _ _ _ _ _ _ _ _ _ _ _ _ _ _ _ _ _ _ _ _ _ _ _ _ _ _ _ _ _ _ _ _ _ _ _ _ _ _ _ _ _ _ _ _ _ _ _ _ _ _ _ _ _ _ _ _ _ _ _ _ _ _ _ _ _ _ _ _ _ _ _ _ _ _ _ _ _ _ _ _ _ _ _ _ _ _ _ _ _ _ _ _ _ _ _ _ _ _ _ _ _ _ _ _ _ _ _ _ _ _ _ _ _ _ _ _ _ _ _ _ _ _ _ _ _ _ _ _ _ _ hqG hb2 hGB (by (repeat (first | with_reducible exact b0 | with_reducible exact HasBox.of b0 | with_reducible refine boxed_other ?_ (by omega) _ | with_reducible refine boxed_set _ ?_ | with_reducible refine HasBox.set ?_ _ _ | with_reducible refine HasBox.alloc ?_ _ | with_reducible refine HasBox.drewN ?_ _ | with_reducible refine Boxed.alloc ?_ _ | with_reducible refine boxed_drewN ?_ _))) (by (repeat (first | with_reducible exact b1 | with_reducible exact HasBox.of b1 | with_reducible refine boxed_other ?_ (by omega) _ | with_reducible refine boxed_set _ ?_ | with_reducible refine HasBox.set ?_ _ _ | with_reducible refine HasBox.alloc ?_ _ | with_reducible refine HasBox.drewN ?_ _ | with_reducible refine Boxed.alloc ?_ _ | with_reducible refine boxed_drewN ?_ _))) (by (repeat (first | with_reducible exact hra | with_reducible refine arr_other ?_ (by omega) _ | with_reducible refine arr_set ?_ _ _ | with_reducible refine arr_alloc ?_ _ | with_reducible refine arr_drewN ?_ _))) (by (repeat (first | with_reducible exact hgr | with_reducible refine grw_set ?_ (by first | exact .inl rfl | (right; dsimp only; omega)) _ | with_reducible refine grw_alloc ?_ _ | with_reducible refine grw_drewN ?_ _)))
    · have c0 : ((4294967296 : Int) ≤ (G : Int)) ↔ True := by rw [iff_true]; omega
      have c00 : ((G : Int) < 4294967296) ↔ False := by rw [iff_false]; omega
      have hlt : Hid (val seg / val vl < G) := by
        have h1 := HD.out.q_lt
        show _ < _
        exact Nat.lt_of_lt_of_le h1 (by show 4294967296 ≤ G; omega)
      obtain ⟨G1, k1, k2⟩ : ∃ z : Nat, IntKind.u64.wrap ((G : Int) - 1) = (z : Int) ∧ Hid (G = z + 1) := ⟨G - 1, (show ((G : Int) - 1) % 18446744073709551616 = _ by omega), by show G = _; omega⟩
      obtain ⟨R1, m1, m2⟩ : ∃ z : Nat, (R : Int) + (v1 : Int) = (z : Int) ∧ Hid (z = R + v1) := ⟨R + v1, by omega, rfl⟩
      have m3 : R1 < 8589934592 := by have := m2.out; omega
      have hG1 : G1 * v1 + R1 = u0 * BB + u1 := by
        have h1 := hGR.out
        rw [k2.out, Nat.add_mul, Nat.one_mul] at h1
        rw [m2.out]; omega
      have hq1 : val seg / val vl ≤ G1 := by
        have h1 := k2.out
        have h2 := hlt.out
        generalize val seg / val vl = Q at *
        omega
      have hk1 : G1 < G := by have := k2.out; omega
      have HG1 := Lib.hid hG1
      have Hq1 := Lib.hid hq1
      clear hG1 hq1
      by_cases hR1 : R1 < 4294967296
      · have c1 : ((4294967296 : Int) ≤ (R1 : Int)) ↔ False := by rw [iff_false]; omega
        have c10 : ((R1 : Int) < 4294967296) ↔ True := by rw [iff_true]; omega
        gi_wp2
        refine wpIn_region_all (by kernel_rfl) (by kernel_rfl) (by kernel_rfl) ?_
        repeat (gi_big_quiet_step (fail))
        refine wpQuietIn_nil ?_
        intro mm
        gi_wp2
        refine ⟨⟨G1, R1, rfl, hR1, HG1, Hq1, by omega, by (repeat (first | with_reducible exact b0 | with_reducible exact HasBox.of b0 | with_reducible refine boxed_other ?_ (by omega) _ | with_reducible refine boxed_set _ ?_ | with_reducible refine HasBox.set ?_ _ _ | with_reducible refine HasBox.alloc ?_ _ | with_reducible refine HasBox.drewN ?_ _ | with_reducible refine Boxed.alloc ?_ _ | with_reducible refine boxed_drewN ?_ _)), by (repeat (first | with_reducible exact b1 | with_reducible exact HasBox.of b1 | with_reducible refine boxed_other ?_ (by omega) _ | with_reducible refine boxed_set _ ?_ | with_reducible refine HasBox.set ?_ _ _ | with_reducible refine HasBox.alloc ?_ _ | with_reducible refine HasBox.drewN ?_ _ | with_reducible refine Boxed.alloc ?_ _ | with_reducible refine boxed_drewN ?_ _)), by (repeat (first | with_reducible exact hra | with_reducible refine arr_other ?_ (by omega) _ | with_reducible refine arr_set ?_ _ _ | with_reducible refine arr_alloc ?_ _ | with_reducible refine arr_drewN ?_ _)), by (repeat (first | with_reducible exact hgr | with_reducible refine grw_set ?_ (by first | exact .inl rfl | (right; dsimp only; omega)) _ | with_reducible refine grw_alloc ?_ _ | with_reducible refine grw_drewN ?_ _))⟩, ?_⟩
        simp only [intOf]
        have := m2.out
        have := hv1p
        omega
      · have hb := Lib.hid (HD.out.broke HG1.out (by show 4294967296 ≤ R1; omega))
        have c1 : ((4294967296 : Int) ≤ (R1 : Int)) ↔ True := by rw [iff_true]; omega
        have c10 : ((R1 : Int) < 4294967296) ↔ False := by rw [iff_false]; omega
        gi_wp2
        refine wpIn_region_all (by kernel_rfl) (by kernel_rfl) (by kernel_rfl) ?_
        repeat (gi_big_quiet_step (fail))
        refine wpQuietIn_nil ?_
        intro mm
        gi_wp2
        have hb1 : G1 < 4294967296 := hb.out.1
        have hb2 : Hid (G1 ≤ val seg / val vl + 1) := hb.out.2
        exact hrest G1 _ _ _ _ _ _ _ _ _ _ _ _ _ _ _ _ _ _ _ _ _ _ _ _ _ _ _ _ _ _ _ _ _ _ _ _ _ _ _ _ _ _ _ _ _ _ _ _ _ _ _ _ _ _ _ _ _ _ _ _ _ _ _ _ _ _ _ _ _ _ _ _ _ _ _ _ _ _ _ _ _ _ _ _ _ _ _ _ _ _ _ _ _ _ _ _ _ _ _ _ _ _ _ _ _ _ _ _ _ _ _ _ _ _ _ _ _ _ _ _ _ _ _ _ _ _ _ _ _ _ _ _ _ _ _ _ _ _ _ _ _ _ _ _ _ _ _ _ _ _ _ _ _ _ _ _ _ _ _ Hq1 hb2 hb1 (by (repeat (first | with_reducible exact b0 | with_reducible exact HasBox.of b0 | with_reducible refine boxed_other ?_ (by omega) _ | with_reducible refine boxed_set _ ?_ | with_reducible refine HasBox.set ?_ _ _ | with_reducible refine HasBox.alloc ?_ _ | with_reducible refine HasBox.drewN ?_ _ | with_reducible refine Boxed.alloc ?_ _ | with_reducible refine boxed_drewN ?_ _))) (by (repeat (first | with_reducible exact b1 | with_reducible exact HasBox.of b1 | with_reducible refine boxed_other ?_ (by omega) _ | with_reducible refine boxed_set _ ?_ | with_reducible refine HasBox.set ?_ _ _ | with_reducible refine HasBox.alloc ?_ _ | with_reducible refine HasBox.drewN ?_ _ | with_reducible refine Boxed.alloc ?_ _ | with_reducible refine boxed_drewN ?_ _))) (by (repeat (first | with_reducible exact hra | with_reducible refine arr_other ?_ (by omega) _ | with_reducible refine arr_set ?_ _ _ | with_reducible refine arr_alloc ?_ _ | with_reducible refine arr_drewN ?_ _))) (by (repeat (first | with_reducible exact hgr | with_reducible refine grw_set ?_ (by first | exact .inl rfl | (right; dsimp only; omega)) _ | with_reducible refine grw_alloc ?_ _ | with_reducible refine grw_drewN ?_ _)))
end Nm
end Go.Proofs.YtlhmbbpkhahbeaaGreatDoor
namespace Go.Proofs.YtlhmbbpkhahbeaaGreatDoor
namespace Nm
theorem blen_pos {x : Nat} (h : x ≠ 0) : 0 < blen x := by unfold blen; rw [if_neg h]; omega
/-- the shifted divisor has as many limbs as before -/
theorem shift_length {l : List Nat} (h : Canon l) (hl : 0 < l.length) : (lim (val l * 2 ^ (32 - blen (l.getD (l.length - 1) 0)))).length = l.length := by
  have hb := blen_val h hl
  have hw := blen_word (words_getD h.1 (l.length - 1))
  have h1 := blen_lt (val l)
  generalize l.getD (l.length - 1) 0 = x at *
  refine Nat.le_antisymm (length_le_of_lt ?_) ?_
  · rw [pow_BB, show 32 * l.length = blen (val l) + (32 - blen x) by omega, Nat.pow_add]
    exact Nat.mul_lt_mul_of_pos_right h1 (Nat.two_pow_pos _)
  · have := length_mono (show val l ≤ val l * 2 ^ (32 - blen x) from Nat.le_mul_of_pos_right _ (Nat.two_pow_pos _))
    rwa [lim_val h] at this
theorem shift_length_le {l : List Nat} (h : Canon l) {k : Nat} (hk : k < 32) : (lim (val l * 2 ^ k)).length ≤ l.length + 1 := by
  refine length_le_of_lt ?_
  rw [Nat.pow_succ]
  exact Nat.mul_lt_mul'' (val_lt h.1) (by
    have := Nat.pow_lt_pow_right (show 1 < 2 by decide) hk
    exact this)
theorem shift_length_ge {l : List Nat} (h : Canon l) (k : Nat) : l.length ≤ (lim (val l * 2 ^ k)).length := by
  have := length_mono (show val l ≤ val l * 2 ^ k from Nat.le_mul_of_pos_right _ (Nat.two_pow_pos _))
  rwa [lim_val h] at this
theorem val_pos_length {l : List Nat} (h : 0 < val l) : 0 < l.length := by
  rcases Nat.eq_zero_or_pos l.length with h0 | h0
  · obtain rfl : l = [] := List.length_eq_zero_iff.1 h0
    simp [val] at h
  · exact h0
theorem canon_top {l : List Nat} (h : Canon l) (hl : 0 < l.length) : l.getD (l.length - 1) 0 ≠ 0 := by
  have hne : l ≠ [] := by rintro rfl; simp at hl
  have ht : l.getD (l.length - 1) 0 = l.getLast hne := by rw [List.getLast_eq_getElem, List.getD_eq_getElem?_getD, List.getElem?_eq_getElem (by omega)]; rfl
  rw [ht]; exact h.2 hne
/-- the topmost part of the shifted number is less than the shifted divisor -/
theorem div_start {a b ul : List Nat} {k n m : Nat} (ha : Words a) (hb : Canon b) (hn : b.length = n) (hm : a.length = m) (h0 : 0 < n) (hnm : n ≤ m) (hu : val ul = val a * 2 ^ k) (hul : ul.length = m + 1) :
    val (ul.drop (m + 1 - n)) < val b * 2 ^ k := by
  have e := List.take_append_drop (m + 1 - n) ul
  have h1 : val ul = val (ul.take (m + 1 - n)) + BB ^ (m + 1 - n) * val (ul.drop (m + 1 - n)) := by
    conv => lhs; rw [← e]
    rw [val_append, List.length_take, Nat.min_eq_left (by omega)]
  have h2 : BB ^ (n - 1) ≤ val b := by
    have := pow_le_of_length (n := val b) (k := n - 1) (by rw [lim_val hb]; omega)
    exact this
  have h3 := val_lt ha
  rw [hm] at h3
  have h4 : BB ^ m = BB ^ (m + 1 - n) * BB ^ (n - 1) := by rw [← Nat.pow_add]; congr 1; omega
  have h5 : BB ^ (m + 1 - n) * val (ul.drop (m + 1 - n)) < BB ^ (m + 1 - n) * (val b * 2 ^ k) := by
    have h6 : val a * 2 ^ k < BB ^ m * 2 ^ k := Nat.mul_lt_mul_of_pos_right h3 (Nat.two_pow_pos _)
    have h7 : BB ^ m * 2 ^ k ≤ BB ^ (m + 1 - n) * (val b * 2 ^ k) := by
      rw [h4, Nat.mul_assoc]
      exact Nat.mul_le_mul (Nat.le_refl _) (Nat.mul_le_mul h2 (Nat.le_refl _))
    rw [hu] at h1
    generalize val (ul.take (m + 1 - n)) = X at *
    generalize BB ^ (m + 1 - n) * val (ul.drop (m + 1 - n)) = Y at *
    generalize val a * 2 ^ k = Z at *
    omega
  exact Nat.lt_of_mul_lt_mul_left h5
/-- the parts of the number at one step -/
structure DivAt (ul pre seg post : List Nat) (k n V : Nat) : Prop where
  parts : ul = pre ++ seg ++ post
  hpre : pre.length = k
  hseg : seg.length = n + 1
  hpost : val post = 0
  hval : val seg = ul.getD k 0 + BB * val (ul.drop (k + 1))
  hlt : val seg < BB * V
  hpre' : pre = ul.take k
theorem div_at {ul : List Nat} {k n V : Nat} (hw : Words ul) (hl : k + n + 1 ≤ ul.length) (hlt : val (ul.drop (k + 1)) < V) (hV : V ≤ BB ^ n) :
    DivAt ul (ul.take k) ((ul.drop k).take (n + 1)) ((ul.drop k).drop (n + 1)) k n V := by
  have hcons : ul.drop k = ul.getD k 0 :: ul.drop (k + 1) := by
    rw [List.drop_eq_getElem_cons (by omega), List.getD_eq_getElem?_getD, List.getElem?_eq_getElem (by omega)]; rfl
  have hp : val ((ul.drop (k + 1)).drop n) = 0 := by
    have e := List.take_append_drop n (ul.drop (k + 1))
    have h1 : val (ul.drop (k + 1)) = val ((ul.drop (k + 1)).take n) + BB ^ n * val ((ul.drop (k + 1)).drop n) := by
      conv => lhs; rw [← e]
      rw [val_append, List.length_take, Nat.min_eq_left (by simp; omega)]
    rcases Nat.eq_zero_or_pos (val ((ul.drop (k + 1)).drop n)) with h0 | h0
    · exact h0
    · have := Nat.mul_le_mul (Nat.le_refl (BB ^ n)) h0
      rw [Nat.mul_one] at this
      generalize val ((ul.drop (k + 1)).drop n) = X at *
      generalize val ((ul.drop (k + 1)).take n) = Y at *
      generalize val (ul.drop (k + 1)) = Z at *
      generalize BB ^ n * X = W at *
      omega
  have hs : val ((ul.drop k).take (n + 1)) = ul.getD k 0 + BB * val (ul.drop (k + 1)) := by
    rw [hcons, List.take_succ_cons]
    show _ + BB * _ = _
    have e := List.take_append_drop n (ul.drop (k + 1))
    have h1 : val (ul.drop (k + 1)) = val ((ul.drop (k + 1)).take n) + BB ^ n * val ((ul.drop (k + 1)).drop n) := by
      conv => lhs; rw [← e]
      rw [val_append, List.length_take, Nat.min_eq_left (by simp; omega)]
    rw [h1, hp, Nat.mul_zero]
    rfl
  refine ⟨?_, by simp; omega, by simp; omega, ?_, hs, ?_, rfl⟩
  · rw [List.append_assoc, List.take_append_drop, List.take_append_drop]
  · rw [hcons, List.drop_succ_cons]; exact hp
  · rw [hs]
    have h1 := words_getD hw k
    have h2 := Nat.mul_le_mul (Nat.le_refl BB) hlt
    rw [Nat.mul_succ] at h2
    generalize val (ul.drop (k + 1)) = Z at *
    generalize ul.getD k 0 = X at *
    omega
theorem DivAt.after {ul pre seg post seg' : List Nat} {k n V : Nat} (h : DivAt ul pre seg post k n V) (_hl : seg'.length = n + 1) : val ((pre ++ seg' ++ post).drop k) = val seg' := by
  rw [List.append_assoc, List.drop_append_of_le_length (by rw [h.hpre]; exact Nat.le_refl _), List.drop_of_length_le (by rw [h.hpre]; exact Nat.le_refl _), List.nil_append, val_append, h.hpost, Nat.mul_zero, Nat.add_zero]
theorem DivAt.take {ul pre seg post seg' : List Nat} {k n V : Nat} (h : DivAt ul pre seg post k n V) : (pre ++ seg' ++ post).take k = ul.take k := by
  rw [List.append_assoc, List.take_append_of_le_length (by rw [h.hpre]; exact Nat.le_refl _), h.hpre', List.take_take, Nat.min_self]
/-- one step of the division -/
theorem div_step {u0 ul pre seg post qs : List Nat} {k n V r : Nat} (h : DivAt ul pre seg post k n V) (hd : val (u0.drop (k + 1)) = V * val qs + val (ul.drop (k + 1))) (hx : u0.getD k 0 = ul.getD k 0) (hk : k < u0.length) (hr : r = val seg % V) :
    val (u0.drop k) = V * val ((val seg / V) :: qs) + r := by
  have hcons : u0.drop k = u0.getD k 0 :: u0.drop (k + 1) := by
    rw [List.drop_eq_getElem_cons (by omega), List.getD_eq_getElem?_getD, List.getElem?_eq_getElem (by omega)]; rfl
  have h1 := h.hval
  have h2 := Nat.div_add_mod (val seg) V
  rw [hcons]
  show u0.getD k 0 + BB * val (u0.drop (k + 1)) = V * (val seg / V + BB * val qs) + r
  rw [hx, hd, Nat.mul_add, Nat.mul_add, Nat.mul_left_comm V BB, hr]
  generalize val seg / V = q at *
  generalize val seg % V = s at *
  generalize V * q = p at *
  generalize BB * (V * val qs) = p2 at *
  generalize BB * val (ul.drop (k + 1)) = p3 at *
  omega
/-- the end of the division -/
theorem div_end {a b U V Q R k : Nat} (hU : U = a * 2 ^ k) (hV : V = b * 2 ^ k) (_hb : 0 < b) (h : U = V * Q + R) (hR : R < V) : Q = a / b ∧ R / 2 ^ k = a % b ∧ R < V := by
  have hp := Nat.two_pow_pos k
  have hq : Q = a / b := by
    have : Q = U / V := by rw [h, Nat.add_comm, Nat.add_mul_div_left _ _ (by omega), Nat.div_eq_of_lt hR, Nat.zero_add]
    rw [this, hU, hV, Nat.mul_div_mul_right _ _ hp]
  refine ⟨hq, ?_, hR⟩
  have hr : R = U % V := by rw [h, Nat.mul_add_mod, Nat.mod_eq_of_lt hR]
  rw [hr, hU, hV, Nat.mul_mod_mul_right, Nat.mul_div_cancel _ hp]
end Nm
end Go.Proofs.YtlhmbbpkhahbeaaGreatDoor
namespace Go.Proofs.YtlhmbbpkhahbeaaGreatDoor
namespace Nm
open Go.RowKit Go.Shelf Go.BigFrame
attribute [local go_sem] Oper.semAt_some
/-- a function's two magnitudes -/
def RetDiv (q r : Nat) (w : World) (e : Ending) (w' : World) : Prop :=
  ∃ A c B d, e = .returned (.tuple #[.slice A (lim q).length c, .slice B (lim r).length d]) ∧ (lim q).length ≤ c ∧ (lim r).length ≤ d ∧ Rd w' A (lim q) ∧ Rd w' B (lim r) ∧ Below w.heap.size w w'
/-- a magnitude that is handed back, spelled out -/
theorem RetNat.out {n : Nat} {w : World} {e : Ending} {w' : World} {l : List Nat} {k : Nat} (h : RetNat n w e w') (hl : lim n = l) (hk : l.length = k) :
    ∃ A c, e = .returned (.slice A k c) ∧ k ≤ c ∧ Rd w' A l ∧ Below w.heap.size w w' := by
  subst hl hk; exact h
def slen : Value → Nat
  | .slice _ n _ => n
  | _ => 0
set_option maxRecDepth 100000 in
set_option maxHeartbeats 2000000 in
theorem div_less (A1 A2 : Option Addr) (c1 c2 : Nat) (l1 l2 : List Nat) (w : World) (h1 : Rd w A1 l1) (h2 : Rd w A2 l2) (hc1 : l1.length ≤ c1) (hc2 : l2.length ≤ c2) (k1 : Canon l1) (k2 : Canon l2)
    (hlt : val l1 < val l2) :
    Calls Tryz.prog 51 #[.slice A1 l1.length c1, .slice A2 l2.length c2] w (RetDiv (val l1 / val l2) (val l1 % val l2) w) := by
  have hc := compare_calls A1 A2 c1 c2 l1 l2 w h1 h2 hc1 hc2 k1 k2
  rw [show cmpZ (val l1 : Int) (val l2 : Int) = -1 from by unfold cmpZ; rw [if_pos (by omega)]] at hc
  have e1 : lim (val l1 / val l2) = [] := by rw [Nat.div_eq_of_lt hlt, lim_zero]
  have e2 : lim (val l1 % val l2) = l1 := by rw [Nat.mod_eq_of_lt hlt, lim_val k1]
  go_enter Tryz.func51, Tryz.ntmps51
  go_wp2_with (go_at_call 62; refine hc.mono ?_; rintro e w' ⟨rfl, nn, rfl⟩)
  go_ret2
  unfold RetDiv
  rw [e1, e2]
  exact ⟨none, 0, A1, c1, rfl, by simp, hc1, Rd.nil _ _, h1.below (below_drewN (Below.refl _ _) nn) rfl, below_drewN (Below.refl _ _) nn⟩
set_option maxRecDepth 100000 in
set_option maxHeartbeats 2000000 in
theorem div_one (A1 A2 : Option Addr) (c1 c2 : Nat) (l1 : List Nat) (b : Nat) (w : World) (h1 : Rd w A1 l1) (h2 : Rd w A2 [b]) (hc1 : l1.length ≤ c1) (hc2 : 1 ≤ c2) (k1 : Canon l1) (k2 : Canon [b])
    (hge : val [b] ≤ val l1) (hsm : l1.length ≤ 1048576) :
    Calls Tryz.prog 51 #[.slice A1 l1.length c1, .slice A2 1 c2] w (RetDiv (val l1 / val [b]) (val l1 % val [b]) w) := by
  have hc := compare_calls A1 A2 c1 c2 l1 [b] w h1 h2 hc1 hc2 k1 k2
  obtain ⟨z, hz⟩ : ∃ z : Nat, cmpZ (val l1 : Int) (val [b] : Int) = (z : Int) := by
    unfold cmpZ; rw [if_neg (by omega)]; split
    · exact ⟨1, rfl⟩
    · exact ⟨0, rfl⟩
  rw [hz] at hc
  have hb : 0 < b := by have := canon_top k2 (by simp); simpa using Nat.pos_of_ne_zero this
  have hbb : b < 4294967296 := k2.1 b (by simp)
  have hvb : val [b] = b := by show b + BB * 0 = b; rw [Nat.mul_zero, Nat.add_zero]
  rw [hvb]
  rw [hvb] at hge
  have hz0 : ((z : Int) < 0) ↔ False := by rw [iff_false]; omega
  obtain ⟨bb, o, x, rfl, hcx, hx, hxb⟩ := h2.get 0 (by simp)
  have hxx : x = b := hx.out.symm
  subst hxx
  have hcx' : ∀ nn, (w.drewN nn).cell? ⟨bb, o, none⟩ = some (.int .u32 (x : Int)) := fun nn => hcx
  have hs : ∀ nn, Calls Tryz.prog 27 #[.slice A1 l1.length c1, .int .u32 (x : Int)] (w.drewN nn) (Ret2 (val l1 / x) (val l1 % x) (w.drewN nn)) := fun nn =>
    small_calls A1 c1 x l1 (w.drewN nn) (h1.below (below_drewN (Below.refl _ _) nn) rfl) hc1 hb hbb hsm
  have hr : val l1 % x < 4294967296 := Nat.lt_trans (Nat.mod_lt _ hb) hbb
  obtain ⟨r, hrr⟩ : ∃ r, val l1 % x = r := ⟨_, rfl⟩
  obtain ⟨q, hqq⟩ : ∃ q, val l1 / x = q := ⟨_, rfl⟩
  rw [hrr] at hr
  rw [hrr, hqq]
  simp only [hrr, hqq] at hs
  have hvr : lim r = trim [r] := by unfold trim; show _ = lim (r + BB * 0); rw [Nat.mul_zero, Nat.add_zero]
  go_enter Tryz.func51, Tryz.ntmps51
  go_wp2_with first
    | (go_at_call 62; refine hc.mono ?_; rintro e w' ⟨rfl, nn, rfl⟩)
    | (go_at_call 27; refine (hs _).mono ?_; rintro e w' ⟨Aq, cq, rfl, hq1, hq2, hq3⟩)
    | (go_at_call 63; refine (trim_calls (some ⟨w'.heap.size, 0, none⟩) 1 [r] _ (arr_rd (arr_new w' [r]) (by intro u hu; simp at hu; rw [hu]; exact hr) (by simp)) (by simp)).mono ?_; rintro e w2 ⟨rfl, rfl⟩)
  go_ret2
  have hrd := arr_rd (arr_new w' [r]) (by intro u hu; simp at hu; rw [hu]; exact hr) (by simp)
  have htl := trim_length_le (l := [r]) (by intro u hu; simp at hu; rw [hu]; exact hr)
  unfold RetDiv
  rw [hvr]
  have hb0 := (below_drewN (Below.refl w.heap.size w) nn).trans hq3
  exact ⟨_, _, _, _, rfl, hq1, by simpa using htl, hq2.below ((Below.refl w'.heap.size w').alloc (Nat.le_refl _) _) rfl, hrd.trim, hb0.alloc hb0.size _⟩
theorem own_empty (w : World) (base g : Nat) (h : w.heap[g]? = some (.cells #[] 50 (0, 0))) (hb : base ≤ g) : w.ownsRow base 50 1 (.slice (some ⟨g, 0, none⟩) 0 0) 0 (wvals []) :=
  ⟨rfl, .inr ⟨g, 0, #[], rfl, hb, h, Nat.le_refl _, by decide, rfl, rfl⟩⟩
set_option maxRecDepth 100000 in
set_option maxHeartbeats 4000000 in
theorem div_long (A1 A2 : Option Addr) (c1 c2 : Nat) (l1 l2 : List Nat) (w : World) (h1 : Rd w A1 l1) (h2 : Rd w A2 l2) (hc1 : l1.length ≤ c1) (hc2 : l2.length ≤ c2) (k1 : Canon l1) (k2 : Canon l2)
    (hge : val l2 ≤ val l1) (hn2 : 2 ≤ l2.length) (hsm : l1.length ≤ 65536) :
    Calls Tryz.prog 51 #[.slice A1 l1.length c1, .slice A2 l2.length c2] w (RetDiv (val l1 / val l2) (val l1 % val l2) w) := by
  have hc := compare_calls A1 A2 c1 c2 l1 l2 w h1 h2 hc1 hc2 k1 k2
  obtain ⟨z, hz⟩ : ∃ z : Nat, cmpZ (val l1 : Int) (val l2 : Int) = (z : Int) := by
    unfold cmpZ; rw [if_neg (by omega)]; split
    · exact ⟨1, rfl⟩
    · exact ⟨0, rfl⟩
  rw [hz] at hc
  have hz0 : ((z : Int) < 0) ↔ False := by rw [iff_false]; omega
  have hnm : l2.length ≤ l1.length := by
    have := length_mono hge
    rwa [lim_val k1, lim_val k2] at this
  have hpos : 0 < val l2 := val_pos_of_canon k2 (by rintro rfl; simp at hn2)
  obtain ⟨n, hn⟩ : ∃ n, l2.length = n := ⟨_, rfl⟩
  obtain ⟨m, hm⟩ : ∃ m, l1.length = m := ⟨_, rfl⟩
  obtain ⟨bb, o, x, rfl, hcx, hx, hxb⟩ := h2.get (l2.length - 1) (by omega)
  have hx0 : x ≠ 0 := by rw [← hx.out]; exact canon_top k2 (by omega)
  have hbp := blen_pos hx0
  have hbw := blen_word hxb
  obtain ⟨k, hk, hk32, hkk⟩ : ∃ k : Nat, (32 : Int) - (blen x : Int) = (k : Int) ∧ k < 32 ∧ Hid (k = 32 - blen x) := ⟨32 - blen x, by omega, by omega, rfl⟩
  have hvl := shift_length k2 (by omega)
  rw [hx.out, ← hkk.out, hn] at hvl
  have hul1 := shift_length_le k1 hk32
  have hul2 := shift_length_ge k1 k
  obtain ⟨V, hV⟩ : ∃ V, val l2 * 2 ^ k = V := ⟨_, rfl⟩
  obtain ⟨U, hU⟩ : ∃ U, val l1 * 2 ^ k = U := ⟨_, rfl⟩
  have hVp : 0 < V := by rw [← hV]; exact Nat.mul_pos hpos (Nat.two_pow_pos _)
  rw [hV] at hvl
  rw [hU, hm] at hul1 hul2
  obtain ⟨vl, hvv⟩ : ∃ vl, lim V = vl := ⟨_, rfl⟩
  obtain ⟨ul0, huu⟩ : ∃ ul, lim U = ul := ⟨_, rfl⟩
  obtain ⟨mu, hmu⟩ : ∃ mu, ul0.length = mu := ⟨_, rfl⟩
  rw [hvv] at hvl
  rw [huu, hmu] at hul1 hul2
  have hs2 : ∀ w', Below w.heap.size w w' → Calls Tryz.prog 81 #[.slice (some ⟨bb, o, none⟩) n c2, .int .i64 (k : Int)] w' fun e w'' => ∃ A c, e = .returned (.slice A n c) ∧ n ≤ c ∧ Rd w'' A vl ∧ Below w'.heap.size w' w'' := by
    intro w' hw'
    have := shift_calls (some ⟨bb, o, none⟩) c2 k l2 w' (h2.below hw' rfl) hc2 (by omega) (by omega)
    rw [hV, hn] at this
    exact this.mono fun e w'' h => h.out hvv hvl
  have hs1 : ∀ w', Below w.heap.size w w' → Calls Tryz.prog 81 #[.slice A1 m c1, .int .i64 (k : Int)] w' fun e w'' => ∃ A c, e = .returned (.slice A mu c) ∧ mu ≤ c ∧ Rd w'' A ul0 ∧ Below w'.heap.size w' w'' := by
    intro w' hw'
    have := shift_calls A1 c1 k l1 w' (h1.below hw' rfl) hc1 (by omega) (by omega)
    rw [hU, hm] at this
    exact this.mono fun e w'' h => h.out huu hmu
  have hlead : ∀ w', Calls Tryz.prog 80 #[.int .u32 (x : Int)] w' fun e w'' => e = .returned (.int .i64 (k : Int)) ∧ w'' = w' := by
    intro w'; have := lead32_calls x w' hxb; rwa [hk] at this
  rw [hn] at hc hn2 hnm hcx hc2 ⊢
  rw [hm] at hc hnm hsm hc1 ⊢
  have hcx' : ∀ nn, (w.drewN nn).cell? ⟨bb, o + (n - 1), none⟩ = some (.int .u32 (x : Int)) := fun nn => hcx
  have hn1 : (((n : Nat) : Int) == 1) = false := by rw [beq_eq_false_iff_ne]; omega
  obtain ⟨i0, hi, hz0', hz1, hz2⟩ := info_parts info_u32
  have hmup : 0 < mu := by omega
  have HV := Lib.hid hV
  have HU := Lib.hid hU
  have HVL := Lib.hid hvv
  have HUL := Lib.hid huu
  have HL := Lib.hid hvl
  have HMU := Lib.hid hmu
  have HN := Lib.hid hn
  have HM := Lib.hid hm
  clear hV hU hvv huu hvl hmu hn hm hbp hbw hcx
  have hwide : ∀ f, Fence.wide.fn f := fun _ => trivial
  refine (callsIn_wide (n := 5)).1 ?_
  refine callsIn_of_wp Tryz.func51 rfl trivial ?_ rfl
  simp only [Tryz.ntmps51, List.size_toArray, List.length_cons, List.length_nil, Nat.reduceAdd, Nat.reduceSub, Array.replicate_succ, Array.replicate_zero, List.push_toArray, List.append_toArray, List.nil_append, List.cons_append]
  gi_wp2_with first
    | (gi_at_call 62; refine (callsIn_wide.2 hc).mono ?_; rintro e w' ⟨rfl, nn, rfl⟩)
    | (gi_at_call 80; refine (callsIn_wide.2 (hlead _)).mono ?_; rintro e w' ⟨rfl, rfl⟩)
    | (gi_at_call 81; refine (callsIn_wide.2 (hs1 (w1.alloc (.cells #[] 50)) (hb1.alloc hb1.size _))).mono ?_; rintro e w2 ⟨Au, cu', rfl, hu1, hu2, hu3⟩; obtain ⟨bu, ou, rfl⟩ := hu2.head (by have := HMU.out; omega); have hown := own_empty w2 w1.heap.size w1.heap.size ((hu3.block w1.heap.size (by simp)).trans (World.alloc_heap_new w1 _)) (Nat.le_refl _); have hnews := rd_news hu2; have hb2 : Below w1.heap.size w1 w2 := ((Below.refl w1.heap.size w1).alloc (Nat.le_refl _) _).trans (hu3.mono (by simp)))
    | (gi_at_call 81; refine (callsIn_wide.2 (hs2 _ (below_drewN (Below.refl _ _) _))).mono ?_; rintro e w1 ⟨Av, cv, rfl, hv1, hv2, hv3⟩; have hb1 : Below w.heap.size w w1 := (below_drewN (Below.refl _ _) nn).trans hv3)
    | (gi_at_builtin; (refine wpListIn_append_own _ rfl _ _ 54 rfl w1.heap.size 50 i0 (.int .u32 0) 1 4 Tryz.underlying54 hi hz0' hz1 hz2 rfl (by decide) _ _ _ rfl hown ⟨bu, ou, none⟩ mu cu' (wvals ul0) rfl (by have := HMU.out; simp; omega) hnews (wvals_one ul0) (by unfold maxLen; omega) (by omega) (by have := hb2.size; omega) ?_); intro v' w3 hown' hg3 _)
  have hwu : Words ul0 := by rw [← HUL.out]; exact words_lim U
  have hvu : val ul0 = U := by rw [← HUL.out]; exact val_lim U
  have hb3 : Below w1.heap.size w1 w3 := hb2.grown hg3 hb2.size (fun j e => by cases e; exact Nat.le_refl _)
  have Hvu := Lib.hid hvu
  clear hvu hnews hown hg3
  gi_loopw [10] (fun s W => ∃ ul : List Nat, W.ownsRow w1.heap.size 50 1 s ul.length (wvals ul) ∧ Words ul ∧ Hid (val ul = U) ∧ mu ≤ ul.length ∧ ul.length ≤ m + 1 ∧ Below w1.heap.size w1 W) (fun s _ => m + 1 - slen s)
  case atStart =>
    refine ⟨ul0, ?_, hwu, Hvu, Nat.le_of_eq HMU.out.symm, by rw [HMU.out]; exact hul1, hb3⟩
    rw [HMU.out]
    rw [Nat.zero_add] at hown'
    exact hown'
  case round =>
    clear hown' hwu Hvu hb3
    obtain ⟨ul, hown, how, hov, hm1, hm2, hbl⟩ := hrel
    obtain ⟨gu, cu, rfl, _, hcu1, hcu2, harr, hgu⟩ := own_arr hown (by omega)
    by_cases hlt : ul.length ≤ m
    · gi_wp2_with first
        | (gi_at_builtin; (refine wpListIn_append_own _ rfl _ _ 54 rfl w1.heap.size 50 i0 (.int .u32 0) 1 4 Tryz.underlying54 hi hz0' hz1 hz2 rfl (by decide) _ _ _ rfl (hown.alloc _) ⟨wr.heap.size, 0, none⟩ 1 1 [.int .u32 0] rfl rfl (cell_one_new _ _ _) (by simp [Value.oneCell']) (by unfold maxLen; omega) (by omega) (by have := hbl.size; simp; omega) ?_); intro v' w4 hown' hg4 _)
      obtain ⟨gu', cu', rfl, _, _, _, harr', _⟩ := own_arr (l := ul ++ [0]) (by rw [show wvals (ul ++ [0]) = wvals ul ++ [.int .u32 0] from List.map_append]; exact hown') (by simp)
      refine ⟨⟨ul ++ [0], ?_, ?_, ?_, by simp; omega, by simp; omega, ?_⟩, by simp only [slen]; omega⟩
      · rw [show wvals (ul ++ [0]) = wvals ul ++ [.int .u32 0] from List.map_append, List.length_append]; exact hown'
      · exact words_append.2 ⟨how, fun u hu => by simp at hu; rw [hu]; decide⟩
      · show val (ul ++ [0]) = U
        rw [val_snoc, Nat.mul_zero, Nat.add_zero]; exact hov.out
      · exact (hbl.alloc hbl.size _).grown hg4 (by have := hbl.size; simp; omega) (fun j e => by cases e; exact hgu)
    · have hL : ul.length = m + 1 := by omega
      obtain ⟨L, hLL⟩ : ∃ L, ul.length = L := ⟨_, rfl⟩
      obtain ⟨sz, hsz, hsz'⟩ : ∃ sz : Nat, (L : Int) - (n : Int) = (sz : Int) ∧ Hid (sz = m + 1 - n) := ⟨m + 1 - n, by omega, rfl⟩
      have hLm : ((L : Int) ≤ (m : Int)) ↔ False := by rw [iff_false]; omega
      have hst := div_start (ul := ul) (k := k) k1.1 k2 HN.out HM.out (by omega) hnm (by rw [HU.out]; exact hov.out) hL
      rw [HV.out, ← hsz'.out] at hst
      have hszb : sz ≤ 65537 := by have := hsz'.out; omega
      have hmk := make_nat (sz : Int) (sz : Int) sz sz rfl rfl (Nat.le_refl _) (by omega)
      have Hst := Lib.hid hst
      have HLL := Lib.hid hLL
      rw [hLL] at hcu1 ⊢
      clear hst hown hLL hL hlt hm1 hm2
      obtain ⟨W0, hW0⟩ : ∃ W0, W0 = wr := ⟨wr, rfl⟩
      subst hW0
      gi_wp2
      clear hmk
      gi_loopw [13] (fun i W => ∃ (j : Nat) (qs ul' : List Nat), j ≤ sz ∧ i = .int .i64 ((j : Int) - 1) ∧ Arr W W0.heap.size (List.replicate j 0 ++ qs) ∧ Arr W gu ul' ∧ Hid (qs.length + j = sz) ∧ Words qs ∧ Words ul' ∧ Hid (ul'.length = L) ∧
          Hid (val (ul.drop j) = V * val qs + val (ul'.drop j)) ∧ Hid (val (ul'.drop j) < V) ∧ Hid (ul'.take j = ul.take j) ∧ Below w1.heap.size w1 W) (fun i _ => (intOf i + 1).toNat)
      case atStart => 
        exact ⟨sz, [], ul, Nat.le_refl _, rfl, by rw [List.append_nil]; exact arr_new _ _, arr_alloc harr _, Nat.zero_add _, words_nil, how, HLL, by simp [Hid, val], Hst, rfl, hbl.alloc hbl.size _⟩
      case round =>
        obtain ⟨j, qs, ul', hj, rfl, hqa, hua, hql, hqw, huw, hull, hval, hlt, htk, hbl'⟩ := hrel
        have hgu0 := arr_lt harr
        have hVn : Hid (V ≤ BB ^ n) := by
          have := lt_pow_length V
          rw [HVL.out, HL.out] at this
          exact Nat.le_of_lt this
        have hvv : Hid (val vl = V) := by show _ = _; rw [← HVL.out]; exact val_lim V
        by_cases h0 : 0 < j
        · obtain ⟨j, rfl⟩ : ∃ i, j = i + 1 := ⟨j - 1, by omega⟩
          have hjn : j + n + 1 ≤ L := by have := hsz'.out; omega
          obtain ⟨pre, seg, post, hat⟩ : ∃ pre seg post, DivAt ul' pre seg post j n V := ⟨_, _, _, div_at huw (by rw [hull.out]; exact hjn) hlt.out hVn.out⟩
          have hdig := digit_calls gu (cu - j) n pre seg post vl Av cv wr (by rw [← hat.parts]; exact hua) hat.hseg HL.out hn2 (by rw [← hat.parts]; exact huw) (by omega) (hv2.below hbl' rfl) hv1
            (fun b o e => Nat.lt_of_lt_of_le (rd_block hv2 b o e (by rw [HL.out]; omega)) hgu) (by have := canon_top (canon_lim V) (by rw [HVL.out, HL.out]; omega); rwa [HVL.out, HL.out] at this) (by rw [hvv.out]; exact hat.hlt) (by omega) (by rw [hat.hpre]; omega)
          obtain ⟨qd, hqd⟩ : ∃ qd, val seg / V = qd := ⟨_, rfl⟩
          rw [hat.hpre, hvv.out, hqd, show n + 1 = j + n + 1 - j by omega] at hdig
          rw [show ((j + 1 : Nat) : Int) - 1 = (j : Int) by omega]
          clear h0
          gi_wp2_with first
            | (gi_at_call 82; (refine (callsIn_wide.2 hdig).mono ?_); rintro e w5 ⟨seg', rfl, hd1, hd2, hd3, hd4, hd5⟩; have hqa5 := arr_kept hqa hd5 (by simp; omega); have gq5 := arr_cell hqa5 j (by simp; omega); have fq5 := arr_frozen hqa5 j)
          have hdv : val ((pre ++ seg' ++ post).drop j) = val seg % V := by rw [hat.after (by omega)]; exact hd4
          have hqdb : qd < 4294967296 := by
            rw [← hqd]; show _ < BB
            rw [Nat.div_lt_iff_lt_mul hVp]; exact hat.hlt
          have hparts := hat.parts
          have huw' := huw
          rw [hparts] at huw'
          have hwp := words_append.1 huw'
          have hlp := hull.out
          rw [hparts] at hlp
          simp only [List.length_append] at hlp
          have hls := hat.hseg
          refine ⟨⟨j, qd :: qs, pre ++ seg' ++ post, by omega, rfl, ?_, arr_other hd1 (by omega) _, ?_, words_cons.2 ⟨hqdb, hqw⟩, words_append.2 ⟨words_append.2 ⟨(words_append.1 hwp.1).1, hd3⟩, hwp.2⟩, ?_, ?_, ?_, ?_, (hbl'.grown hd5 hbl'.size (fun j e => by cases e; exact hgu)).setCell (by have := hbl.size; dsimp only; omega) _⟩, by simp only [intOf]; omega⟩
          · rw [← set_front]
            exact arr_set hqa5 j qd
          · show (qd :: qs).length + j = sz
            have := hql.out; simp; omega
          · show (pre ++ seg' ++ post).length = L
            simp only [List.length_append]; omega
          · show val (ul.drop j) = V * val (qd :: qs) + val ((pre ++ seg' ++ post).drop j)
            rw [← hqd]
            have htk' := congrArg (fun (l : List Nat) => l.getD j 0) htk.out
            simp only [List.getD_eq_getElem?_getD, List.getElem?_take_of_lt (show j < j + 1 by omega)] at htk'
            exact div_step hat hval.out (by rw [List.getD_eq_getElem?_getD, List.getD_eq_getElem?_getD]; exact htk'.symm) (by rw [HLL.out]; omega) hdv
          · show _ < V
            rw [hdv]; exact Nat.mod_lt _ hVp
          · show (pre ++ seg' ++ post).take j = ul.take j
            rw [hat.take]
            have htk' := congrArg (fun (l : List Nat) => l.take j) htk.out
            simpa [List.take_take] using htk'
        · obtain rfl : j = 0 := by omega
          have hqs : qs.length = sz := by have := hql.out; omega
          rw [List.replicate_zero, List.nil_append] at hqa
          have hend := div_end (Q := val qs) (R := val ul') HU.out.symm HV.out.symm hpos (by have := hval.out; rw [List.drop_zero, List.drop_zero] at this; rw [← hov.out]; exact this) (by have := hlt.out; rwa [List.drop_zero] at this)
          have hrq := arr_rd hqa hqw (by omega)
          have hru := (arr_rd hua huw (by rw [hull.out]; omega)).take n
          have htq : trim qs = lim (val l1 / val l2) := by unfold trim; rw [hend.1]
          have hun : (ul'.take n).length = n := by rw [List.length_take, hull.out]; omega
          have huv : val (ul'.take n) = val ul' := by
            have h1 : val ul' = val (ul'.take n) + BB ^ n * val (ul'.drop n) := by
              conv => lhs; rw [← List.take_append_drop n ul']
              rw [val_append, hun]
            have h2 := hend.2.2
            have h3 := hVn.out
            rcases Nat.eq_zero_or_pos (val (ul'.drop n)) with h0 | h0
            · rw [h0, Nat.mul_zero] at h1; exact h1.symm
            · have := Nat.mul_le_mul (Nat.le_refl (BB ^ n)) h0
              rw [Nat.mul_one] at this
              generalize val (ul'.drop n) = X at *
              generalize BB ^ n * X = Y at *
              generalize BB ^ n = Z at *
              omega
          have htu : trim (ul'.take n) = lim (val ul') := by unfold trim; rw [huv]
          obtain ⟨R, hR⟩ : ∃ R, val ul' = R := ⟨_, rfl⟩
          rw [hR] at htu hend
          have hlen1 : (lim (val l1 / val l2)).length ≤ sz := by rw [← htq, ← hqs]; exact trim_length_le hqw
          have hlen2 : (lim R).length ≤ cu := by rw [← htu]; have := trim_length_le (words_take huw n); rw [hun] at this; omega
          have hq : ∀ nn mm, CallsIn Fence.wide nn Tryz.prog 63 #[.slice (some ⟨W0.heap.size, 0, none⟩) sz sz] (wr.drewN mm) fun e w'' => e = .returned (.slice (some ⟨W0.heap.size, 0, none⟩) (lim (val l1 / val l2)).length sz) ∧ w'' = wr.drewN mm := by
            intro nn mm
            have := trim_in nn (some ⟨W0.heap.size, 0, none⟩) sz qs (wr.drewN mm) (hrq.below (below_drewN (Below.refl wr.heap.size wr) mm) rfl) (by omega)
            rw [hqs, htq] at this
            exact this.mono fun e w'' h => ⟨h.1, h.2.symm⟩
          have hu : ∀ nn mm, CallsIn Fence.wide nn Tryz.prog 63 #[.slice (some ⟨gu, 0, none⟩) n cu] (wr.drewN mm) fun e w'' => e = .returned (.slice (some ⟨gu, 0, none⟩) (lim R).length cu) ∧ w'' = wr.drewN mm := by
            intro nn mm
            have := trim_in nn (some ⟨gu, 0, none⟩) cu (ul'.take n) (wr.drewN mm) (hru.below (below_drewN (Below.refl wr.heap.size wr) mm) rfl) (by rw [hun]; omega)
            rw [hun, htu] at this
            exact this.mono fun e w'' h => ⟨h.1, h.2.symm⟩
          have hrt := hru.trim
          rw [htu] at hrt
          have hrqt := hrq.trim
          rw [htq] at hrqt
          have hlow : ∀ mm, Calls Tryz.prog 83 #[.slice (some ⟨gu, 0, none⟩) (lim R).length cu, .int .i64 (k : Int)] (wr.drewN mm) (RetNat (val l1 % val l2) (wr.drewN mm)) := by
            intro mm
            have h3 : (lim R).length ≤ n := by rw [← htu]; have := trim_length_le (words_take huw n); rwa [hun] at this
            have := low_calls (some ⟨gu, 0, none⟩) cu k (lim R) (wr.drewN mm) (hrt.below (below_drewN (Below.refl wr.heap.size wr) mm) rfl) hlen2 hk32 (by omega)
            rwa [val_lim, hend.2.1] at this
          clear h0 hend huv htu htq hqs hun hlt hval hql htk hR hVn
          generalize hqq : val l1 / val l2 = QQ at *
          generalize hrr : val l1 % val l2 = RR at *
          clear hqq hrr
          gi_wp2
          have hq' := fun (r x : Nat) => CallsIn.quiet_of_same (hq r x)
          have hu' := fun (r x : Nat) => CallsIn.quiet_of_same (hu r x)
          clear hq hu
          refine wpIn_region_tail 7 (by kernel_rfl) (by kernel_rfl) (by kernel_rfl) ?_
          simp only [List.take_succ_cons, List.take_zero, List.drop_succ_cons, List.drop_zero]
          repeat (gi_big_quiet_step ((gi_at_call 63; first | with_reducible exact hq' _ _ | with_reducible exact hu' _ _)))
          refine wpQuietIn_nil ?_
          intro mm
          gi_wp2_with first
            | (gi_at_call 83; refine (callsIn_wide.2 (hlow mm)).mono ?_; rintro e w6 ⟨Ar, cr, rfl, hr1, hr2, hr3⟩)
          go_ret2
          exact ⟨_, _, _, _, rfl, hlen1, hr1, hrqt.below ((below_drewN (Below.refl wr.heap.size wr) mm).trans hr3) rfl, hr2, (hb1.trans (hbl'.mono hb1.size)).trans ((below_drewN (Below.refl _ wr) mm).trans (hr3.mono (by have := hb1.size; have := hbl'.size; simp; omega)))⟩
set_option maxRecDepth 100000 in
/-- '(nat).div' -/
theorem div_calls (A1 A2 : Option Addr) (c1 c2 : Nat) (l1 l2 : List Nat) (w : World) (h1 : Rd w A1 l1) (h2 : Rd w A2 l2) (hc1 : l1.length ≤ c1) (hc2 : l2.length ≤ c2) (k1 : Canon l1) (k2 : Canon l2)
    (hp : 0 < val l2) (hsm : l1.length ≤ 65536) :
    Calls Tryz.prog 51 #[.slice A1 l1.length c1, .slice A2 l2.length c2] w (RetDiv (val l1 / val l2) (val l1 % val l2) w) := by
  rcases Nat.lt_or_ge (val l1) (val l2) with h | h
  · exact div_less A1 A2 c1 c2 l1 l2 w h1 h2 hc1 hc2 k1 k2 h
  · have hl := val_pos_length hp
    rcases Nat.lt_or_ge l2.length 2 with hn | hn
    · obtain ⟨b, rfl⟩ : ∃ b, l2 = [b] := List.length_eq_one_iff.1 (by omega)
      exact div_one A1 A2 c1 c2 l1 b w h1 h2 hc1 hc2 k1 k2 h (by omega)
    · exact div_long A1 A2 c1 c2 l1 l2 w h1 h2 hc1 hc2 k1 k2 h hn hsm
end Nm
end Go.Proofs.YtlhmbbpkhahbeaaGreatDoor
namespace Go.Proofs.YtlhmbbpkhahbeaaGreatDoor
namespace Nm
open Go.RowKit Go.Shelf Go.BigFrame
attribute [local go_sem] Oper.semAt_some
theorem keeps_own {β : Type} {B b : Nat} {W0 : World} (hb : W0.heap.size ≤ b) : OwnFrom b (fun (_ : β) W => KeepsFrom B W0 W) := fun s X Y row h hg hr =>
  ⟨Nat.le_trans h.size hg.size, fun k o hB hk ho => by
    have h1 := h.same k o hB hk ho
    exact (hg.block k (Array.getElem?_eq_some_iff.1 h1).1 (fun e => by
      have := (hr k e.symm).1
      have := (Array.getElem?_eq_some_iff.1 hk).1
      omega)).trans h1⟩
theorem size_own {β : Type} {n b : Nat} : OwnFrom b (fun (_ : β) (W : World) => n ≤ W.heap.size) := fun _ _ _ _ h hg _ => Nat.le_trans h hg.size
section
variable {F : Fence} {n : Nat} {P : Program}
/-- the loop outside every round, its variables in boxes -/
theorem wpIn_limbs_b {g : Operand} {ps : Array Tmp} {assign body : Code} {Q : Exit → Act → World → Prop} {a : Act} {w : World} {l : List Nat} {n₀ : Nat}
    (hro : F.round = none) (h1 : 1 ≤ n) {gf : Nat} {lb : Array Value} (hg : a.eval g = .func (.func gf) #[] lb) (hFg : F.fn gf) (eg : ∀ args w, (callFunc gf args).run P w = .ok (.enter gf args) w)
    {w0 : World} (hseq : LimbSeq F (n - 1) P gf lb l n₀ w0) (hn₀ : n₀ ≤ w.heap.size) (hb0 : Below w0.heap.size w0 w) (hps : ps.size = 2)
    (I : Nat → World → Prop) (hI : OwnFrom w.heap.size I) (h0 : I 0 w) (E : Nat → Nat → World → Prop) (hE : ∀ k B, OwnFrom w.heap.size (fun (_ : Unit) W => E k B W))
    (hround : ∀ (k : Nat) (W : World), I k W → k < l.length →
      assign.wpIn (F.inRound (w.heap.size + 1)) (n - 1 - 1) P (Exit.then (fun a' W' => KeepsFrom w.heap.size W W' ∧ Below n₀ W W' ∧ I k W' ∧ ∃ B, E k B W' ∧ ∀ W2, (∃ r, W2.heap[w.heap.size + 1]? = some (.loop r)) → I k W2 → E k B W2 →
        body.wpIn (F.inRound (w.heap.size + 1)) (n - 1 - 1) P (limbPost w.heap.size n₀ (I (k + 1)) W2) a' W2) (fun _ _ _ => False)) { tmps := (ps.zip #[.int .i64 (k : Int), .int .u32 (l.getD k 0 : Nat)]).foldl (fun t (p, v) => t.setIfInBounds p v) a.tmps, defers := [] } W)
    (hdone : ∀ (D : Nat) (W : World), w.heap.size ≤ D → I l.length W → W.heap[D]? = some (.deferred (some [])) → Q .normal { a with defers := { target := .collected D, args := #[] } :: a.defers } W) :
    (Code.rangeFunc g ps assign body).wpIn F n P Q a w :=
  wpIn_limbs hro h1 hg hFg eg hseq hn₀ hb0 hps I hI h0
    (fun k a' W => ∃ B, E k B W ∧ ∀ W2, (∃ r, W2.heap[w.heap.size + 1]? = some (.loop r)) → I k W2 → E k B W2 → body.wpIn (F.inRound (w.heap.size + 1)) (n - 1 - 1) P (limbPost w.heap.size n₀ (I (k + 1)) W2) a' W2)
    (fun k a' s X Y row hs hg hr => by obtain ⟨B, hb, h⟩ := hs; exact ⟨B, hE k B () X Y row hb hg hr, h⟩)
    (fun k W K hi hk hK => wpIn_mono (hround k W hi hk) (fun e a' W' h => by
      cases e with
      | normal => obtain ⟨h1, h2, h3, h4⟩ := h; exact hK _ _ h1 h2 h3 h4
      | ret => exact h.elim
      | exit id => exact h.elim
      | goto t => exact h.elim
      | panic ch => exact h.elim
      | outgrown => exact h.elim)) (fun k a' W hr hi e hk => by obtain ⟨B, hb, h⟩ := e; exact h W hr hi hb) hdone
end
/-- a step of the inner loop -/
theorem long_step {P B S O Y cy x y u t : Nat} (ht : t = cy + (x * y + u)) (h : O + P * cy = S + x * Y) : (O + P * (t % B)) + P * B * (t / B) = (S + P * u) + x * (Y + P * y) := by
  have e := Nat.mod_add_div t B
  have e2 : P * (t % B) + P * B * (t / B) = P * t := by rw [Nat.mul_assoc, ← Nat.mul_add, e]
  have e3 : x * (Y + P * y) = x * Y + P * (x * y) := by rw [Nat.mul_add, Nat.mul_left_comm]
  have e4 : P * t = P * cy + P * (x * y) + P * u := by rw [ht, ← Nat.mul_add, ← Nat.mul_add]; congr 1; omega
  rw [e3]
  omega
set_option maxRecDepth 100000 in
set_option maxHeartbeats 4000000 in
theorem long_calls (A1 A2 : Option Addr) (c1 c2 : Nat) (l1 l2 : List Nat) (w : World) (h1 : Rd w A1 l1) (h2 : Rd w A2 l2) (_hc1 : l1.length ≤ c1) (_hc2 : l2.length ≤ c2) (hs1 : l1.length ≤ 65536) (hs2 : l2.length ≤ 65536) :
    Calls Tryz.prog 88 #[.slice A1 l1.length c1, .slice A2 l2.length c2] w (RetNat (val l1 * val l2) w) := by
  obtain ⟨N, hN, hN'⟩ : ∃ N : Nat, (l1.length : Int) + (l2.length : Int) = (N : Int) ∧ Hid (N = l1.length + l2.length) := ⟨l1.length + l2.length, by omega, rfl⟩
  have hNb : N ≤ 131072 := by have := hN'.out; omega
  have hmk := make_nat (N : Int) (N : Int) N N rfl rfl (Nat.le_refl _) (by omega)
  have hwide : ∀ f, Fence.wide.fn f := fun _ => trivial
  refine (callsIn_wide (n := 5)).1 ?_
  refine callsIn_of_wp_marks Tryz.func88 rfl trivial ?_ rfl
  simp only [Tryz.ntmps88, List.size_toArray, List.length_cons, List.length_nil, Nat.reduceAdd, Nat.reduceSub, Array.replicate_succ, Array.replicate_zero, List.push_toArray, List.append_toArray, List.nil_append, List.cons_append]
  gi_wp2_with (gi_at_call 66; refine (callsIn_wide.2 (limbs_calls _ _ _ _)).mono ?_; rintro e w2 ⟨rfl, rfl⟩)
  clear hmk
  obtain ⟨w3, hw3⟩ : ∃ w3, allocs w [.cells #[.slice A2 l2.length c2] 54, .cells (warr (List.replicate N 0)) 50, .cells #[.slice (some ⟨w.heap.size + 1, 0, none⟩) N N] 54, .cells #[.slice A1 l1.length c1] 54] = w3 := ⟨_, rfl⟩
  have hget := allocs_get w [.cells #[.slice A2 l2.length c2] 54, .cells (warr (List.replicate N 0)) 50, .cells #[.slice (some ⟨w.heap.size + 1, 0, none⟩) N N] 54, .cells #[.slice A1 l1.length c1] 54]
  have hs3 := allocs_stp w [.cells #[.slice A2 l2.length c2] 54, .cells (warr (List.replicate N 0)) 50, .cells #[.slice (some ⟨w.heap.size + 1, 0, none⟩) N N] 54, .cells #[.slice A1 l1.length c1] 54] (Nat.le_refl w.heap.size)
  have hsz3 := allocs_size w [.cells #[.slice A2 l2.length c2] 54, .cells (warr (List.replicate N 0)) 50, .cells #[.slice (some ⟨w.heap.size + 1, 0, none⟩) N N] 54, .cells #[.slice A1 l1.length c1] 54]
  rw [hw3] at hget hs3 hsz3
  simp only [allocs] at hw3
  rw [hw3]
  clear hw3
  replace hsz3 : w.heap.size + 4 ≤ w3.heap.size := by rw [hsz3]; exact Nat.le_refl _
  have hB0 : Boxed w3 w.heap.size 54 (.slice A2 l2.length c2) := hget 0 (by simp)
  have hB1 : Arr w3 (w.heap.size + 1) (List.replicate N 0) := arr_of (hget 1 (by simp))
  have hB2 : Boxed w3 (w.heap.size + 2) 54 (.slice (some ⟨w.heap.size + 1, 0, none⟩) N N) := hget 2 (by simp)
  have hB3 : Boxed w3 (w.heap.size + 3) 54 (.slice A1 l1.length c1) := hget 3 (by simp)
  clear hget
  have hr13 := h1.below hs3.below rfl
  refine wpIn_limbs_b (n₀ := w.heap.size) (l := l1) rfl (by omega) (gf := 92) (lb := #[.pointer (some ⟨w.heap.size + 3, 0, none⟩)]) rfl trivial (enters_of Tryz.func92 (by kernel_rfl) rfl)
    (limbs1_in _ (w.heap.size + 3) A1 c1 l1 w.heap.size w3 hB3.cell hr13 (by omega) (rd_block h1)) (by omega) (Below.refl _ _) rfl
    (fun k W => ∃ lo : List Nat, Boxed W w.heap.size 54 (.slice A2 l2.length c2) ∧ Arr W (w.heap.size + 1) (lo ++ List.replicate (l1.length - k) 0) ∧ Boxed W (w.heap.size + 2) 54 (.slice (some ⟨w.heap.size + 1, 0, none⟩) N N) ∧ Below w.heap.size w W ∧ w3.heap.size ≤ W.heap.size ∧ Hid (lo.length = k + l2.length) ∧ Words lo ∧ Hid (val lo = val (l1.take k) * val l2)) ?own ?start
    (fun k B W => w3.heap.size ≤ B ∧ Boxed W B 3 (.int .i64 (k : Int)) ∧ Boxed W (B + 1) 50 (.int .u32 ((l1.getD k 0 : Nat) : Int))) ?ownE ?round ?done
  case own =>
    rintro k X Y row ⟨lo, a0, a1, a2, hbl, hsz, rest⟩ hg hr
    exact ⟨lo, boxed_ownF _ _ _ (fun _ => _) k X Y row a0 hg hr, arr_ownF _ _ (fun _ => _) k X Y row a1 hg hr, boxed_ownF _ _ _ (fun _ => _) k X Y row a2 hg hr, ownFrom_below (Nat.le_refl _) (by omega) k X Y row hbl hg hr, size_own k X Y row hsz hg hr, rest⟩
  case start => exact ⟨List.replicate l2.length 0, hB0, by rw [List.replicate_append_replicate, show l2.length + (l1.length - 0) = N by have := hN'.out; omega]; exact hB1, hB2, hs3.below, Nat.le_refl _, by simp [Hid], words_replicate _, by simp [Hid, val, val_replicate]⟩
  case ownE =>
    rintro k B s X Y row ⟨a0, a1, a2⟩ hg hr
    exact ⟨a0, boxed_ownF _ _ _ (fun _ => _) k X Y row a1 hg hr, boxed_ownF _ _ _ (fun _ => _) k X Y row a2 hg hr⟩
  case round =>
    rintro k W ⟨lo, b0, ar, b2, hbl, hsz, hlo, low, hval⟩ hk
    obtain ⟨x, hx, hxb⟩ : ∃ x, Hid (l1.getD k 0 = x) ∧ x < 4294967296 := ⟨_, rfl, words_getD h1.words k⟩
    rw [hx.out]
    gi_wp2
    refine ⟨((KeepsOthers.alloc W _).trans (KeepsOthers.alloc _ _)).from _, ((Below.refl w.heap.size W).alloc hbl.size _).alloc (by have := hbl.size; simp; omega) _, ⟨lo, (b0.alloc _).alloc _, arr_alloc (arr_alloc ar _) _, (b2.alloc _).alloc _, (hbl.alloc hbl.size _).alloc (by have := hbl.size; simp; omega) _, by simp; omega, hlo, low, hval⟩,
      W.heap.size, ⟨hsz, (Boxed.new _ _ _).alloc _, by have := Boxed.new (W.alloc (.cells #[.int .i64 (k : Int)] 3)) 50 (.int .u32 (x : Int)); simpa using this⟩, ?_⟩
    generalize W.heap.size = B
    clear b0 ar b2 hbl hsz hlo low hval
    clear W
    clear lo
    rintro W2 ⟨r, hr⟩ ⟨lo, b0, ar, b2, hbl, hsz, hlo, low, hval⟩ ⟨hB, e0, e1⟩
    have gb0 := b0.cell
    have gb2 := b2.cell
    have ge0 := e0.cell
    have ge1 := e1.cell
    have tb0 := b0.lt
    have te1 := e1.lt
    have tar := arr_lt ar
    have hlol := hlo.out
    gi_wp2_with (gi_at_call 66; refine (CallsIn.inRound _ (callsIn_wide.2 (limbs_calls _ _ _ _))).mono ?_; rintro e w5 ⟨rfl, rfl⟩)
    obtain ⟨W5, hw3⟩ : ∃ W5, allocs W2 [.cells #[.int .u64 0] 92, .cells #[.slice A2 l2.length c2] 54] = W5 := ⟨_, rfl⟩
    have hget := allocs_get W2 [.cells #[.int .u64 0] 92, .cells #[.slice A2 l2.length c2] 54]
    have ht3 := allocs_stp W2 [.cells #[.int .u64 0] 92, .cells #[.slice A2 l2.length c2] 54] (Nat.le_refl W2.heap.size)
    have hsz3 := allocs_size W2 [.cells #[.int .u64 0] 92, .cells #[.slice A2 l2.length c2] 54]
    rw [hw3] at hget ht3 hsz3
    simp only [allocs] at hw3
    rw [hw3]
    clear hw3
    replace hsz3 : W2.heap.size + 2 ≤ W5.heap.size := by rw [hsz3]; exact Nat.le_refl _
    have hC0 : Boxed W5 W2.heap.size 92 (.int .u64 0) := hget 0 (by simp)
    have hC1 : Boxed W5 (W2.heap.size + 1) 54 (.slice A2 l2.length c2) := hget 1 (by simp)
    clear hget

    obtain ⟨pre, hpre⟩ : ∃ pre, lo.take k = pre := ⟨_, rfl⟩
    obtain ⟨seg, hseg⟩ : ∃ seg, lo.drop k = seg := ⟨_, rfl⟩
    have hlo2 : lo = pre ++ seg := by rw [← hpre, ← hseg, List.take_append_drop]
    have hprel : pre.length = k := by rw [← hpre, List.length_take]; omega
    have hsegl : seg.length = l2.length := by rw [← hseg, List.length_drop]; omega
    obtain ⟨post, hpost, hpost'⟩ : ∃ post, List.replicate (l1.length - k) 0 = 0 :: post ∧ post = List.replicate (l1.length - (k + 1)) 0 := ⟨List.replicate (l1.length - (k + 1)) 0, by rw [show l1.length - k = (l1.length - (k + 1)) + 1 by omega]; rfl, rfl⟩
    have ar5 : Arr W5 (w.heap.size + 1) (pre ++ (([] : List Nat) ++ seg.drop 0) ++ (0 :: post)) := by
      rw [List.nil_append, List.drop_zero, ← hlo2, ← hpost]; exact arr_below ar ht3.below (by omega)
    have b05 : Boxed W5 w.heap.size 54 (.slice A2 l2.length c2) := (ht3.below.block w.heap.size (by omega)).trans b0
    have b25 : Boxed W5 (w.heap.size + 2) 54 (.slice (some ⟨w.heap.size + 1, 0, none⟩) N N) := (ht3.below.block (w.heap.size + 2) (by omega)).trans b2
    have e05 : Boxed W5 B 3 (.int .i64 (k : Int)) := (ht3.below.block B (by omega)).trans e0
    have e15 : Boxed W5 (B + 1) 50 (.int .u32 (x : Int)) := (ht3.below.block (B + 1) (by omega)).trans e1
    have hr5 : W5.heap[w3.heap.size + 1]? = some (.loop r) := (ht3.below.block (w3.heap.size + 1) (Array.getElem?_eq_some_iff.1 hr).1).trans hr
    have wseg : Words seg := by rw [← hseg]; exact words_drop low k
    have wpre : Words pre := by rw [← hpre]; exact words_take low k
    have hvlo : val lo = val pre + BB ^ k * val seg := by rw [hlo2, val_append, hprel]
    have Hpost := Lib.hid hpost'
    have Hprel := Lib.hid hprel
    have Hsegl := Lib.hid hsegl
    have Hvlo := Lib.hid hvlo
    clear hpost' hprel hsegl hvlo hlo2 hpre hseg hpost ar b0 b2 e0 e1 gb0 gb2 ge0 ge1
    refine wpIn_limbs_in (n₀ := w.heap.size) (l := l2) (l₀ := w3.heap.size + 1) (r₀ := r) rfl hr5 (by omega) (gf := 92) (lb := #[.pointer (some ⟨W2.heap.size + 1, 0, none⟩)]) rfl trivial (enters_of Tryz.func92 (by kernel_rfl) rfl)
      (limbs1_in _ (W2.heap.size + 1) A2 c2 l2 w.heap.size W5 hC1.cell (h2.below (hbl.trans (ht3.below.mono hbl.size)) rfl) (by omega) (rd_block h2)) (by omega) (Below.refl _ _) rfl
      (fun j Y => ∃ (os : List Nat) (cy : Nat), Boxed Y w.heap.size 54 (.slice A2 l2.length c2) ∧ Arr Y (w.heap.size + 1) (pre ++ (os ++ seg.drop j) ++ (0 :: post)) ∧ Boxed Y (w.heap.size + 2) 54 (.slice (some ⟨w.heap.size + 1, 0, none⟩) N N) ∧ Boxed Y B 3 (.int .i64 (k : Int)) ∧ Boxed Y (B + 1) 50 (.int .u32 (x : Int)) ∧ Boxed Y W2.heap.size 92 (.int .u64 (cy : Int)) ∧
        KeepsFrom w3.heap.size W2 Y ∧ Below w.heap.size W2 Y ∧ W5.heap.size ≤ Y.heap.size ∧ cy < 4294967296 ∧ os.length = j ∧ Words os ∧ Hid (val os + BB ^ j * cy = val (seg.take j) + x * val (l2.take j)))
      ?own2 ?start2 ?round2 ?done2
    case own2 =>
      rintro j X Y row ⟨os, cy, a0, a1, a2, a3, a4, a5, a6, a7, a8, rest⟩ hg hr'
      exact ⟨os, cy, boxed_ownF _ _ _ (fun _ => _) j X Y row a0 hg hr', arr_ownF _ _ (fun _ => _) j X Y row a1 hg hr', boxed_ownF _ _ _ (fun _ => _) j X Y row a2 hg hr', boxed_ownF _ _ _ (fun _ => _) j X Y row a3 hg hr', boxed_ownF _ _ _ (fun _ => _) j X Y row a4 hg hr', boxed_ownF _ _ _ (fun _ => _) j X Y row a5 hg hr',
        keeps_own (by omega) j X Y row a6 hg hr', ownFrom_below hbl.size (by omega) j X Y row a7 hg hr', size_own j X Y row a8 hg hr', rest⟩
    case start2 => exact ⟨[], 0, b05, ar5, b25, e05, e15, hC0, ht3.keeps.from _, ht3.below.mono hbl.size, Nat.le_refl _, by omega, rfl, words_nil, by simp [Hid, val]⟩
    case round2 =>
      intro j Y hj
      obtain ⟨y, hy, hyb⟩ : ∃ y, Hid (l2.getD j 0 = y) ∧ y < 4294967296 := ⟨_, rfl, words_getD h2.words j⟩
      obtain ⟨u, hu, hub⟩ : ∃ y, Hid (seg.getD j 0 = y) ∧ y < 4294967296 := ⟨_, rfl, words_getD wseg j⟩
      rw [hy.out]
      gi_wp2
      refine ⟨trivial, ?_⟩
      clear Y
      rintro Y ⟨os, cy, b0, ar, b2, e0, e1, c0, hKY, hblY, hszY, hcy, hol, how, hv⟩
      have Hol := Lib.hid hol
      clear hol
      have g4 := arr_cell ar (k + j) (by have := Hol.out; have := Hsegl.out; have := Hprel.out; simp; omega)
      have hsg := seg_get pre os seg (0 :: post) j j Hol.out (Nat.le_refl _) (by have := Hsegl.out; omega)
      rw [Hprel.out] at hsg
      rw [hsg, hu.out] at g4
      clear hsg
      have f4 := arr_frozen ar (k + j)
      have tg := arr_lt ar
      have gb0 := b0.cell
      have fb0 := b0.frozen
      have tb0 := b0.lt
      have gb2 := b2.cell
      have fb2 := b2.frozen
      have tb2 := b2.lt
      have ge0 := e0.cell
      have fe0 := e0.frozen
      have te0 := e0.lt
      have ge1 := e1.cell
      have fe1 := e1.frozen
      have te1 := e1.lt
      have gc0 := c0.cell
      have fc0 := c0.frozen
      have tc0 := c0.lt

      obtain ⟨p, hp, hp2, hp3⟩ : ∃ p : Nat, (x : Int) * (y : Int) = (p : Int) ∧ p ≤ 18446744065119617025 ∧ Hid (p = x * y) := ⟨x * y, (Int.natCast_mul x y).symm, mul_words hxb hyb, rfl⟩
      obtain ⟨t, ht, ht2, ht3'⟩ : ∃ t : Nat, (cy : Int) + ((p : Int) + (u : Int)) = (t : Int) ∧ t < 18446744073709551616 ∧ Hid (t = cy + (p + u)) := ⟨cy + (p + u), by omega, by omega, rfl⟩
      obtain ⟨z, z1, z2⟩ : ∃ z : Nat, (t : Int) % 4294967296 = (z : Int) ∧ Hid (z = t % BB) := ⟨t % 4294967296, by omega, rfl⟩
      gi_wp2
      refine wpIn_region_tail 15 (by kernel_rfl) (by kernel_rfl) (by kernel_rfl) ?_
      simp only [List.take_succ_cons, List.take_zero, List.drop_succ_cons, List.drop_zero]
      repeat (gi_big_quiet_step (fail))
      refine wpQuietIn_nil ?_
      intro m2
      gi_wp2
      obtain ⟨hi, hi1, hi2⟩ : ∃ q : Nat, (t : Int) / 4294967296 = (q : Int) ∧ q = t / BB := ⟨t / 4294967296, by omega, rfl⟩
      rw [hi1]
      simp only [Nat.add_assoc, Nat.reduceAdd]
      have hh : hi < 4294967296 := by rw [hi2]; show t / 4294967296 < _; omega
      have hset := fun z => seg_set pre os seg (0 :: post) j z Hol.out (by have := Hsegl.out; omega)
      rw [Hprel.out] at hset
      refine limb_end (by (repeat (first | with_reducible exact Stp.refl _ _ | with_reducible refine Stp.set ?_ (by first | (dsimp only; omega) | omega) _ | with_reducible refine Stp.alloc ?_ (by simp; omega) _ | with_reducible refine Stp.drewN ?_ _))) (fun hst => ⟨os ++ [z], hi, by (repeat (first | with_reducible exact b0 | with_reducible exact HasBox.of b0 | with_reducible refine boxed_other ?_ (by omega) _ | with_reducible refine boxed_set _ ?_ | with_reducible refine HasBox.set ?_ _ _ | with_reducible refine HasBox.alloc ?_ _ | with_reducible refine HasBox.drewN ?_ _ | with_reducible refine Boxed.alloc ?_ _ | with_reducible refine boxed_drewN ?_ _)), ?_, by (repeat (first | with_reducible exact b2 | with_reducible exact HasBox.of b2 | with_reducible refine boxed_other ?_ (by omega) _ | with_reducible refine boxed_set _ ?_ | with_reducible refine HasBox.set ?_ _ _ | with_reducible refine HasBox.alloc ?_ _ | with_reducible refine HasBox.drewN ?_ _ | with_reducible refine Boxed.alloc ?_ _ | with_reducible refine boxed_drewN ?_ _)), by (repeat (first | with_reducible exact e0 | with_reducible exact HasBox.of e0 | with_reducible refine boxed_other ?_ (by omega) _ | with_reducible refine boxed_set _ ?_ | with_reducible refine HasBox.set ?_ _ _ | with_reducible refine HasBox.alloc ?_ _ | with_reducible refine HasBox.drewN ?_ _ | with_reducible refine Boxed.alloc ?_ _ | with_reducible refine boxed_drewN ?_ _)), by (repeat (first | with_reducible exact e1 | with_reducible exact HasBox.of e1 | with_reducible refine boxed_other ?_ (by omega) _ | with_reducible refine boxed_set _ ?_ | with_reducible refine HasBox.set ?_ _ _ | with_reducible refine HasBox.alloc ?_ _ | with_reducible refine HasBox.drewN ?_ _ | with_reducible refine Boxed.alloc ?_ _ | with_reducible refine boxed_drewN ?_ _)), by (repeat (first | with_reducible exact c0 | with_reducible exact HasBox.of c0 | with_reducible refine boxed_other ?_ (by omega) _ | with_reducible refine boxed_set _ ?_ | with_reducible refine HasBox.set ?_ _ _ | with_reducible refine HasBox.alloc ?_ _ | with_reducible refine HasBox.drewN ?_ _ | with_reducible refine Boxed.alloc ?_ _ | with_reducible refine boxed_drewN ?_ _)), hKY.trans (hst.keeps.from _), hblY.trans hst.below, Nat.le_trans hszY hst.size, hh, by simp [Hol.out], ?_, ?_⟩)
      · rw [← hset z]
        (repeat (first | with_reducible exact ar | with_reducible refine arr_other ?_ (by omega) _ | with_reducible refine arr_set ?_ _ _ | with_reducible refine arr_alloc ?_ _ | with_reducible refine arr_drewN ?_ _))
      · exact words_append.2 ⟨how, fun u hu => by simp at hu; rw [hu, z2.out]; exact Nat.mod_lt _ (by decide)⟩
      · show val (os ++ [z]) + BB ^ (j + 1) * hi = val (seg.take (j + 1)) + x * val (l2.take (j + 1))
        rw [val_take_succ seg j u hu.out, val_take_succ l2 j y hy.out, val_snoc, Hol.out, Nat.pow_succ, hi2, z2.out]
        exact long_step (by rw [ht3'.out, hp3.out]) hv.out
    case done2 =>
      rintro Y ⟨os, cy, b0, ar, b2, e0, e1, c0, hKY, hblY, hszY, hcy, hol, how, hv⟩
      have Hol := Lib.hid hol
      clear hol
      rw [List.drop_of_length_le (Nat.le_of_eq Hsegl.out), List.append_nil] at ar
      have hlen1 : (pre ++ os).length = k + l2.length := by rw [List.length_append, Hprel.out, Hol.out]
      have g4 := arr_cell ar (k + l2.length) (by rw [List.length_append, hlen1]; simp)
      have hsg : (pre ++ os ++ (0 :: post)).getD (k + l2.length) 0 = 0 := by
        rw [List.getD_eq_getElem?_getD, List.getElem?_append_right (by omega), hlen1, Nat.sub_self]; rfl
      rw [hsg] at g4
      have f4 := arr_frozen ar (k + l2.length)
      have tg := arr_lt ar
      have gb0 := b0.cell
      have fb0 := b0.frozen
      have tb0 := b0.lt
      have gb2 := b2.cell
      have fb2 := b2.frozen
      have tb2 := b2.lt
      have ge0 := e0.cell
      have fe0 := e0.frozen
      have te0 := e0.lt
      have ge1 := e1.cell
      have fe1 := e1.frozen
      have te1 := e1.lt
      have gc0 := c0.cell
      have fc0 := c0.frozen
      have tc0 := c0.lt

      have hcy' : (cy : Int) % 4294967296 = (cy : Int) := by omega
      have Hlen1 := Lib.hid hlen1
      clear hsg hlen1
      gi_wp2
      have hY2 : Below w.heap.size W2 (Y.setCell ⟨w.heap.size + 1, k + l2.length, none⟩ (.int .u32 (cy : Int))) := hblY.setCell (by dsimp only; omega) _
      refine ⟨hKY.trans ((KeepsOthers.setCell Y _ _).from _), hY2, pre ++ os ++ [cy], by (repeat (first | with_reducible exact b0 | with_reducible exact HasBox.of b0 | with_reducible refine boxed_other ?_ (by omega) _ | with_reducible refine boxed_set _ ?_ | with_reducible refine HasBox.set ?_ _ _ | with_reducible refine HasBox.alloc ?_ _ | with_reducible refine HasBox.drewN ?_ _ | with_reducible refine Boxed.alloc ?_ _ | with_reducible refine boxed_drewN ?_ _)), ?_, by (repeat (first | with_reducible exact b2 | with_reducible exact HasBox.of b2 | with_reducible refine boxed_other ?_ (by omega) _ | with_reducible refine boxed_set _ ?_ | with_reducible refine HasBox.set ?_ _ _ | with_reducible refine HasBox.alloc ?_ _ | with_reducible refine HasBox.drewN ?_ _ | with_reducible refine Boxed.alloc ?_ _ | with_reducible refine boxed_drewN ?_ _)), hbl.trans hY2, Nat.le_trans hsz hY2.size, ?_, words_append.2 ⟨words_append.2 ⟨wpre, how⟩, fun u hu => by simp at hu; rw [hu]; exact hcy⟩, ?_⟩
      · have e : (pre ++ os ++ (0 :: post)).set (k + l2.length) cy = pre ++ os ++ [cy] ++ List.replicate (l1.length - (k + 1)) 0 := by
          rw [List.set_append_right _ _ (by have := Hlen1.out; omega), Hlen1.out, Nat.sub_self, List.set_cons_zero, ← Hpost.out]
          simp
        rw [← e]
        exact arr_set ar (k + l2.length) cy
      · show (pre ++ os ++ [cy]).length = k + 1 + l2.length
        rw [List.length_append, Hlen1.out]; simp; omega
      · show val (pre ++ os ++ [cy]) = val (l1.take (k + 1)) * val l2
        have h := hv.out
        rw [List.take_of_length_le (Nat.le_of_eq Hsegl.out), List.take_of_length_le (Nat.le_refl l2.length)] at h
        rw [val_take_succ l1 k x hx.out, List.append_assoc, val_append, Hprel.out, val_snoc, Hol.out, h, Nat.add_mul, Nat.mul_add, ← hval.out, Hvlo.out, Nat.mul_assoc, Nat.add_assoc]
  case done =>
    rintro D W hD ⟨lo, b0, ar, b2, hbl, hsz, hlo, low, hval⟩ hK
    rw [Nat.sub_self, List.replicate_zero, List.append_nil] at ar
    have hlen : lo.length = N := by rw [hlo.out, hN'.out]
    have hrd := arr_rd ar low (by omega)
    have ht := fun n => trim_in n (some ⟨w.heap.size + 1, 0, none⟩) N lo W hrd (by omega)
    have hval' : trim lo = lim (val l1 * val l2) := by
      have := hval.out
      rw [List.take_of_length_le (Nat.le_refl _)] at this
      unfold trim; rw [this]
    rw [hval', hlen] at ht
    have hrd2 := hrd.trim
    have htl := trim_length_le low
    rw [hval', hlen] at htl
    rw [hval'] at hrd2
    have gb2 := b2.cell
    have Hval' := Lib.hid hval'
    clear hval' hlen hval
    gi_wp2_with (gi_at_call 63; refine (ht _).mono ?_; rintro e w' ⟨rfl, rfl⟩)
    refine ⟨by simp, .inl ⟨_, _, rfl, run_takeDeferred hK, ?_⟩⟩
    exact ⟨_, results_tmp rfl _ _ _, _, _, rfl, htl, hrd2.putObj _ hK rfl, hbl.trans (belowK_b (w := w) (Nat.le_refl _) W D _ _ (by omega) hK rfl rfl)⟩
end Nm
end Go.Proofs.YtlhmbbpkhahbeaaGreatDoor
