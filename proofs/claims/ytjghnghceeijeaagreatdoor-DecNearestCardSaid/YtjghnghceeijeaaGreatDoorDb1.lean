/-
  Contracts of the walks below.
-/
import Derived.Test.YtjghnghceeijeaaGreatDoorProg
import Derived.Below
import Derived.WalkKit
import Derived.OwnWalk
import Derived.Deep.QuietTactic
import Derived.BigQuiet
import Derived.Lib.Hide
import Derived.WalkSmall
import Derived.WalkSpells
import Derived.RangeFuncNested
import Derived.RangeFuncBound
import Derived.RangeFuncCalls
import Derived.RangeFuncLeaves
import Derived.Shelf.Abstract
import Derived.Shelf.RegionOpen
import Derived.OwnWalkIn
import Derived.TacticsInMore
import Derived.LoopNIn
import Derived.LoopIn
import Derived.Sort.BigQuietIn
import Derived.StillTail
set_option maxRecDepth 100000
set_option maxHeartbeats 4000000
set_option linter.unusedVariables false
set_option linter.unusedSimpArgs false
namespace Go.Proofs.YtjghnghceeijeaaGreatDoor
namespace Nm
abbrev BB : Nat := 4294967296
def val : List Nat → Nat
 | [] => 0
 | x :: r => x + BB * val r
def Words (l : List Nat) : Prop := ∀ x ∈ l, x < BB
def lim (n : Nat) : List Nat :=
 if _h : n = 0 then [] else n % BB :: lim (n / BB)
termination_by n
decreasing_by exact Nat.div_lt_self (by omega) (by decide)
theorem lim_zero : lim 0 = [] := by rw [lim]; simp
theorem lim_pos {n : Nat} (h : 0 < n) : lim n = n % BB :: lim (n / BB) := by rw [lim]; simp [show n ≠ 0 by omega]
theorem words_nil : Words [] := fun _ h => by cases h
theorem words_cons {x : Nat} {l : List Nat} : Words (x :: l) ↔ x < BB ∧ Words l := by simp [Words]
theorem words_append {a b : List Nat} : Words (a ++ b) ↔ Words a ∧ Words b := by
 simp only [Words, List.mem_append]
 exact ⟨fun h => ⟨fun x hx => h x (.inl hx), fun x hx => h x (.inr hx)⟩, fun h x hx => hx.elim (h.1 x) (h.2 x)⟩
theorem words_take {l : List Nat} (h : Words l) (k : Nat) : Words (l.take k) := fun x hx => h x (List.mem_of_mem_take hx)
theorem words_drop {l : List Nat} (h : Words l) (k : Nat) : Words (l.drop k) := fun x hx => h x (List.mem_of_mem_drop hx)
theorem words_getD {l : List Nat} (h : Words l) (i : Nat) : l.getD i 0 < BB := by
 rw [List.getD_eq_getElem?_getD]
 by_cases hi : i < l.length
 · simp only [List.getElem?_eq_getElem hi, Option.getD_some]; exact h _ (List.getElem_mem hi)
 · simp [List.getElem?_eq_none (by omega : l.length ≤ i)]
theorem words_replicate (k : Nat) : Words (List.replicate k 0) := fun x hx => by
 rw [List.mem_replicate] at hx; simp [hx.2]
theorem words_set {l : List Nat} (h : Words l) (i x : Nat) (hx : x < BB) : Words (l.set i x) := fun y hy => by
 rcases List.mem_or_eq_of_mem_set hy with h' | h'
 · exact h y h'
 · rw [h']; exact hx
theorem words_lim (n : Nat) : Words (lim n) := by
 induction n using Nat.strongRecOn with
 | _ n ih =>
  by_cases h : n = 0
  · subst h; rw [lim_zero]; exact words_nil
  · rw [lim_pos (by omega)]
    exact words_cons.2 ⟨Nat.mod_lt _ (by decide), ih _ (Nat.div_lt_self (by omega) (by decide))⟩
theorem val_lim (n : Nat) : val (lim n) = n := by
 induction n using Nat.strongRecOn with
 | _ n ih =>
  by_cases h : n = 0
  · subst h; rw [lim_zero]; rfl
  · rw [lim_pos (by omega)]
    simp only [val]
    rw [ih _ (Nat.div_lt_self (by omega) (by decide))]
    exact Nat.mod_add_div n BB
theorem val_append (a b : List Nat) : val (a ++ b) = val a + BB ^ a.length * val b := by
 induction a with
 | nil => simp [val]
 | cons x a ih =>
  simp only [List.cons_append, val, ih, List.length_cons, Nat.pow_succ]
  rw [Nat.mul_add, Nat.add_assoc, ← Nat.mul_assoc, Nat.mul_comm BB (BB ^ a.length)]
theorem val_replicate (k : Nat) : val (List.replicate k 0) = 0 := by
 induction k with
 | zero => rfl
 | succ k ih => simp [List.replicate_succ, val, ih]
theorem val_lt {l : List Nat} (h : Words l) : val l < BB ^ l.length := by
 induction l with
 | nil => simp [val]
 | cons x l ih =>
  have ⟨h1, h2⟩ := words_cons.1 h
  have := ih h2
  simp only [val, List.length_cons, Nat.pow_succ]
  have h3 : BB * val l + BB ≤ BB ^ l.length * BB := by
   rw [← Nat.mul_succ, Nat.mul_comm (BB ^ l.length)]; exact Nat.mul_le_mul (Nat.le_refl _) this
  omega
theorem val_snoc (l : List Nat) (x : Nat) : val (l ++ [x]) = val l + BB ^ l.length * x := by
 rw [val_append]; simp [val]
def Canon (l : List Nat) : Prop := Words l ∧ (∀ h : l ≠ [], l.getLast h ≠ 0)
theorem canon_nil : Canon [] := ⟨words_nil, fun h => absurd rfl h⟩
theorem canon_cons {x : Nat} {l : List Nat} (h : Canon (x :: l)) : Canon l := by
 refine ⟨(words_cons.1 h.1).2, fun hl => ?_⟩
 have := h.2 (by simp)
 rwa [List.getLast_cons hl] at this
theorem val_pos_of_canon {l : List Nat} (h : Canon l) (hl : l ≠ []) : 0 < val l := by
 induction l with
 | nil => exact absurd rfl hl
 | cons x l ih =>
  by_cases e : l = []
  · subst e
    have := h.2 (by simp)
    simp only [List.getLast_singleton] at this
    simp only [val]; omega
  · have := ih (canon_cons h) e
    simp only [val]
    have := Nat.mul_pos (show 0 < BB by decide) this
    omega
theorem lim_val {l : List Nat} (h : Canon l) : lim (val l) = l := by
 induction l with
 | nil => exact lim_zero
 | cons x l ih =>
  have hp := val_pos_of_canon h (by simp)
  have hx := (words_cons.1 h.1).1
  rw [lim_pos hp]
  simp only [val]
  rw [Nat.add_mul_mod_self_left, Nat.mod_eq_of_lt hx, Nat.add_mul_div_left _ _ (by decide), Nat.div_eq_of_lt hx, Nat.zero_add, ih (canon_cons h)]
theorem canon_lim (n : Nat) : Canon (lim n) := by
 refine ⟨words_lim n, ?_⟩
 induction n using Nat.strongRecOn with
 | _ n ih =>
  intro h
  by_cases h0 : n = 0
  · subst h0; exact absurd lim_zero h
  · by_cases h1 : n / BB = 0
    · have e : lim n = [n % BB] := by rw [lim_pos (by omega), h1, lim_zero]
      simp only [e, List.getLast_singleton]
      have := Nat.mod_add_div n BB
      rw [h1] at this; omega
    · have e : lim n = n % BB :: lim (n / BB) := lim_pos (by omega)
      have hne : lim (n / BB) ≠ [] := by rw [lim_pos (Nat.pos_of_ne_zero h1)]; simp
      simp only [e]
      rw [List.getLast_cons hne]
      exact ih _ (Nat.div_lt_self (by omega) (by decide)) hne
theorem lim_inj {a b : Nat} (h : lim a = lim b) : a = b := by rw [← val_lim a, h, val_lim]
theorem lim_nil {n : Nat} : lim n = [] ↔ n = 0 := ⟨fun h => lim_inj (h.trans lim_zero.symm), fun h => by rw [h, lim_zero]⟩
theorem lim_length_pos {n : Nat} (h : 0 < n) : 0 < (lim n).length := by rw [lim_pos h]; simp
theorem lt_pow_length (n : Nat) : n < BB ^ (lim n).length := by
 have := val_lt (words_lim n); rwa [val_lim] at this
theorem length_le_of_lt {n k : Nat} (h : n < BB ^ k) : (lim n).length ≤ k := by
 induction k generalizing n with
 | zero => simp at h; subst h; simp [lim_zero]
 | succ k ih =>
  by_cases h0 : n = 0
  · subst h0; simp [lim_zero]
  · rw [lim_pos (by omega)]
    have : n / BB < BB ^ k := by rw [Nat.div_lt_iff_lt_mul (by decide)]; rwa [Nat.pow_succ] at h
    have := ih this
    simp; omega
theorem length_le_iff {n k : Nat} : (lim n).length ≤ k ↔ n < BB ^ k :=
 ⟨fun h => Nat.lt_of_lt_of_le (lt_pow_length n) (Nat.pow_le_pow_right (by decide) h), length_le_of_lt⟩
theorem length_mono {a b : Nat} (h : a ≤ b) : (lim a).length ≤ (lim b).length :=
 length_le_of_lt (Nat.lt_of_le_of_lt h (lt_pow_length b))
theorem pow_le_of_length {n k : Nat} (h : k < (lim n).length) : BB ^ k ≤ n := by
 by_cases hh : n < BB ^ k
 · have := length_le_of_lt hh; omega
 · omega
def trim (l : List Nat) : List Nat := lim (val l)
theorem trim_canon {l : List Nat} (h : Canon l) : trim l = l := lim_val h
theorem trim_snoc_zero (l : List Nat) : trim (l ++ [0]) = trim l := by unfold trim; rw [val_snoc]; simp
theorem val_take_of_zero {l : List Nat} {k : Nat} (hz : ∀ i, k ≤ i → l.getD i 0 = 0) : val (l.take k) = val l := by
 induction l generalizing k with
 | nil => simp
 | cons x l ih =>
  cases k with
  | zero =>
   have hx : x = 0 := by simpa using hz 0 (by omega)
   have hl : ∀ i, l.getD i 0 = 0 := fun i => by simpa using hz (i + 1) (by omega)
   have := @ih 0 (fun i _ => hl i)
   simp only [List.take_zero, val] at this ⊢
   rw [hx, ← this, Nat.mul_zero]
  | succ k =>
   simp only [List.take_succ_cons, val]
   rw [ih (fun i hi => by simpa using hz (i + 1) (by omega))]
theorem trim_eq_take {l : List Nat} (hw : Words l) {k : Nat} (hk : k ≤ l.length) (hz : ∀ i, k ≤ i → l.getD i 0 = 0) (ht : k = 0 ∨ l.getD (k - 1) 0 ≠ 0) : trim l = l.take k := by
 unfold trim
 rw [← val_take_of_zero hz]
 refine lim_val ⟨words_take hw k, fun h => ?_⟩
 have hk0 : k ≠ 0 := by rintro rfl; simp at h
 have hkl : 0 < l.length := by omega
 have hlast := ht.resolve_left hk0
 rw [List.getLast_eq_getElem]
 have hlen : (l.take k).length = k := by simp [hk]
 simp only [hlen, List.getElem_take]
 rw [List.getD_eq_getElem?_getD, List.getElem?_eq_getElem (by omega)] at hlast
 simpa using hlast
theorem trim_length_le {l : List Nat} (hw : Words l) : (trim l).length ≤ l.length := length_le_of_lt (val_lt hw)
theorem val_lt_of_length {a b : List Nat} (ha : Words a) (hb : Canon b) (h : a.length < b.length) : val a < val b := by
 have h1 := val_lt ha
 have h2 := pow_le_of_length (n := val b) (k := a.length) (by rw [lim_val hb]; exact h)
 omega
theorem val_drop_lt {a b : List Nat} (ha : Words a) (_hb : Words b) (hl : a.length = b.length) {k : Nat} (hk : k < a.length)
 (heq : a.drop (k + 1) = b.drop (k + 1)) (hlt : a.getD k 0 < b.getD k 0) : val a < val b := by
 have hk2 : k < b.length := by omega
 have ea : a = a.take k ++ (a[k] :: a.drop (k + 1)) := by simp
 have eb : b = b.take k ++ (b[k] :: b.drop (k + 1)) := by simp
 simp only [List.getD_eq_getElem?_getD, List.getElem?_eq_getElem hk, List.getElem?_eq_getElem hk2, Option.getD_some] at hlt
 rw [ea, eb, val_append, val_append, heq]
 have h1 := val_lt (words_take ha k)
 have hla : (a.take k).length = k := by simp; omega
 have hlb : (b.take k).length = k := by simp; omega
 rw [hla] at h1 ⊢
 rw [hlb]
 simp only [val]
 have h3 : BB ^ k * (a[k] + BB * val (b.drop (k + 1))) + BB ^ k ≤ BB ^ k * (b[k] + BB * val (b.drop (k + 1))) := by
  rw [← Nat.mul_succ]; exact Nat.mul_le_mul (Nat.le_refl _) (by omega)
 omega
end Nm
end Go.Proofs.YtjghnghceeijeaaGreatDoor
namespace Go.Proofs.YtjghnghceeijeaaGreatDoor
namespace Nm
open Go.RowKit
structure Rd (w : World) (A : Option Addr) (l : List Nat) : Prop where
 cell : ∀ i, i < l.length → ∃ b o, A = some ⟨b, o, none⟩ ∧ w.cell? ⟨b, o + i, none⟩ = some (.int .u32 (l.getD i 0 : Nat))
 words : Words l
 small : l.length ≤ 35184372088832
theorem Rd.get {w : World} {A : Option Addr} {l : List Nat} (h : Rd w A l) (i : Nat) (hi : i < l.length) :
 ∃ (b o x : Nat), A = some ⟨b, o, none⟩ ∧ w.cell? ⟨b, o + i, none⟩ = some (.int .u32 (x : Int)) ∧ Hid (l.getD i 0 = x) ∧ x < 4294967296 := by
 obtain ⟨b, o, e, hc⟩ := h.cell i hi
 exact ⟨b, o, _, e, hc, rfl, words_getD h.words i⟩
theorem Rd.nil (w : World) (A : Option Addr) : Rd w A [] := ⟨fun i h => absurd h (Nat.not_lt_zero _), words_nil, by simp⟩
theorem Rd.below {n : Nat} {w w' : World} {A : Option Addr} {l : List Nat} (h : Rd w A l) (hb : Below n w w') (hn : n = w.heap.size) : Rd w' A l :=
 ⟨fun i hi => by
  obtain ⟨b, o, e, hc⟩ := h.cell i hi
  exact ⟨b, o, e, (hb.cell (p := ⟨b, o + i, none⟩) (by rw [hn]; exact World.block_lt_of_cell? w _ hc)).trans hc⟩, h.words, h.small⟩
theorem Rd.same {w w' : World} {A : Option Addr} {l : List Nat} (h : Rd w A l) (hb : ∀ a v, w.cell? a = some v → w'.cell? a = some v) : Rd w' A l :=
 ⟨fun i hi => by obtain ⟨b, o, e, hc⟩ := h.cell i hi; exact ⟨b, o, e, hb _ _ hc⟩, h.words, h.small⟩
theorem Rd.take {w : World} {A : Option Addr} {l : List Nat} (h : Rd w A l) (k : Nat) : Rd w A (l.take k) := by
 refine ⟨fun i hi => ?_, words_take h.words k, by have := h.small; simp; omega⟩
 have hi' : i < k ∧ i < l.length := by rw [List.length_take] at hi; omega
 obtain ⟨b, o, e, hc⟩ := h.cell i hi'.2
 exact ⟨b, o, e, by rw [hc]; simp [List.getD_eq_getElem?_getD, hi'.1]⟩
theorem trim_pre {l : List Nat} (hw : Words l) : ∃ k, k ≤ l.length ∧ trim l = l.take k := by
 induction hn : l.length generalizing l with
 | zero => obtain rfl : l = [] := List.length_eq_zero_iff.1 hn; exact ⟨0, by simp, by simp [trim, val, lim_zero]⟩
 | succ n ih =>
  have hne : l ≠ [] := by rintro rfl; simp at hn
  have e := List.dropLast_concat_getLast hne
  by_cases h0 : l.getLast hne = 0
  · rw [h0] at e
    have hw' : Words l.dropLast := by rw [List.dropLast_eq_take]; exact words_take hw _
    obtain ⟨k, hk, ht⟩ := ih hw' (by simp [hn])
    have hk' : k ≤ n := by simpa [hn] using hk
    refine ⟨k, by omega, ?_⟩
    rw [← e, trim_snoc_zero, ht, List.take_append_of_le_length (by simp [hn]; omega)]
  · exact ⟨l.length, by omega, by rw [List.take_length, trim_canon ⟨hw, fun _ => h0⟩]⟩
theorem Rd.trim {w : World} {A : Option Addr} {l : List Nat} (h : Rd w A l) : Rd w A (trim l) := by
 obtain ⟨k, _, e⟩ := trim_pre h.words
 rw [e]; exact h.take k
theorem trim_calls (A : Option Addr) (c : Nat) (l : List Nat) (w : World) (hA : Rd w A l) (hl : l.length ≤ c) :
 Calls Tryz.prog 164 #[.slice A l.length c] w fun e w' => e = .returned (.slice A (trim l).length c) ∧ w = w' := by
 have hs := hA.small
 go_enter Tryz.func164, Tryz.ntmps164
 go_wp2
 go_loop [3] (fun n => ∃ k : Nat, k ≤ l.length ∧ n = .int .i64 k ∧ Hid (∀ i, k ≤ i → l.getD i 0 = 0)) (fun n => (intOf n).toNat)
 case atStart => exact ⟨l.length, Nat.le_refl _, rfl, fun i hi => by rw [List.getD_eq_getElem?_getD, List.getElem?_eq_none (by omega)]; rfl⟩
 case round =>
  obtain ⟨k, hk, rfl, hz⟩ := hrel
  by_cases h0 : 0 < k
  · obtain ⟨b, o, x, rfl, hc, hx, hxb⟩ := hA.get (k - 1) (by omega)
    by_cases hx0 : x = 0
    · subst hx0
      go_wp2
      go_round
      case rel => 
       refine ⟨k - 1, by omega, by go_num, fun i hi => ?_⟩
       by_cases e : i = k - 1
       · rw [e]; exact hx.out
       · exact hz.out i (by omega)
      case measure => simp [intOf]; omega
    · have hx1 : ((x : Int) == 0) = false := by simp; omega
      go_wp2
      go_ret
      rw [trim_eq_take hA.words hk hz.out (.inr (by rw [hx.out]; exact hx0))]
      exact ⟨by simp [Nat.min_eq_left hk], rfl⟩
  · obtain rfl : k = 0 := by omega
    go_wp2
    go_ret
    rw [trim_eq_take hA.words hk hz.out (.inl rfl)]
    exact ⟨by simp, rfl⟩
end Nm
end Go.Proofs.YtjghnghceeijeaaGreatDoor
namespace Go.Proofs.YtjghnghceeijeaaGreatDoor
namespace Nm
open Go.RowKit Go.Shelf
attribute [local go_sem] Oper.semAt_some
def LimbSeq (F : Fence) (n : Nat) (P : Program) (gf : Nat) (lb : Array Value) (l : List Nat) (n₀ : Nat) (w : World) : Prop :=
 ∀ (lp : Nat) (J : Nat → World → Prop) (W : World), Below w.heap.size w W → AbidesFrom W.heap.size J →
  (∀ k W1, J k W1 → k < l.length → YieldAt F (n - 1) P lp #[.int .i64 (k : Int), .int .u32 (l.getD k 0 : Nat)] W1 fun e W' =>
   e = .returned (.bool true) ∧ J (k + 1) W' ∧ Below n₀ W1 W') →
  J 0 W →
  CallsIn F n P gf (#[.func (.yield lp) #[] #[]] ++ lb) W fun e W' => (∃ v, e = .returned v) ∧ J l.length W'
def limbPost (B n₀ : Nat) (I : World → Prop) (W : World) : Exit → Act → World → Prop
 | .normal, _, W' => KeepsFrom B W W' ∧ Below n₀ W W' ∧ I W'
 | _, _, _ => False
variable {F : Fence} {n : Nat} {P : Program}
theorem wpIn_limbs {g : Operand} {ps : Array Tmp} {assign body : Code} {Q : Exit → Act → World → Prop} {a : Act} {w : World} {l : List Nat} {n₀ : Nat}
 (hro : F.round = none) (h1 : 1 ≤ n) {gf : Nat} {lb : Array Value} (hg : a.eval g = .func (.func gf) #[] lb) (hFg : F.fn gf) (eg : ∀ args w, (callFunc gf args).run P w = .ok (.enter gf args) w)
 {w0 : World} (hseq : LimbSeq F (n - 1) P gf lb l n₀ w0) (hn₀ : n₀ ≤ w.heap.size) (hb0 : Below w0.heap.size w0 w) (hps : ps.size = 2)
 (I : Nat → World → Prop) (hI : OwnFrom w.heap.size I) (h0 : I 0 w) (Ax : Nat → Act → World → Prop) (hAx : ∀ k a', OwnFrom w.heap.size (fun (_ : Unit) W => Ax k a' W))
 (hassign : ∀ (k : Nat) (W : World) (K : Act → World → Prop), I k W → k < l.length → (∀ a' W', KeepsFrom w.heap.size W W' → Below n₀ W W' → I k W' → Ax k a' W' → K a' W') →
  assign.wpIn (F.inRound (w.heap.size + 1)) (n - 1 - 1) P (Exit.then K (fun _ _ _ => False)) { tmps := (ps.zip #[.int .i64 (k : Int), .int .u32 (l.getD k 0 : Nat)]).foldl (fun t (p, v) => t.setIfInBounds p v) a.tmps, defers := [] } W)
 (hbody : ∀ (k : Nat) (a' : Act) (W : World), (∃ r, W.heap[w.heap.size + 1]? = some (.loop r)) → I k W → Ax k a' W → k < l.length → body.wpIn (F.inRound (w.heap.size + 1)) (n - 1 - 1) P (limbPost w.heap.size n₀ (I (k + 1)) W) a' W)
 (hdone : ∀ (D : Nat) (W : World), w.heap.size ≤ D → I l.length W → W.heap[D]? = some (.deferred (some [])) → Q .normal { a with defers := { target := .collected D, args := #[] } :: a.defers } W) :
 (Code.rangeFunc g ps assign body).wpIn F n P Q a w := by
 have hKb : ∀ (W : World) (l : Nat) (o o' : Obj), w.heap.size ≤ l → W.heap[l]? = some o → o.isCells = false → o.isWalk = false → Below n₀ W (W.putObj l o') := belowK_b hn₀
 refine wpIn_rangeFunc ?_
 intro fn hfn
 rw [hro]
 obtain ⟨rec, hrec⟩ : ∃ rec : LoopState → Option Code → Loop, rec = fun st pe => { state := st, pending := pe, fn, tmps := a.tmps, params := ps, assign, body, defers := w.heap.size } := ⟨_, rfl⟩
 obtain ⟨W1, hW1⟩ : ∃ W1, (w.alloc (.deferred (some []))).alloc (.loop (rec .ready none)) = W1 := ⟨_, rfl⟩
 have hL1 : W1.heap[w.heap.size + 1]? = some (.loop (rec .ready none)) := by
  rw [← hW1]; have := World.alloc_heap_new (w.alloc (.deferred (some []))) (.loop (rec .ready none)); rwa [World.size_alloc] at this
 have hK1 : W1.heap[w.heap.size]? = some (.deferred (some [])) := by
  rw [← hW1]; exact (Below.heap_alloc _ _ _ (by simp)).trans (World.alloc_heap_new w _)
 have hI1 : I 0 W1 := by rw [← hW1]; exact hI.alloc _ (hI.alloc _ h0)
 have hb1 : Below w0.heap.size w0 W1 := by
  rw [← hW1]; exact hb0.trans ((((Below.refl _ w).alloc (Nat.le_refl _) _).alloc (by simp) _).mono hb0.size)
 refine ⟨w.heap.size + 1, [{ target := .collected w.heap.size, args := #[] }], W1, { target := .fn (.func gf) lb, args := #[.func (.yield (w.heap.size + 1)) #[] #[]] }, W1, gf,
  #[.func (.yield (w.heap.size + 1)) #[] #[]] ++ lb, W1, ?_, ?_, ?_, ?_, fun _ => h1, ?_⟩
 · rw [← hW1, hrec]; exact run_enterLoop_outer _ _ _ _ _
 · simp only [resolve, hg]
   simp [go_sem]
 · intro f' hf'; simp [Target.leads] at hf'; subst hf'; exact hFg
 · simp [invoke, go_sem, eg]
 · have hnw : ∀ {A B : World} {row : Option Nat}, (∀ r, row = some r → W1.heap.size ≤ r ∧ ∃ o : Obj, A.heap[r]? = some o ∧ o.isWalk = true) → (∀ r, row = some r → w.heap.size ≤ r ∧ ∃ o : Obj, A.heap[r]? = some o ∧ o.isCells = false) :=
    fun hr r e => by obtain ⟨hB, o, ho, hw⟩ := hr r e; exact ⟨by rw [← hW1] at hB; simp at hB; omega, o, ho, Obj.not_cells_of_walk hw⟩
   refine (hseq (w.heap.size + 1)
    (fun k W => I k W ∧ W.heap[w.heap.size + 1]? = some (.loop (rec .ready none)) ∧ W.heap[w.heap.size]? = some (.deferred (some [])))
    W1 hb1
    (fun s A B row hs hg' hr => ⟨hI s A B row hs.1 hg' (hnw (B := B) hr), (grownBy_keeps hg' (fun r e => (hr r e).2) hs.2.1 rfl).trans hs.2.1, (grownBy_keeps hg' (fun r e => (hr r e).2) hs.2.2 rfl).trans hs.2.2⟩)
    ?_ ⟨hI1, hL1, hK1⟩).mono ?_
   · rintro k W ⟨hi, hl, hk⟩ hlen
     have hlt : w.heap.size + 1 < W.heap.size := (Array.getElem?_eq_some_iff.1 hl).1
     have hy := run_yield (P := P) (args := #[.int .i64 (k : Int), .int .u32 (l.getD k 0 : Nat)]) hl (by rw [hrec]; exact hps.symm)
     rw [hrec] at hy
     refine ⟨fn, _, assign, body, hy, roundIn_of_wpIn hfn (hassign k W _ hi hlen ?_)⟩
     clear hy
     intro a' Wa hkfa hkpa hia hax
     replace hl := hkfa.same _ _ (by omega) hl rfl
     replace hk := hkfa.same _ _ (Nat.le_refl _) hk rfl
     replace hlt : w.heap.size + 1 < Wa.heap.size := (Array.getElem?_eq_some_iff.1 hl).1
     replace hi := hia
     clear hia
     revert hkpa hkfa
     generalize W = Wb
     intro hkfa hkpa
     obtain ⟨W, rfl⟩ : ∃ W, W = Wa := ⟨_, rfl⟩
     refine ⟨_, run_beginRound hl (by rw [hrec]), ?_⟩
     have hl2 : (W.putObj (w.heap.size + 1) (.loop { rec .ready none with state := .busy })).heap[w.heap.size + 1]? = some (.loop { rec .ready none with state := .busy }) := World.putObj_heap_same hlt
     have hk2 : (W.putObj (w.heap.size + 1) (.loop { rec .ready none with state := .busy })).heap[w.heap.size]? = some (.deferred (some [])) := (World.putObj_heap_other (by omega)).trans hk
     have hw2 : Below n₀ W (W.putObj (w.heap.size + 1) (.loop { rec .ready none with state := .busy })) := hKb _ _ _ _ (by omega) hl rfl rfl
     refine wpIn_mono (hbody k a' _ ⟨_, hl2⟩ (hI.putObj _ hi (by omega) hl rfl) ((hAx k a').putObj (s := ()) _ hax (by omega) hl rfl) hlen) ?_
     rintro e a3 W3 hp
     cases e with
     | normal =>
      obtain ⟨hk3, hkp3, hi3⟩ := hp
      have hl3 := hk3.same _ _ (by omega) hl2 rfl
      have hr := run_endRound (P := P) none hl3
      rw [hrec] at hr hl3
      refine ⟨_, _, hr, rfl, ⟨hI.putObj _ hi3 (by omega) hl3 rfl, ?_, ?_⟩, hkpa.trans ((hw2.trans hkp3).trans (hKb _ _ _ _ (by omega) hl3 rfl rfl))⟩
      · rw [hrec]; exact World.putObj_heap_same (Array.getElem?_eq_some_iff.1 hl3).1
      · exact (World.putObj_heap_other (by omega)).trans (hk3.same _ _ (Nat.le_refl _) hk2 rfl)
     | ret => exact hp.elim
     | exit id => exact hp.elim
     | goto t => exact hp.elim
     | panic ch => exact hp.elim
     | outgrown => exact hp.elim
   · rintro e W2 ⟨⟨v, rfl⟩, hi, hl, hk⟩
     exact ⟨none, _, by have := run_endLoop (P := P) hl (by rw [hrec]; simp); rw [hrec] at this; exact this, hdone _ _ (Nat.le_refl _) (hI.putObj _ hi (by omega) hl rfl) ((World.putObj_heap_other (by omega)).trans hk)⟩
theorem wpIn_limbs_p {g : Operand} {ps : Array Tmp} {assign body : Code} {Q : Exit → Act → World → Prop} {a : Act} {w : World} {l : List Nat} {n₀ : Nat}
 (hro : F.round = none) (h1 : 1 ≤ n) {gf : Nat} {lb : Array Value} (hg : a.eval g = .func (.func gf) #[] lb) (hFg : F.fn gf) (eg : ∀ args w, (callFunc gf args).run P w = .ok (.enter gf args) w)
 {w0 : World} (hseq : LimbSeq F (n - 1) P gf lb l n₀ w0) (hn₀ : n₀ ≤ w.heap.size) (hb0 : Below w0.heap.size w0 w) (hps : ps.size = 2)
 (I : Nat → World → Prop) (hI : OwnFrom w.heap.size I) (h0 : I 0 w)
 (hround : ∀ (k : Nat) (W : World), k < l.length → 
  assign.wpIn (F.inRound (w.heap.size + 1)) (n - 1 - 1) P (Exit.then (fun a' W' => W' = W ∧ ∀ W2, I k W2 → body.wpIn (F.inRound (w.heap.size + 1)) (n - 1 - 1) P (limbPost w.heap.size n₀ (I (k + 1)) W2) a' W2) (fun _ _ _ => False)) { tmps := (ps.zip #[.int .i64 (k : Int), .int .u32 (l.getD k 0 : Nat)]).foldl (fun t (p, v) => t.setIfInBounds p v) a.tmps, defers := [] } W)
 (hdone : ∀ (D : Nat) (W : World), w.heap.size ≤ D → I l.length W → W.heap[D]? = some (.deferred (some [])) → Q .normal { a with defers := { target := .collected D, args := #[] } :: a.defers } W) :
 (Code.rangeFunc g ps assign body).wpIn F n P Q a w :=
 wpIn_limbs hro h1 hg hFg eg hseq hn₀ hb0 hps I hI h0 (fun k a' _ => ∀ W2, I k W2 → body.wpIn (F.inRound (w.heap.size + 1)) (n - 1 - 1) P (limbPost w.heap.size n₀ (I (k + 1)) W2) a' W2) (fun _ _ _ _ _ _ hs _ _ => hs)
  (fun k W K hi hk hK => wpIn_mono (hround k W hk) (fun e a' W' h => by
   cases e with
   | normal => obtain ⟨rfl, h⟩ := h; exact hK _ _ (KeepsFrom.refl _ _) (Below.refl _ _) hi h
   | ret => exact h.elim
   | exit id => exact h.elim
   | goto t => exact h.elim
   | panic ch => exact h.elim
   | outgrown => exact h.elim)) (fun k a' W _ hi e hk => e W hi) hdone
theorem wpIn_limbs_in {g : Operand} {ps : Array Tmp} {assign body : Code} {Q : Exit → Act → World → Prop} {a : Act} {w : World} {l : List Nat} {n₀ : Nat}
 {l₀ : Nat} {r₀ : Loop} (hro : F.round = some l₀) (hl₀ : w.heap[l₀]? = some (.loop r₀)) (h1 : 1 ≤ n) {gf : Nat} {lb : Array Value} (hg : a.eval g = .func (.func gf) #[] lb) (hFg : F.fn gf) (eg : ∀ args w, (callFunc gf args).run P w = .ok (.enter gf args) w)
 {w0 : World} (hseq : LimbSeq F (n - 1) P gf lb l n₀ w0) (hn₀ : n₀ ≤ w.heap.size) (hb0 : Below w0.heap.size w0 w) (hps : ps.size = 2)
 (I : Nat → World → Prop) (hI : OwnFrom w.heap.size I) (h0 : I 0 w)
 (hround : ∀ (k : Nat) (W : World), k < l.length →
  assign.wpIn (F.inRound w.heap.size) (n - 1 - 1) P (Exit.then (fun a' W' => W' = W ∧ ∀ W2, I k W2 → body.wpIn (F.inRound w.heap.size) (n - 1 - 1) P (limbPost w.heap.size n₀ (I (k + 1)) W2) a' W2) (fun _ _ _ => False)) { tmps := (ps.zip #[.int .i64 (k : Int), .int .u32 (l.getD k 0 : Nat)]).foldl (fun t (p, v) => t.setIfInBounds p v) a.tmps, defers := [] } W)
 (hdone : ∀ (W : World), I l.length W → Q .normal a W) :
 (Code.rangeFunc g ps assign body).wpIn F n P Q a w := by
 have hKb : ∀ (W : World) (l : Nat) (o o' : Obj), w.heap.size ≤ l → W.heap[l]? = some o → o.isCells = false → o.isWalk = false → Below n₀ W (W.putObj l o') := belowK_b hn₀
 refine wpIn_rangeFunc ?_
 intro fn hfn
 rw [hro]
 obtain ⟨rec, hrec⟩ : ∃ rec : LoopState → Option Code → Loop, rec = fun st pe => { state := st, pending := pe, fn, tmps := a.tmps, params := ps, assign, body, defers := r₀.defers } := ⟨_, rfl⟩
 obtain ⟨W1, hW1⟩ : ∃ W1, w.alloc (.loop (rec .ready none)) = W1 := ⟨_, rfl⟩
 have hL1 : W1.heap[w.heap.size]? = some (.loop (rec .ready none)) := by rw [← hW1]; exact World.alloc_heap_new w _
 have hI1 : I 0 W1 := by rw [← hW1]; exact hI.alloc _ h0
 have hb1 : Below w0.heap.size w0 W1 := by
  rw [← hW1]; exact hb0.trans (((Below.refl _ w).alloc (Nat.le_refl _) _).mono hb0.size)
 refine ⟨w.heap.size, [], W1, { target := .fn (.func gf) lb, args := #[.func (.yield w.heap.size) #[] #[]] }, W1, gf,
  #[.func (.yield w.heap.size) #[] #[]] ++ lb, W1, ?_, ?_, ?_, ?_, fun _ => h1, ?_⟩
 · rw [← hW1, hrec]; exact run_enterLoop_inner hl₀ _ _ _ _ _
 · simp only [resolve, hg]
   simp [go_sem]
 · intro f' hf'; simp [Target.leads] at hf'; subst hf'; exact hFg
 · simp [invoke, go_sem, eg]
 · have hnw : ∀ {A B : World} {row : Option Nat}, (∀ r, row = some r → W1.heap.size ≤ r ∧ ∃ o : Obj, A.heap[r]? = some o ∧ o.isWalk = true) → (∀ r, row = some r → w.heap.size ≤ r ∧ ∃ o : Obj, A.heap[r]? = some o ∧ o.isCells = false) :=
    fun hr r e => by obtain ⟨hB, o, ho, hw⟩ := hr r e; exact ⟨by rw [← hW1] at hB; simp at hB; omega, o, ho, Obj.not_cells_of_walk hw⟩
   refine (hseq w.heap.size
    (fun k W => I k W ∧ W.heap[w.heap.size]? = some (.loop (rec .ready none)))
    W1 hb1
    (fun s A B row hs hg' hr => ⟨hI s A B row hs.1 hg' (hnw (B := B) hr), (grownBy_keeps hg' (fun r e => (hr r e).2) hs.2 rfl).trans hs.2⟩)
    ?_ ⟨hI1, hL1⟩).mono ?_
   · rintro k W ⟨hi, hl⟩ hlen
     have hlt : w.heap.size < W.heap.size := (Array.getElem?_eq_some_iff.1 hl).1
     have hy := run_yield (P := P) (args := #[.int .i64 (k : Int), .int .u32 (l.getD k 0 : Nat)]) hl (by rw [hrec]; exact hps.symm)
     rw [hrec] at hy
     refine ⟨fn, _, assign, body, hy, roundIn_of_wpIn hfn (wpIn_mono (hround k W hlen) (fun e a' W' h => ?_))⟩
     clear hy
     cases e with
     | ret => exact h.elim
     | exit id => exact h.elim
     | goto t => exact h.elim
     | panic ch => exact h.elim
     | outgrown => exact h.elim
     | normal => ?_
     obtain ⟨hWW, hbody⟩ := h
     rw [hWW]
     clear hWW
     refine ⟨_, run_beginRound hl (by rw [hrec]), ?_⟩
     have hl2 : (W.putObj w.heap.size (.loop { rec .ready none with state := .busy })).heap[w.heap.size]? = some (.loop { rec .ready none with state := .busy }) := World.putObj_heap_same hlt
     have hw2 : Below n₀ W (W.putObj w.heap.size (.loop { rec .ready none with state := .busy })) := hKb _ _ _ _ (Nat.le_refl _) hl rfl rfl
     refine wpIn_mono (hbody _ (hI.putObj _ hi (Nat.le_refl _) hl rfl)) ?_
     rintro e a3 W3 hp
     cases e with
     | normal =>
      obtain ⟨hk3, hkp3, hi3⟩ := hp
      have hl3 := hk3.same _ _ (Nat.le_refl _) hl2 rfl
      have hr := run_endRound (P := P) none hl3
      rw [hrec] at hr hl3
      refine ⟨_, _, hr, rfl, ⟨hI.putObj _ hi3 (Nat.le_refl _) hl3 rfl, ?_⟩, ((hw2.trans hkp3).trans (hKb _ _ _ _ (Nat.le_refl _) hl3 rfl rfl))⟩
      rw [hrec]; exact World.putObj_heap_same (Array.getElem?_eq_some_iff.1 hl3).1
     | ret => exact hp.elim
     | exit id => exact hp.elim
     | goto t => exact hp.elim
     | panic ch => exact hp.elim
     | outgrown => exact hp.elim
   · rintro e W2 ⟨⟨v, rfl⟩, hi, hl⟩
     exact ⟨none, _, by have := run_endLoop (P := P) hl (by rw [hrec]; simp); rw [hrec] at this; exact this, hdone _ (hI.putObj _ hi (Nat.le_refl _) hl rfl)⟩
theorem limbs1_in (n : Nat) (Bs : Nat) (A : Option Addr) (c : Nat) (l : List Nat) (n₀ : Nat) (w : World) (hBs : w.cell? ⟨Bs, 0, none⟩ = some (.slice A l.length c)) (hA : Rd w A l)
 (_hn₀ : n₀ ≤ w.heap.size) (hlow : ∀ b o, A = some ⟨b, o, none⟩ → 0 < l.length → b < n₀) :
 LimbSeq Fence.wide n Tryz.prog 236 #[.pointer (some ⟨Bs, 0, none⟩)] l n₀ w := by
 intro lp J W hW hJ hY h0
 have hBs' : W.cell? ⟨Bs, 0, none⟩ = some (.slice A l.length c) := (hW.cell (p := ⟨Bs, 0, none⟩) (World.block_lt_of_cell? w _ hBs)).trans hBs
 have hA' : Rd W A l := hA.below hW rfl
 have hsm := hA.small
 have hwd := hA.words
 clear hBs hA
 refine callsIn_of_wp Tryz.func236 rfl trivial ?_ rfl
 simp only [Tryz.ntmps236, List.size_toArray, List.length_cons, List.length_nil, Nat.reduceAdd, Nat.reduceSub, Array.replicate_succ, Array.replicate_zero, List.push_toArray, List.append_toArray, List.nil_append, List.cons_append]
 gi_wp2
 gi_loopw [7] (fun i wr => ∃ k : Nat, k ≤ l.length ∧ i = .int .i64 k ∧ J k wr ∧ Below n₀ W wr)
  (fun i _ => l.length - (intOf i).toNat)
 case atStart => exact ⟨0, Nat.zero_le _, rfl, h0, Below.refl _ _⟩
 case round =>
  obtain ⟨k, hk, rfl, hJs, hnx⟩ := hrel
  by_cases hlt : k < l.length
  · obtain ⟨b, o, x, rfl, hcx, hx, hxb⟩ := hA'.get k hlt
    replace hcx := (hnx.cell (p := ⟨b, o + k, none⟩) (hlow b o rfl (by omega))).trans hcx
    obtain ⟨fn, tmps, assign, body, hy, hR⟩ := hY k wr hJs hlt
    rw [hx.out] at hy
    gi_wp2
    refine ⟨fun h => by simp [Fence.wide] at h, hR.mono ?_⟩
    rintro e W3 ⟨rfl, hJ3, hk3⟩
    gi_wp2
    go_roundw
    case rel => exact ⟨k + 1, by omega, by simp, hJ3, hnx.trans hk3⟩
    case measure => simp [intOf]; omega
  · obtain rfl : k = l.length := by omega
    gi_wp2
    go_end0
    exact ⟨⟨_, rfl⟩, hJs⟩
theorem limbs_calls (A : Option Addr) (c k : Nat) (w : World) :
 Calls Tryz.prog 212 #[.slice A k c] w fun e w' => e = .returned (.func (.func 236) #[] #[.pointer (some ⟨w.heap.size, 0, none⟩)]) ∧ w' = w.alloc (.cells #[.slice A k c] 144) := by
 go_enter Tryz.func212, Tryz.ntmps212
 go_wp2
 go_ret
 exact ⟨rfl, rfl⟩
end Nm
end Go.Proofs.YtjghnghceeijeaaGreatDoor
namespace Go.Proofs.YtjghnghceeijeaaGreatDoor
namespace Nm
open Go.RowKit Go.Shelf Go.BigFrame
section
variable {F : Fence} {n : Nat} {P : Program} {ops : Array Oper} {md : Region.Mode} {C : World → Prop}
def noDefer (ops : Array Oper) : Bool := ops.all fun o => match o.op with | .defer _ => false | _ => true
theorem noDefer_spec (h : noDefer ops = true) {i : Nat} {o : Oper} (hi : ops[i]? = some o) : ∀ c, o.op ≠ .defer c := by
 intro c hc
 obtain ⟨hlt, he⟩ := Array.getElem?_eq_some_iff.1 hi
 have := (Array.all_eq_true.1 h) i hlt
 rw [he, hc] at this
 cases this
theorem semAt_same {o : Oper} (h : ∀ c, o.op ≠ .defer c) (r : Option Nat) (ρ : Operand → Value) : o.semAt r ρ = execOp ρ o := by
 cases r with
 | none => simp [Oper.semAt]
 | some l => exact Oper.semAt_some l _ _ h
theorem wpIn_of_quiet' {o : Oper} {a : Act} {K : Act → Prop} {K' : Act → World → Prop} {Q' : Exit → Act → World → Prop} {w : World} (hnd : ∀ c, o.op ≠ .defer c) (hw : C w) (h : ∀ a w', C w' → K a → K' a w')
 (ha : o.askedIn F P a C) (hh : o.quietIn F n P a C K) : o.wpIn F n P a w K' Q' := by
 obtain ⟨v, h1, h2⟩ := hh
 have h3 := h1 w hw
 unfold Oper.quietAtIn at h3
 unfold Oper.wpIn
 refine ⟨ha w hw, ?_⟩
 rw [semAt_same hnd]
 generalize (execOp a.eval o).run P w = r at *
 cases r with
 | ok x w' =>
  cases x <;> simp only [Oper.quietUponIn] at h3 <;> simp only [Oper.uponIn]
  case value u =>
   obtain ⟨e1, e2⟩ := h3
   rw [e1, e2]
   exact h _ _ hw h2
  case skip =>
   obtain ⟨e1, e2⟩ := h3
   rw [e1, ← e2]
   exact h _ _ hw h2
  case enter f args =>
   obtain ⟨e1, hd, hc⟩ := h3
   rw [e1]
   exact ⟨hd, hc.mono fun e w'' ⟨he, hw''⟩ => by subst he; exact h _ _ hw'' h2⟩
 | halt x w' => simp only [Oper.quietUponIn] at h3
theorem wpOpIn_of_quiet' {i : Nat} {a : Act} {K : Act → Prop} {K' : Act → World → Prop} {Q' : Exit → Act → World → Prop} {w : World} (hnd : noDefer ops = true) (hC : C w) (h : ∀ a w', C w' → K a → K' a w')
 (hh : qOpIn F n P ops C i K a) : wpOpIn F n P ops Q' i K' a w := by
 unfold qOpIn at hh
 unfold wpOpIn
 split
 · rename_i ho; simp only [ho] at hh; exact h _ _ hC hh
 · rename_i o ho
   simp only [ho] at hh
   obtain ⟨ha, hh⟩ := hh
   split
   · rename_i hw; simp only [hw, if_true] at hh; exact wpIn_of_quiet' (noDefer_spec hnd ho) hC h ha hh
   · rename_i hw; simp only [hw] at hh; exact ⟨ha w hC, h _ _ hC hh⟩
theorem wpAnyIn_of_quiet' {Q : Act → Prop} {Q' : Exit → Act → World → Prop} (hnd : noDefer ops = true) (hQ : ∀ a w, C w → Q a → Q' .normal a w) : ∀ (fuel : Nat) (listed : Array Bool) (a : Act) (w : World), C w →
 wpAnyQIn F n P md ops C Q fuel listed a → wpAnyIn F n P md ops Q' fuel listed a w
 | 0, _, _, _, hw, h => ⟨h.1, hQ _ _ hw h.2⟩
 | fuel + 1, _, _, _, hw, h => ⟨fun h0 => hQ _ _ hw (h.1 h0), fun i hi => wpOpIn_of_quiet' hnd hw (fun a' w' hw' => wpAnyIn_of_quiet' hnd hQ fuel _ a' w' hw') (h.2 i hi)⟩
theorem wpIn_region_all {id : Nat} {Q : Exit → Act → World → Prop} {a : Act} {w : World} {l : List Oper} (hm : P.follows .mixedOrders = true) (hnd : noDefer l.toArray = true) (hB : Region.lexB .any l.toArray = true)
 (h : wpQuietIn F n P l.toArray (fun w' => ∃ n, w' = w.drewN n) (fun a' => ∀ m, Q .normal a' (w.drewN m)) l a) : (Code.region id l.toArray true).wpIn F n P Q a w := by
 simp only [Region.lexB, Bool.and_eq_true] at hB
 refine wpIn_region_any hm (wpAnyIn_of_quiet' (C := fun w' => ∃ n, w' = w.drewN n) (Q := fun a' => ∀ m, Q .normal a' (w.drewN m)) hnd (fun _ w' hw' h => by obtain ⟨m, rfl⟩ := hw'; exact h m) _ _ _ _ ⟨1, rfl⟩ ?_)
 have := wpAnyQIn_lex (F := F) (n := n) (C := fun w' => ∃ n, w' = w.drewN n) (md := .any) hB.1 l 0 (Array.replicate l.toArray.size false) a (by simp) (by simpa using hB.2) h
 simpa using this
def wpAnyLQ (F : Fence) (n : Nat) (P : Program) (md : Region.Mode) (ops : Array Oper) (C : World → Prop) (nn : Nat) (L : Array Bool → Act → Prop) : Nat → Array Bool → Act → Prop
 | 0, listed, a => L listed a
 | f + 1, listed, a =>
  Region.ready md ops listed ≠ [] ∧ ∀ i ∈ Region.ready md ops listed, i < nn ∧ qOpIn F n P ops C i (wpAnyLQ F n P md ops C nn L f (listed.setIfInBounds i true)) a
theorem wpAnyIn_of_headQ {nn g : Nat} {L : Array Bool → Act → Prop} {Q' : Exit → Act → World → Prop} (hnd : noDefer ops = true) (hL : ∀ listed a w, C w → L listed a → wpAnyIn F n P md ops Q' g listed a w) :
 ∀ (f : Nat) (listed : Array Bool) (a : Act) (w : World), C w → wpAnyLQ F n P md ops C nn L f listed a → wpAnyIn F n P md ops Q' (f + g) listed a w
 | 0, listed, a, w, hw, h => by rw [Nat.zero_add]; exact hL _ _ _ hw h
 | f + 1, listed, a, w, hw, h => by
  rw [show f + 1 + g = (f + g) + 1 by omega]
  exact ⟨fun h0 => absurd h0 h.1, fun i hi => wpOpIn_of_quiet' hnd hw (fun a' w' hw' h' => wpAnyIn_of_headQ hnd hL f _ a' w' hw' h') (h.2 i hi).2⟩
theorem wpAnyLQ_first {nn i : Nat} {oi : Oper} {v : Value} {L : Array Bool → Act → Prop} (hi : ops[i]? = some oi) (hsel : ∀ (j : Nat) (o : Oper) cs b, ops[j]? = some o → o.op ≠ .select cs b)
 (hs : Region.sinkB md ops nn = true) (hc : Region.chainB md ops nn = true) (hn : nn < ops.size) (hin : i < nn)
 (hdone : ∀ listed a, L listed a → ∀ j ∈ Region.ready md ops listed, nn ≤ j) :
 ∀ (f : Nat) (listed : Array Bool) (a : Act), HeadInv md ops nn listed →
  (∀ j oj, ops[j]? = some oj → j ≠ i → listed.getD j true = false → (∀ e ∈ oj.after, Region.binds md e = true → e.on ≠ i) → oi.apart ops oj = true) →
  i ∈ Region.ready md ops listed → YieldsQuiet F n P ops C oi v a →
  wpAnyLQ F n P md ops C nn L f (listed.setIfInBounds i true) (a.put oi.dst v) → wpAnyLQ F n P md ops C nn L (f + 1) listed a := by
 intro f
 induction f with
 | zero =>
  intro listed a inv _ hr hy H
  have hun := (mem_ready.1 hr).1
  refine ⟨fun h => (by rw [h] at hr; cases hr), fun j hj => ?_⟩
  have hjn : j < nn := by
   rcases Nat.lt_or_ge j nn with h | h
   · exact h
   · exact absurd hj (tail_waits hs hc hn inv _ i rfl hin hun j h)
  refine ⟨hjn, ?_⟩
  by_cases hji : j = i
  · subst hji; exact hy.qOpIn hi H
  · have := hdone _ _ H j (ready_mono hj hji)
    omega
 | succ f ih =>
  intro listed a inv hfree hr hy H
  have hun := (mem_ready.1 hr).1
  refine ⟨fun h => (by rw [h] at hr; cases hr), fun j hj => ?_⟩
  have hjn : j < nn := by
   rcases Nat.lt_or_ge j nn with h | h
   · exact h
   · exact absurd hj (tail_waits hs hc hn inv _ i rfl hin hun j h)
  refine ⟨hjn, ?_⟩
  by_cases hji : j = i
  · subst hji; exact hy.qOpIn hi H
  · have h1 := (H.2 j (ready_mono hj hji)).2
    obtain ⟨hjun, oj, hoj, hall⟩ := mem_ready.1 hj
    have hnot : ∀ e ∈ oj.after, Region.binds md e = true → e.on ≠ i := fun e he hb heq => by
     have h1 := hall e he hb
     rw [heq, getD_both hun] at h1
     cases h1
    have h2 := qOpIn_put hoj (hfree j oj hoj hji hjun hnot) (fun cs b => hsel i oi cs b hi) (fun cs b => hsel j oj cs b hoj) hy h1
    have hfree' : ∀ k ok, ops[k]? = some ok → k ≠ i → (listed.setIfInBounds j true).getD k true = false →
     (∀ e ∈ ok.after, Region.binds md e = true → e.on ≠ i) → oi.apart ops ok = true := fun k ok hk hki hun hno => by
     refine hfree k ok hk hki ?_ hno
     by_cases hjk : j = k
     · subst hjk; exact hjun
     · rw [getD_set_ne true hjk] at hun; exact hun
    refine qOpIn_mono (fun a' h3 => ih (listed.setIfInBounds j true) a' (inv.set hj hjn) hfree' (ready_mono hr (Ne.symm hji)) h3.1 ?_) h2
    rw [Array.setIfInBounds_comm _ _ hji]
    exact h3.2
theorem wpAnyIn_of_seq {Q' : Exit → Act → World → Prop} : ∀ (l : List Oper) (k : Nat) (listed : Array Bool) (a : Act) (w : World), (∀ j, l[j]? = ops[k + j]?) →
 Region.seqB md ops l.length k listed = true → wpListIn F n P ops Q' l a w → wpAnyIn F n P md ops Q' l.length listed a w
 | [], _, _, _, _, _, hB, h => ⟨by simpa [Region.seqB] using hB, h⟩
 | o :: l, k, listed, a, w, hl, hB, h => by
  have h0 : ops[k]? = some o := by simpa using (hl 0).symm
  simp only [List.length_cons, Region.seqB, Bool.and_eq_true, decide_eq_true_eq] at hB
  refine ⟨fun h1 => (by rw [hB.1] at h1; cases h1), fun i hi => ?_⟩
  rw [hB.1] at hi
  have hik : i = k := by simpa using hi
  subst hik
  have hw : wpOpIn F n P ops Q' i (wpListIn F n P ops Q' l) a w := by unfold wpOpIn; simp only [h0]; exact h
  exact wpOpIn_mono (fun a' w' h' => wpAnyIn_of_seq l (i + 1) _ a' w' (fun j => by have := hl (j + 1); simpa [Nat.add_assoc, Nat.add_comm 1 j] using this) hB.2 h') hw
theorem wpAnyLQ_lex {nn g : Nat} {Lq : Act → Prop} (hsel : Region.noSelect ops = true) (hs : Region.sinkB md ops nn = true) (hc : Region.chainB md ops nn = true) (hn : nn < ops.size) :
 ∀ (l : List Oper) (k : Nat) (listed : Array Bool) (a : Act), (∀ j, j < l.length → l[j]? = ops[k + j]?) → k + l.length = nn → HeadInv md ops nn listed →
 Region.lexHead md ops g l.length k listed = true → wpQuietIn F n P ops C Lq l a →
 wpAnyLQ F n P md ops C nn (fun listed' a' => Region.seqB md ops g nn listed' = true ∧ Lq a') l.length listed a
 | [], k, listed, a, _, hk, _, hB, h => by
  have : k = nn := by simpa using hk
  subst this
  exact ⟨by simpa [Region.lexHead] using hB, h⟩
 | o :: l, k, listed, a, hl, hk, inv, hB, h => by
  have h0 : ops[k]? = some o := by simpa using (hl 0 (by simp)).symm
  simp only [List.length_cons, Region.lexHead, Bool.and_eq_true] at hB
  obtain ⟨⟨hr, hf⟩, hB'⟩ := hB
  have hkn : k < nn := by simp only [List.length_cons] at hk; omega
  have hr' : k ∈ Region.ready md ops listed := by simpa using hr
  have hst : qOpIn F n P ops C k (wpQuietIn F n P ops C Lq l) a := by unfold qOpIn; simp only [h0]; exact h
  obtain ⟨v, hy, hK⟩ := yieldsQuiet_of_qOpIn h0 hst
  exact wpAnyLQ_first h0 (Region.noSelect_spec hsel) hs hc hn hkn (fun listed' a' hL => seqB_ready hL.1) l.length listed a inv (Region.free_spec h0 hf) hr' hy
   (wpAnyLQ_lex hsel hs hc hn l (k + 1) _ _ (fun j hj => by have := hl (j + 1) (by simp; omega); simpa [Nat.add_assoc, Nat.add_comm 1 j] using this) (by simp only [List.length_cons] at hk; omega) (inv.set hr' hkn) hB' hK)
theorem wpIn_region_tail {id : Nat} {Q : Exit → Act → World → Prop} {a : Act} {w : World} {l : List Oper} (nn : Nat) (hm : P.follows .mixedOrders = true) (hnd : noDefer l.toArray = true) (hB : Region.lexTailB .any l.toArray nn = true)
 (h : wpQuietIn F n P l.toArray (fun w' => ∃ n, w' = w.drewN n) (fun a' => ∀ m, wpListIn F n P l.toArray Q (l.drop nn) a' (w.drewN m)) (l.take nn) a) : (Code.region id l.toArray true).wpIn F n P Q a w := by
 simp only [Region.lexTailB, Bool.and_eq_true, decide_eq_true_eq] at hB
 obtain ⟨⟨⟨⟨hsel, hn⟩, hs⟩, hc⟩, hlex⟩ := hB
 have hn' : nn < l.length := by simpa using hn
 have htl : (l.take nn).length = nn := by simp; omega
 have hdl : (l.drop nn).length = l.toArray.size - nn := by simp
 have inv0 : HeadInv .any l.toArray nn (Array.replicate l.toArray.size false) :=
  ⟨by simp, fun j oj _ hl => (by rw [getD_replicate_false] at hl; cases hl), fun t _ ht => getD_in (by simpa using ht) (getD_replicate_false _ _)⟩
 have H := wpAnyLQ_lex (F := F) (n := n) (P := P) (C := fun w' => ∃ n, w' = w.drewN n) (md := .any) (g := l.toArray.size - nn) hsel hs hc hn (l.take nn) 0 _ a (fun j hj => by
  have hj' : j < nn := by rw [htl] at hj; exact hj
  simp [hj']) (by simpa using htl) inv0 (by rw [htl]; exact hlex) h
 refine wpIn_region_any hm ?_
 have := wpAnyIn_of_headQ (F := F) (n := n) (P := P) (C := fun w' => ∃ n, w' = w.drewN n) (Q' := Q) (g := l.toArray.size - nn) hnd (fun listed a' w' hw' hL => by
  obtain ⟨m, rfl⟩ := hw'
  have := wpAnyIn_of_seq (F := F) (n := n) (P := P) (md := .any) (Q' := Q) (l.drop nn) nn listed a' (w.drewN m) (fun j => by simp [List.getElem?_drop]) (by rw [hdl]; exact hL.1) (hL.2 m)
  rwa [hdl] at this) _ _ _ _ (⟨1, rfl⟩ : ∃ k, { w with drawn := w.drawn + 1 } = w.drewN k) H
 rw [htl, show nn + (l.toArray.size - nn) = l.toArray.size by omega] at this
 exact this
end
end Nm
end Go.Proofs.YtjghnghceeijeaaGreatDoor
