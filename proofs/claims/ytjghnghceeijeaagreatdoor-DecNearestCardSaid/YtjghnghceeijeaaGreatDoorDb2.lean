/-
  Contracts of the walks below.
-/
import Derived.Test.YtjghnghceeijeaaGreatDoorDb1
import Derived.Maps.AppendAt
import Derived.Laws.MakeOwn
import Derived.Laws.NewBlocks
set_option maxRecDepth 100000
set_option maxHeartbeats 4000000
set_option linter.unusedVariables false
set_option linter.unusedSimpArgs false
namespace Go.Proofs.YtjghnghceeijeaaGreatDoor
namespace Nm
open Go.RowKit
structure Stp (n₀ : Nat) (W W' : World) : Prop where
 keeps : KeepsOthers W W'
 below : Below n₀ W W'
theorem KeepsOthers.drewN (W : World) (m : Nat) : KeepsOthers W (W.drewN m) := ⟨Nat.le_refl _, fun _ _ h _ => h⟩
theorem Stp.refl (n₀ : Nat) (W : World) : Stp n₀ W W := ⟨KeepsOthers.refl W, Below.refl n₀ W⟩
theorem Stp.trans {n₀ : Nat} {A B C : World} (h : Stp n₀ A B) (k : Stp n₀ B C) : Stp n₀ A C := ⟨h.keeps.trans k.keeps, h.below.trans k.below⟩
theorem Stp.drewN {n₀ : Nat} {A B : World} (h : Stp n₀ A B) (m : Nat) : Stp n₀ A (B.drewN m) := h.trans ⟨KeepsOthers.drewN B m, below_drewN (Below.refl n₀ B) m⟩
theorem Stp.set {n₀ : Nat} {A B : World} (h : Stp n₀ A B) {p : Addr} (hp : n₀ ≤ p.block) (v : Value) : Stp n₀ A (B.setCell p v) := h.trans ⟨KeepsOthers.setCell B p v, (Below.refl n₀ B).setCell hp v⟩
theorem Stp.alloc {n₀ : Nat} {A B : World} (h : Stp n₀ A B) (hB : n₀ ≤ B.heap.size) (o : Obj) : Stp n₀ A (B.alloc o) := h.trans ⟨KeepsOthers.alloc B o, (Below.refl n₀ B).alloc hB o⟩
theorem Stp.grown {n₀ : Nat} {A B C : World} {row : Option Nat} (h : Stp n₀ A B) (hg : B.grownBy C row) (hB : n₀ ≤ B.heap.size) (hr : ∀ k, row = some k → n₀ ≤ k ∧ ∀ o, B.heap[k]? = some o → o.isCells = true) : Stp n₀ A C :=
 h.trans ⟨KeepsOthers.of_grownBy hg (fun j o e ho => (hr j e).2 o ho), (Below.refl n₀ B).grown hg hB (fun k e => (hr k e).1)⟩
theorem Stp.from {n₀ : Nat} {A B : World} (h : Stp n₀ A B) (b : Nat) : KeepsFrom b A B := h.keeps.from b
theorem Stp.size {n₀ : Nat} {A B : World} (h : Stp n₀ A B) : A.heap.size ≤ B.heap.size := h.below.size
theorem boxed_drewN {W : World} {B : Nat} {t : TypeId} {v : Value} (h : Boxed W B t v) (m : Nat) : Boxed (W.drewN m) B t v := h
theorem boxed_ownF {β : Type} (b B : Nat) (t : TypeId) (f : β → Value) : OwnFrom b (fun s W => Boxed W B t (f s)) := Own.from (boxed_own B t f) b
def warr (l : List Nat) : Array Value := (l.map fun (x : Nat) => Value.int .u32 (x : Int)).toArray
abbrev wvals (l : List Nat) : List Value := l.map fun (x : Nat) => Value.int .u32 (x : Int)
def Arr (W : World) (g : Nat) (l : List Nat) : Prop := ∃ cur : Array Value, W.heap[g]? = some (.cells cur 127 (0, 0)) ∧ cur.toList.take l.length = wvals l
theorem arr_of {W : World} {g : Nat} {l : List Nat} (h : W.heap[g]? = some (.cells (warr l) 127 (0, 0))) : Arr W g l := ⟨_, h, by simp [warr, wvals, List.take_of_length_le]⟩
theorem arr_lt {W : World} {g : Nat} {l : List Nat} (h : Arr W g l) : g < W.heap.size := let ⟨_, h, _⟩ := h; (Array.getElem?_eq_some_iff.1 h).1
theorem arr_cell {W : World} {g : Nat} {l : List Nat} (h : Arr W g l) (i : Nat) (hi : i < l.length) : W.cell? ⟨g, i, none⟩ = some (.int .u32 ((l.getD i 0 : Nat) : Int)) := by
 obtain ⟨cur, h, ht⟩ := h
 simp only [World.cell?, h, Option.isSome_none, Bool.false_eq_true, if_false]
 have h1 : (cur.toList.take l.length)[i]? = some (.int .u32 ((l.getD i 0 : Nat) : Int)) := by
  rw [ht]; simp [hi, List.getD_eq_getElem?_getD]
 rw [List.getElem?_take_of_lt hi] at h1
 simpa using h1
theorem arr_frozen {W : World} {g : Nat} {l : List Nat} (h : Arr W g l) (i : Nat) : W.frozen? ⟨g, i, none⟩ = false := by
 obtain ⟨cur, h, ht⟩ := h
 simp [World.frozen?, h]
theorem arr_kept {W W' : World} {row : Option Nat} {g : Nat} {l : List Nat} (h : Arr W g l) (hg : W.grownBy W' row) (hne : some g ≠ row) : Arr W' g l := by
 have hl := arr_lt h
 obtain ⟨cur, h, ht⟩ := h
 exact ⟨cur, (hg.block g hl hne).trans h, ht⟩
theorem arr_alloc {W : World} {g : Nat} {l : List Nat} (h : Arr W g l) (o : Obj) : Arr (W.alloc o) g l := arr_kept h (World.grownBy_alloc W o none) (by simp)
theorem arr_drewN {W : World} {g : Nat} {l : List Nat} (h : Arr W g l) (m : Nat) : Arr (W.drewN m) g l := h
theorem grownBy_setCell_at (W : World) (b o : Nat) (v : Value) : W.grownBy (W.setCell ⟨b, o, none⟩ v) (some b) :=
 ⟨rfl, rfl, rfl, (KeepsWalks.setCell W _ v).size, fun k _ hk => Below.heap_setCell _ _ _ k (fun e => hk (by rw [e]))⟩
theorem arr_other {W : World} {g : Nat} {l : List Nat} (h : Arr W g l) {B o : Nat} (hne : g ≠ B) (v : Value) : Arr (W.setCell ⟨B, o, none⟩ v) g l := arr_kept h (grownBy_setCell_at W B o v) (by simpa using hne)
theorem boxed_other {W : World} {B : Nat} {t : TypeId} {v : Value} (h : Boxed W B t v) {b o : Nat} (hne : B ≠ b) (u : Value) : Boxed (W.setCell ⟨b, o, none⟩ u) B t v := h.kept (grownBy_setCell_at W b o u) (by simpa using hne)
theorem arr_set {W : World} {g : Nat} {l : List Nat} (h : Arr W g l) (i x : Nat) : Arr (W.setCell ⟨g, i, none⟩ (.int .u32 (x : Int))) g (l.set i x) := by
 obtain ⟨cur, h, ht⟩ := h
 obtain ⟨hlt, hk⟩ := Array.getElem?_eq_some_iff.1 h
 refine ⟨cur.setIfInBounds i (.int .u32 (x : Int)), ?_, ?_⟩
 · show (W.heap.modify g _)[g]? = _
   rw [Array.getElem?_eq_getElem (by rw [Array.size_modify]; exact hlt), Array.getElem_modify_self, hk]
   rfl
 · rw [Array.toList_setIfInBounds, List.length_set, List.take_set, ht]
   simp [wvals, List.map_set]
theorem arr_new (W : World) (l : List Nat) : Arr (W.alloc (.cells (warr l) 127)) W.heap.size l := arr_of (World.alloc_heap_new W _)
theorem arr_below {W W' : World} {n g : Nat} {l : List Nat} (h : Arr W g l) (hb : Below n W W') (hg : g < n) : Arr W' g l := let ⟨cur, h, ht⟩ := h; ⟨cur, (hb.block g hg).trans h, ht⟩
theorem arr_putObj {W : World} {g : Nat} {l : List Nat} (h : Arr W g l) {D : Nat} {o : Obj} (o' : Obj) (hD : W.heap[D]? = some o) (ho : o.isCells = false) : Arr (W.putObj D o') g l :=
 arr_kept h (grownBy_putObj' W D o') (fun e => by
  obtain rfl : g = D := by simpa using e
  obtain ⟨cur, h, ht⟩ := h
  rw [h] at hD; cases hD; cases ho)
theorem arr_ownF {β : Type} (b g : Nat) (f : β → List Nat) : OwnFrom b (fun s W => Arr W g (f s)) := by
 intro s X Y row h hg hrow
 refine arr_kept h hg fun e' => ?_
 obtain ⟨o, ho, hc⟩ := (hrow g e'.symm).2
 obtain ⟨cur, h, ht⟩ := h
 rw [h] at ho; cases ho; cases hc
theorem alloc_get (W : World) (o : Obj) (i : Nat) : (W.alloc o).heap[i]? = if i = W.heap.size then some o else W.heap[i]? := by
 show (W.heap.push o)[i]? = _
 rw [Array.getElem?_push]
def allocs : World → List Obj → World
 | w, [] => w
 | w, o :: os => allocs (w.alloc o) os
theorem allocs_size (w : World) (os : List Obj) : (allocs w os).heap.size = w.heap.size + os.length := by
 induction os generalizing w with
 | nil => rfl
 | cons o os ih => simp only [allocs, ih, World.size_alloc, List.length_cons]; omega
theorem allocs_old (w : World) (os : List Obj) (i : Nat) (h : i < w.heap.size) : (allocs w os).heap[i]? = w.heap[i]? := by
 induction os generalizing w with
 | nil => rfl
 | cons o os ih => simp only [allocs]; rw [ih _ (by simp; omega), alloc_get, if_neg (by omega)]
theorem allocs_get (w : World) (os : List Obj) (i : Nat) (h : i < os.length) : (allocs w os).heap[w.heap.size + i]? = os[i]? := by
 induction os generalizing w i with
 | nil => cases h
 | cons o os ih =>
  simp only [allocs]
  cases i with
  | zero => rw [allocs_old _ _ _ (by simp), alloc_get, if_pos (by simp)]; rfl
  | succ i =>
   have := ih (w.alloc o) i (by simpa using h)
   rw [World.size_alloc, show w.heap.size + 1 + i = w.heap.size + (i + 1) by omega] at this
   rw [this]; rfl
theorem allocs_stp (w : World) (os : List Obj) {n₀ : Nat} (h : n₀ ≤ w.heap.size) : Stp n₀ w (allocs w os) := by
 induction os generalizing w with
 | nil => exact Stp.refl _ _
 | cons o os ih => exact ((Stp.refl n₀ w).alloc h o).trans (ih (w.alloc o) (by simp; omega))
theorem arr_rd {W : World} {g : Nat} {l : List Nat} (h : Arr W g l) (hw : Words l) (hs : l.length ≤ 35184372088832) : Rd W (some ⟨g, 0, none⟩) l :=
 ⟨fun i hi => ⟨g, 0, rfl, by rw [Nat.zero_add]; exact arr_cell h i hi⟩, hw, hs⟩
theorem warr_made (m : Nat) : madeCells #[.int .u32 0] m = warr (List.replicate m 0) := by
 apply Array.ext
 · simp [madeCells, warr]
 · intro i h1 h2
   simp [madeCells, warr, Nat.mod_one]
theorem info_u32 : (Tryz.prog.info? 127).map (fun i => (i.zero, i.size, i.bytes)) = some (some (.int .u32 0), 1, 4) := by kernel_rfl
theorem make_nat (L C : Int) (n m : Nat) (hL : L = (n : Int)) (hC : C = (m : Int)) (hnm : n ≤ m) (hm : m ≤ 35184372088832) (W : World) :
 (Instr.makeSlice 144 (.int .i64 L) (.int .i64 C)).run Tryz.prog W = .ok (.slice (some ⟨W.heap.size, 0, none⟩) n m) (W.alloc (.cells (warr (List.replicate m 0)) 127)) := by
 obtain ⟨i0, hi, hz0, hz1, hz2⟩ := info_parts info_u32
 subst hL hC
 have := run_make (P := Tryz.prog) W 144 127 i0 _ Tryz.underlying144 hi hz0 .i64 .i64 (n : Int) (m : Int) (by omega) (by omega) (by rw [hz2]; omega) (by omega)
 rw [this, hz1]
 simp [Value.cells, warr_made]
theorem Rd.putObj {W : World} {A : Option Addr} {l : List Nat} (h : Rd W A l) {D : Nat} {o : Obj} (o' : Obj) (hD : W.heap[D]? = some o) (ho : o.isCells = false) : Rd (W.putObj D o') A l :=
 h.same fun a v hv => cell_kept hv (grownBy_putObj' W D o') (fun r e => by cases e; exact ⟨o, hD, ho⟩)
def HasBox (W : World) (B : Nat) (t : TypeId) : Prop := ∃ v, Boxed W B t v
theorem HasBox.of {W : World} {B : Nat} {t : TypeId} {v : Value} (h : Boxed W B t v) : HasBox W B t := ⟨v, h⟩
theorem HasBox.drewN {W : World} {B : Nat} {t : TypeId} (h : HasBox W B t) (m : Nat) : HasBox (W.drewN m) B t := h
theorem HasBox.alloc {W : World} {B : Nat} {t : TypeId} (h : HasBox W B t) (o : Obj) : HasBox (W.alloc o) B t := let ⟨v, h⟩ := h; ⟨v, h.alloc o⟩
theorem HasBox.set {W : World} {B : Nat} {t : TypeId} (h : HasBox W B t) (p : Addr) (u : Value) : HasBox (W.setCell p u) B t := by
 obtain ⟨v, h⟩ := h
 obtain ⟨b, o, s⟩ := p
 obtain ⟨hlt, hk⟩ := Array.getElem?_eq_some_iff.1 h
 by_cases e : b = B
 · subst e
   refine ⟨if s.isSome then v else if o = 0 then u else v, ?_⟩
   show (W.heap.modify b _)[b]? = _
   rw [Array.getElem?_eq_getElem (by rw [Array.size_modify]; exact hlt), Array.getElem_modify_self, hk]
   cases s with
   | some s => rfl
   | none =>
    cases o with
    | zero => rfl
    | succ o => simp
 · exact ⟨v, (Below.heap_setCell _ _ _ _ (fun h => e h.symm)).trans h⟩
theorem boxed_set {W : World} {B : Nat} {t : TypeId} (v : Value) (h : HasBox W B t) : Boxed (W.setCell ⟨B, 0, none⟩ v) B t v := let ⟨_, h⟩ := h; h.set v
theorem limb_end {B n₀ : Nat} {I : World → Prop} {W W' : World} {a : Act} (h : Stp n₀ W W') (hi : Stp n₀ W W' → I W') : limbPost B n₀ I W .normal a W' := ⟨h.from B, h.below, hi h⟩
end Nm
end Go.Proofs.YtjghnghceeijeaaGreatDoor
namespace Go.Proofs.YtjghnghceeijeaaGreatDoor
namespace Nm
open Go.RowKit Go.Shelf Go.BigFrame
attribute [local go_sem] Oper.semAt_some
theorem at_in (n : Nat) (A : Option Addr) (c : Nat) (l : List Nat) (i : Nat) (w : World) (hA : Rd w A l) (_hl : l.length ≤ c) :
 CallsIn Fence.wide n Tryz.prog 213 #[.slice A l.length c, .int .i64 (i : Int)] w fun e w' => e = .returned (.int .u32 (l.getD i 0 : Nat)) ∧ w' = w := by
 refine callsIn_wide.2 ?_
 by_cases h : i < l.length
 · obtain ⟨b, o, x, rfl, hc, hx, _⟩ := hA.get i h
   rw [hx.out]
   go_enter Tryz.func213, Tryz.ntmps213
   go_wp2
   go_ret
   exact ⟨rfl, rfl⟩
 · rw [List.getD_eq_getElem?_getD, List.getElem?_eq_none (by omega)]
   go_enter Tryz.func213, Tryz.ntmps213
   go_wp2
   go_ret
   exact ⟨rfl, rfl⟩
def RetNat (n : Nat) (w : World) (e : Ending) (w' : World) : Prop :=
 ∃ A c, e = .returned (.slice A (lim n).length c) ∧ (lim n).length ≤ c ∧ Rd w' A (lim n) ∧ Below w.heap.size w w'
theorem trim_in (n : Nat) (A : Option Addr) (c : Nat) (l : List Nat) (w : World) (hA : Rd w A l) (hl : l.length ≤ c) :
 CallsIn Fence.wide n Tryz.prog 164 #[.slice A l.length c] w fun e w' => e = .returned (.slice A (trim l).length c) ∧ w = w' := callsIn_wide.2 (trim_calls A c l w hA hl)
theorem rd_block {w : World} {A : Option Addr} {l : List Nat} (h : Rd w A l) : ∀ b o, A = some ⟨b, o, none⟩ → 0 < l.length → b < w.heap.size := by
 intro b o e hl; obtain ⟨b', o', e', hc⟩ := h.cell 0 hl; rw [e] at e'; cases e'; exact World.block_lt_of_cell? w _ hc
theorem set_snoc (outs : List Nat) (m z : Nat) (k : Nat) (hk : outs.length = k) (hm : 0 < m) : (outs ++ List.replicate m 0).set k z = (outs ++ [z]) ++ List.replicate (m - 1) 0 := by
 subst hk
 obtain ⟨m, rfl⟩ : ∃ j, m = j + 1 := ⟨m - 1, by omega⟩
 simp [List.replicate_succ]
theorem take_snoc (l : List Nat) (k : Nat) (x : Nat) (hk : k < l.length) (hx : l.getD k 0 = x) : l.take (k + 1) = l.take k ++ [x] := by
 rw [List.take_succ_eq_append_getElem hk]
 rw [List.getD_eq_getElem?_getD, List.getElem?_eq_getElem hk] at hx
 simp at hx; rw [hx]
theorem val_take_succ (l : List Nat) (k x : Nat) (hx : l.getD k 0 = x) : val (l.take (k + 1)) = val (l.take k) + BB ^ k * x := by
 by_cases hk : k < l.length
 · rw [take_snoc l k x hk hx, val_snoc]; simp [Nat.min_eq_left (Nat.le_of_lt hk)]
 · rw [List.getD_eq_getElem?_getD, List.getElem?_eq_none (by omega)] at hx
   simp at hx; subst hx
   rw [List.take_of_length_le (by omega), List.take_of_length_le (by omega)]; simp
theorem add_step {l1 l2 outs : List Nat} {k cy x y : Nat} (hx : l1.getD k 0 = x) (hy : l2.getD k 0 = y) (hl : outs.length = k)
 (h : val outs + BB ^ k * cy = val (l1.take k) + val (l2.take k)) :
 val (outs ++ [(cy + (x + y)) % BB]) + BB ^ (k + 1) * ((cy + (x + y)) / BB) = val (l1.take (k + 1)) + val (l2.take (k + 1)) := by
 rw [val_snoc, val_take_succ l1 k x hx, val_take_succ l2 k y hy, hl, Nat.pow_succ, Nat.mul_assoc, Nat.add_assoc, ← Nat.mul_add, Nat.mod_add_div, Nat.mul_add, Nat.mul_add]
 omega
theorem add_ge (A1 A2 : Option Addr) (c1 c2 : Nat) (l1 l2 : List Nat) (w : World) (h1 : Rd w A1 l1) (h2 : Rd w A2 l2) (_hc1 : l1.length ≤ c1) (hc2 : l2.length ≤ c2)
 (hle : l2.length ≤ l1.length) (hsm : l1.length ≤ 1048576) :
 Calls Tryz.prog 160 #[.slice A1 l1.length c1, .slice A2 l2.length c2] w (RetNat (val l1 + val l2) w) := by
 refine (callsIn_wide (n := 5)).1 ?_
 refine callsIn_of_wp_marks Tryz.func160 rfl trivial ?_ rfl
 simp only [Tryz.ntmps160, List.size_toArray, List.length_cons, List.length_nil, Nat.reduceAdd, Nat.reduceSub, Array.replicate_succ, Array.replicate_zero, List.push_toArray, List.append_toArray, List.nil_append, List.cons_append]
 have hs1 := h1.small
 have hs2 := h2.small
 have hlt : ¬ (l1.length < l2.length) := by omega
 have hmk := make_nat 0 ((l1.length : Int) + 1) 0 (l1.length + 1) rfl (by simp) (by omega) (by omega)
 gi_wp2_with (refine ⟨trivial, ?_⟩; gi_at_call 212; refine (callsIn_wide.2 (limbs_calls _ _ _ _)).mono ?_; rintro e w2 ⟨rfl, rfl⟩)
 clear hmk
 obtain ⟨w3, hw3⟩ : ∃ w3, allocs w [.cells #[.slice A2 l2.length c2] 144, .cells (warr (List.replicate (l1.length + 1) 0)) 127, .cells #[.slice (some ⟨w.heap.size + 1, 0, none⟩) 0 (l1.length + 1)] 144, .cells #[.int .u64 0] 128, .cells #[.slice A1 l1.length c1] 144] = w3 := ⟨_, rfl⟩
 have hget := allocs_get w [.cells #[.slice A2 l2.length c2] 144, .cells (warr (List.replicate (l1.length + 1) 0)) 127, .cells #[.slice (some ⟨w.heap.size + 1, 0, none⟩) 0 (l1.length + 1)] 144, .cells #[.int .u64 0] 128, .cells #[.slice A1 l1.length c1] 144]
 have hs3 := allocs_stp w [.cells #[.slice A2 l2.length c2] 144, .cells (warr (List.replicate (l1.length + 1) 0)) 127, .cells #[.slice (some ⟨w.heap.size + 1, 0, none⟩) 0 (l1.length + 1)] 144, .cells #[.int .u64 0] 128, .cells #[.slice A1 l1.length c1] 144] (Nat.le_refl w.heap.size)
 have hsz3 := allocs_size w [.cells #[.slice A2 l2.length c2] 144, .cells (warr (List.replicate (l1.length + 1) 0)) 127, .cells #[.slice (some ⟨w.heap.size + 1, 0, none⟩) 0 (l1.length + 1)] 144, .cells #[.int .u64 0] 128, .cells #[.slice A1 l1.length c1] 144]
 rw [hw3] at hget hs3 hsz3
 simp only [allocs] at hw3
 rw [hw3]
 clear hw3
 replace hsz3 : w.heap.size + 5 ≤ w3.heap.size := by rw [hsz3]; exact Nat.le_refl _
 have hB4 : Boxed w3 w.heap.size 144 (.slice A2 l2.length c2) := hget 0 (by simp)
 have hR3 : Arr w3 (w.heap.size + 1) (List.replicate (l1.length + 1) 0) := arr_of (hget 1 (by simp))
 have hB3 : Boxed w3 (w.heap.size + 2) 144 (.slice (some ⟨w.heap.size + 1, 0, none⟩) 0 (l1.length + 1)) := hget 2 (by simp)
 have hB2 : Boxed w3 (w.heap.size + 3) 128 (.int .u64 0) := hget 3 (by simp)
 have hB1 : Boxed w3 (w.heap.size + 4) 144 (.slice A1 l1.length c1) := hget 4 (by simp)
 clear hget
 refine wpIn_limbs_p (n₀ := w.heap.size) (l := l1) rfl (by omega) (gf := 236) (lb := #[.pointer (some ⟨w.heap.size + 4, 0, none⟩)]) rfl trivial (enters_of Tryz.func236 (by kernel_rfl) rfl)
  (limbs1_in _ (w.heap.size + 4) A1 c1 l1 w.heap.size w3 hB1.cell (h1.below hs3.below rfl) (by omega) (rd_block h1)) (by omega) (Below.refl _ _) rfl
  (fun k W => ∃ (outs : List Nat) (cy : Nat), Boxed W w.heap.size 144 (.slice A2 l2.length c2) ∧ Boxed W (w.heap.size + 2) 144 (.slice (some ⟨w.heap.size + 1, 0, none⟩) k (l1.length + 1)) ∧ Boxed W (w.heap.size + 3) 128 (.int .u64 (cy : Int)) ∧
   Arr W (w.heap.size + 1) (outs ++ List.replicate (l1.length + 1 - k) 0) ∧ Below w.heap.size w W ∧ cy ≤ 1 ∧ outs.length = k ∧ Words outs ∧ Hid (val outs + BB ^ k * cy = val (l1.take k) + val (l2.take k)))
  ?own ?start ?round ?done
 case own =>
  rintro k X Y row ⟨outs, cy, a1, a2, a3, a4, a5, a6⟩ hg hr
  exact ⟨outs, cy, boxed_ownF _ _ _ (fun _ => _) k X Y row a1 hg hr, boxed_ownF _ _ _ (fun _ => _) k X Y row a2 hg hr, boxed_ownF _ _ _ (fun _ => _) k X Y row a3 hg hr, arr_ownF _ _ (fun _ => _) k X Y row a4 hg hr,
   ownFrom_below (Nat.le_refl _) (by omega) k X Y row a5 hg hr, a6⟩
 case start => exact ⟨[], 0, hB4, hB3, hB2, hR3, hs3.below, by omega, rfl, words_nil, by simp [Hid, val]⟩
 case round =>
  intro k W hk
  obtain ⟨x, hx, hxb⟩ : ∃ x, Hid (l1.getD k 0 = x) ∧ x < 4294967296 := ⟨_, rfl, words_getD h1.words k⟩
  obtain ⟨y, hy, hyb⟩ : ∃ y, Hid (l2.getD k 0 = y) ∧ y < 4294967296 := ⟨_, rfl, words_getD h2.words k⟩
  rw [hx.out]
  have hat : ∀ n w', Rd w' A2 l2 → CallsIn Fence.wide n Tryz.prog 213 #[.slice A2 l2.length c2, .int .i64 (k : Int)] w' fun e w'' => e = .returned (.int .u32 (y : Int)) ∧ w'' = w' := by
   intro n w' h; have := at_in n A2 c2 l2 k w' h hc2; rwa [hy.out] at this
  gi_wp2
  refine ⟨trivial, ?_⟩
  clear W
  rintro W ⟨outs, cy, hbb, hbo, hbc, harr, hbl, hcy, hol, how, hval⟩
  have g1 := hbb.cell
  have g2 := hbo.cell
  have g3 := hbc.cell
  obtain ⟨u, g4⟩ : ∃ u : Nat, W.cell? ⟨w.heap.size + 1, k, none⟩ = some (.int .u32 (u : Int)) := ⟨_, arr_cell harr k (by simp; omega)⟩
  have f2 := hbo.frozen
  have f3 := hbc.frozen
  have f4 := arr_frozen harr k
  have hwz := hbc.lt
  have t1 : w.heap.size + 1 < W.heap.size := by omega
  have t2 : w.heap.size + 2 < W.heap.size := by omega
  have Hol := Lib.hid hol
  clear hol
  gi_wp2
  have hwide : ∀ f, Fence.wide.fn f := fun _ => trivial
  refine wpIn_region_tail 9 (by kernel_rfl) (by kernel_rfl) (by kernel_rfl) ?_
  simp only [List.take_succ_cons, List.take_zero, List.drop_succ_cons, List.drop_zero]
  repeat (gi_big_quiet_step ((gi_at_call 213; exact CallsIn.quiet_of_same (CallsIn.inRound _ (hat _ _ (h2.below (below_drewN hbl _) rfl))))))
  refine wpQuietIn_nil ?_
  intro m
  obtain ⟨z, hz⟩ : ∃ z : Nat, ((cy : Int) + ((x : Int) + (y : Int))) % 4294967296 = (z : Int) := ⟨(cy + (x + y)) % 4294967296, by omega⟩
  obtain ⟨q, hq⟩ : ∃ q : Nat, ((cy : Int) + ((x : Int) + (y : Int))) / 4294967296 = (q : Int) := ⟨(cy + (x + y)) / 4294967296, by omega⟩
  gi_wp2
  simp only [Nat.add_assoc, Nat.reduceAdd]
  have hz' : z = (cy + (x + y)) % BB := by show z = _ % 4294967296; omega
  have hq' : q = (cy + (x + y)) / BB := by show q = _ / 4294967296; omega
  refine limb_end (by (repeat (first | with_reducible exact Stp.refl _ _ | with_reducible refine Stp.set ?_ (by simp) _ | with_reducible refine Stp.alloc ?_ (by simp; omega) _ | with_reducible refine Stp.drewN ?_ _))) (fun hst => ⟨outs ++ [z], q, by (repeat (first | with_reducible exact hbb | with_reducible exact HasBox.of hbb | with_reducible refine boxed_other ?_ (by omega) _ | with_reducible refine boxed_set _ ?_ | with_reducible refine HasBox.set ?_ _ _ | with_reducible refine HasBox.alloc ?_ _ | with_reducible refine HasBox.drewN ?_ _ | with_reducible refine Boxed.alloc ?_ _ | with_reducible refine boxed_drewN ?_ _)), by (repeat (first | with_reducible exact hbo | with_reducible exact HasBox.of hbo | with_reducible refine boxed_other ?_ (by omega) _ | with_reducible refine boxed_set _ ?_ | with_reducible refine HasBox.set ?_ _ _ | with_reducible refine HasBox.alloc ?_ _ | with_reducible refine HasBox.drewN ?_ _ | with_reducible refine Boxed.alloc ?_ _ | with_reducible refine boxed_drewN ?_ _)), by (repeat (first | with_reducible exact hbc | with_reducible exact HasBox.of hbc | with_reducible refine boxed_other ?_ (by omega) _ | with_reducible refine boxed_set _ ?_ | with_reducible refine HasBox.set ?_ _ _ | with_reducible refine HasBox.alloc ?_ _ | with_reducible refine HasBox.drewN ?_ _ | with_reducible refine Boxed.alloc ?_ _ | with_reducible refine boxed_drewN ?_ _)), ?_, hbl.trans hst.below, by omega, by simp [Hol.out], ?_, ?_⟩)
  · rw [show l1.length + 1 - (k + 1) = l1.length + 1 - k - 1 by omega, ← set_snoc outs (l1.length + 1 - k) z k Hol.out (by omega)]
    (repeat (first | with_reducible exact harr | with_reducible refine arr_other ?_ (by omega) _ | with_reducible refine arr_set ?_ _ _ | with_reducible refine arr_alloc ?_ _ | with_reducible refine arr_drewN ?_ _))
  · exact words_append.2 ⟨how, fun u hu => by simp at hu; rw [hu, hz']; exact Nat.mod_lt _ (by decide)⟩
  · rw [hz', hq']; exact add_step hx.out hy.out Hol.out hval.out
 case done =>
  rintro D W hD ⟨outs, cy, hbb, hbo, hbc, harr, hbl, hcy, hol, how, hval⟩ hK
  have g2 := hbo.cell
  have g3 := hbc.cell
  obtain ⟨u, g4⟩ : ∃ u : Nat, W.cell? ⟨w.heap.size + 1, l1.length, none⟩ = some (.int .u32 (u : Int)) := ⟨_, arr_cell harr l1.length (by simp; omega)⟩
  have f4 := arr_frozen harr l1.length
  have hwz := hbc.lt
  have t1 : w.heap.size + 1 < W.heap.size := by omega
  have t2 : w.heap.size + 2 < W.heap.size := by omega
  have Hol := Lib.hid hol
  clear hol
  gi_wp2
  obtain ⟨W5, hW5⟩ : ∃ W5, (W.setCell ⟨w.heap.size + 1, l1.length, none⟩ (.int .u32 (cy : Int))).alloc (.cells #[.int .u32 (cy : Int)] 127) = W5 := ⟨_, rfl⟩
  have hst5 : Stp w.heap.size W W5 := by rw [← hW5]; exact ((Stp.refl _ W).set (by simp) _).alloc (by simp [World.setCell]; omega) _
  have harr5 : Arr W5 (w.heap.size + 1) (outs ++ [cy]) := by
   have := arr_alloc (arr_set harr l1.length cy) (.cells #[.int .u32 (cy : Int)] 127)
   rw [set_snoc outs (l1.length + 1 - l1.length) cy l1.length Hol.out (by omega), show l1.length + 1 - l1.length - 1 = 0 by omega] at this
   rw [← hW5]; simpa using this
  rw [hW5]
  clear hW5
  have hK5 := hst5.keeps.same D _ hK rfl
  have hww : Words (outs ++ [cy]) := words_append.2 ⟨how, fun u hu => by simp at hu; rw [hu]; show cy < 4294967296; omega⟩
  have hlen : (outs ++ [cy]).length = l1.length + 1 := by simp [Hol.out]
  have hrd := arr_rd harr5 hww (by omega)
  have ht := fun n => trim_in n (some ⟨w.heap.size + 1, 0, none⟩) (l1.length + 1) (outs ++ [cy]) W5 hrd (by omega)
  have hval' : trim (outs ++ [cy]) = lim (val l1 + val l2) := by
   unfold trim
   have := hval.out
   rw [List.take_length, List.take_of_length_le (by omega)] at this
   rw [val_snoc, Hol.out, this]
  rw [hval', hlen] at ht
  have hrd2 := hrd.trim
  have htl := trim_length_le hww
  rw [hval'] at hrd2 htl
  have hDl := (Array.getElem?_eq_some_iff.1 hK5).1
  clear hval hval'
  refine ⟨trivial, ?_⟩
  refine (ht _).mono ?_
  rintro e w' ⟨rfl, rfl⟩
  gi_wp2
  refine ⟨by simp, .inl ⟨_, _, rfl, run_takeDeferred hK5, ?_⟩⟩
  exact ⟨_, results_tmp rfl _ _ _, _, _, rfl, by omega, hrd2.putObj _ hK5 rfl, hbl.trans (hst5.below.trans (belowK_b (w := w) (Nat.le_refl _) W5 D _ _ (by omega) hK5 rfl rfl))⟩
theorem add_lt (A1 A2 : Option Addr) (c1 c2 : Nat) (l1 l2 : List Nat) (w : World) (h1 : Rd w A1 l1) (h2 : Rd w A2 l2) (hc1 : l1.length ≤ c1) (_hc2 : l2.length ≤ c2)
 (hle : l1.length < l2.length) (hsm : l2.length ≤ 1048576) :
 Calls Tryz.prog 160 #[.slice A1 l1.length c1, .slice A2 l2.length c2] w (RetNat (val l2 + val l1) w) := by
 refine (callsIn_wide (n := 5)).1 ?_
 refine callsIn_of_wp_marks Tryz.func160 rfl trivial ?_ rfl
 simp only [Tryz.ntmps160, List.size_toArray, List.length_cons, List.length_nil, Nat.reduceAdd, Nat.reduceSub, Array.replicate_succ, Array.replicate_zero, List.push_toArray, List.append_toArray, List.nil_append, List.cons_append]
 have hs1 := h1.small
 have hs2 := h2.small
 skip
 have hmk := make_nat 0 ((l2.length : Int) + 1) 0 (l2.length + 1) rfl (by simp) (by omega) (by omega)
 gi_wp2_with (refine ⟨trivial, ?_⟩; gi_at_call 212; refine (callsIn_wide.2 (limbs_calls _ _ _ _)).mono ?_; rintro e w2 ⟨rfl, rfl⟩)
 clear hmk
 obtain ⟨w3, hw3⟩ : ∃ w3, allocs w [.cells #[.slice A1 l1.length c1] 144, .cells (warr (List.replicate (l2.length + 1) 0)) 127, .cells #[.slice (some ⟨w.heap.size + 1, 0, none⟩) 0 (l2.length + 1)] 144, .cells #[.int .u64 0] 128, .cells #[.slice A2 l2.length c2] 144] = w3 := ⟨_, rfl⟩
 have hget := allocs_get w [.cells #[.slice A1 l1.length c1] 144, .cells (warr (List.replicate (l2.length + 1) 0)) 127, .cells #[.slice (some ⟨w.heap.size + 1, 0, none⟩) 0 (l2.length + 1)] 144, .cells #[.int .u64 0] 128, .cells #[.slice A2 l2.length c2] 144]
 have hs3 := allocs_stp w [.cells #[.slice A1 l1.length c1] 144, .cells (warr (List.replicate (l2.length + 1) 0)) 127, .cells #[.slice (some ⟨w.heap.size + 1, 0, none⟩) 0 (l2.length + 1)] 144, .cells #[.int .u64 0] 128, .cells #[.slice A2 l2.length c2] 144] (Nat.le_refl w.heap.size)
 have hsz3 := allocs_size w [.cells #[.slice A1 l1.length c1] 144, .cells (warr (List.replicate (l2.length + 1) 0)) 127, .cells #[.slice (some ⟨w.heap.size + 1, 0, none⟩) 0 (l2.length + 1)] 144, .cells #[.int .u64 0] 128, .cells #[.slice A2 l2.length c2] 144]
 rw [hw3] at hget hs3 hsz3
 simp only [allocs] at hw3
 rw [hw3]
 clear hw3
 replace hsz3 : w.heap.size + 5 ≤ w3.heap.size := by rw [hsz3]; exact Nat.le_refl _
 have hB4 : Boxed w3 w.heap.size 144 (.slice A1 l1.length c1) := hget 0 (by simp)
 have hR3 : Arr w3 (w.heap.size + 1) (List.replicate (l2.length + 1) 0) := arr_of (hget 1 (by simp))
 have hB3 : Boxed w3 (w.heap.size + 2) 144 (.slice (some ⟨w.heap.size + 1, 0, none⟩) 0 (l2.length + 1)) := hget 2 (by simp)
 have hB2 : Boxed w3 (w.heap.size + 3) 128 (.int .u64 0) := hget 3 (by simp)
 have hB1 : Boxed w3 (w.heap.size + 4) 144 (.slice A2 l2.length c2) := hget 4 (by simp)
 clear hget
 refine wpIn_limbs_p (n₀ := w.heap.size) (l := l2) rfl (by omega) (gf := 236) (lb := #[.pointer (some ⟨w.heap.size + 4, 0, none⟩)]) rfl trivial (enters_of Tryz.func236 (by kernel_rfl) rfl)
  (limbs1_in _ (w.heap.size + 4) A2 c2 l2 w.heap.size w3 hB1.cell (h2.below hs3.below rfl) (by omega) (rd_block h2)) (by omega) (Below.refl _ _) rfl
  (fun k W => ∃ (outs : List Nat) (cy : Nat), Boxed W w.heap.size 144 (.slice A1 l1.length c1) ∧ Boxed W (w.heap.size + 2) 144 (.slice (some ⟨w.heap.size + 1, 0, none⟩) k (l2.length + 1)) ∧ Boxed W (w.heap.size + 3) 128 (.int .u64 (cy : Int)) ∧
   Arr W (w.heap.size + 1) (outs ++ List.replicate (l2.length + 1 - k) 0) ∧ Below w.heap.size w W ∧ cy ≤ 1 ∧ outs.length = k ∧ Words outs ∧ Hid (val outs + BB ^ k * cy = val (l2.take k) + val (l1.take k)))
  ?own ?start ?round ?done
 case own =>
  rintro k X Y row ⟨outs, cy, a1, a2, a3, a4, a5, a6⟩ hg hr
  exact ⟨outs, cy, boxed_ownF _ _ _ (fun _ => _) k X Y row a1 hg hr, boxed_ownF _ _ _ (fun _ => _) k X Y row a2 hg hr, boxed_ownF _ _ _ (fun _ => _) k X Y row a3 hg hr, arr_ownF _ _ (fun _ => _) k X Y row a4 hg hr,
   ownFrom_below (Nat.le_refl _) (by omega) k X Y row a5 hg hr, a6⟩
 case start => exact ⟨[], 0, hB4, hB3, hB2, hR3, hs3.below, by omega, rfl, words_nil, by simp [Hid, val]⟩
 case round =>
  intro k W hk
  obtain ⟨x, hx, hxb⟩ : ∃ x, Hid (l2.getD k 0 = x) ∧ x < 4294967296 := ⟨_, rfl, words_getD h2.words k⟩
  obtain ⟨y, hy, hyb⟩ : ∃ y, Hid (l1.getD k 0 = y) ∧ y < 4294967296 := ⟨_, rfl, words_getD h1.words k⟩
  rw [hx.out]
  have hat : ∀ n w', Rd w' A1 l1 → CallsIn Fence.wide n Tryz.prog 213 #[.slice A1 l1.length c1, .int .i64 (k : Int)] w' fun e w'' => e = .returned (.int .u32 (y : Int)) ∧ w'' = w' := by
   intro n w' h; have := at_in n A1 c1 l1 k w' h hc1; rwa [hy.out] at this
  gi_wp2
  refine ⟨trivial, ?_⟩
  clear W
  rintro W ⟨outs, cy, hbb, hbo, hbc, harr, hbl, hcy, hol, how, hval⟩
  have g1 := hbb.cell
  have g2 := hbo.cell
  have g3 := hbc.cell
  obtain ⟨u, g4⟩ : ∃ u : Nat, W.cell? ⟨w.heap.size + 1, k, none⟩ = some (.int .u32 (u : Int)) := ⟨_, arr_cell harr k (by simp; omega)⟩
  have f2 := hbo.frozen
  have f3 := hbc.frozen
  have f4 := arr_frozen harr k
  have hwz := hbc.lt
  have t1 : w.heap.size + 1 < W.heap.size := by omega
  have t2 : w.heap.size + 2 < W.heap.size := by omega
  have Hol := Lib.hid hol
  clear hol
  gi_wp2
  have hwide : ∀ f, Fence.wide.fn f := fun _ => trivial
  refine wpIn_region_tail 9 (by kernel_rfl) (by kernel_rfl) (by kernel_rfl) ?_
  simp only [List.take_succ_cons, List.take_zero, List.drop_succ_cons, List.drop_zero]
  repeat (gi_big_quiet_step ((gi_at_call 213; exact CallsIn.quiet_of_same (CallsIn.inRound _ (hat _ _ (h1.below (below_drewN hbl _) rfl))))))
  refine wpQuietIn_nil ?_
  intro m
  obtain ⟨z, hz⟩ : ∃ z : Nat, ((cy : Int) + ((x : Int) + (y : Int))) % 4294967296 = (z : Int) := ⟨(cy + (x + y)) % 4294967296, by omega⟩
  obtain ⟨q, hq⟩ : ∃ q : Nat, ((cy : Int) + ((x : Int) + (y : Int))) / 4294967296 = (q : Int) := ⟨(cy + (x + y)) / 4294967296, by omega⟩
  gi_wp2
  simp only [Nat.add_assoc, Nat.reduceAdd]
  have hz' : z = (cy + (x + y)) % BB := by show z = _ % 4294967296; omega
  have hq' : q = (cy + (x + y)) / BB := by show q = _ / 4294967296; omega
  refine limb_end (by (repeat (first | with_reducible exact Stp.refl _ _ | with_reducible refine Stp.set ?_ (by simp) _ | with_reducible refine Stp.alloc ?_ (by simp; omega) _ | with_reducible refine Stp.drewN ?_ _))) (fun hst => ⟨outs ++ [z], q, by (repeat (first | with_reducible exact hbb | with_reducible exact HasBox.of hbb | with_reducible refine boxed_other ?_ (by omega) _ | with_reducible refine boxed_set _ ?_ | with_reducible refine HasBox.set ?_ _ _ | with_reducible refine HasBox.alloc ?_ _ | with_reducible refine HasBox.drewN ?_ _ | with_reducible refine Boxed.alloc ?_ _ | with_reducible refine boxed_drewN ?_ _)), by (repeat (first | with_reducible exact hbo | with_reducible exact HasBox.of hbo | with_reducible refine boxed_other ?_ (by omega) _ | with_reducible refine boxed_set _ ?_ | with_reducible refine HasBox.set ?_ _ _ | with_reducible refine HasBox.alloc ?_ _ | with_reducible refine HasBox.drewN ?_ _ | with_reducible refine Boxed.alloc ?_ _ | with_reducible refine boxed_drewN ?_ _)), by (repeat (first | with_reducible exact hbc | with_reducible exact HasBox.of hbc | with_reducible refine boxed_other ?_ (by omega) _ | with_reducible refine boxed_set _ ?_ | with_reducible refine HasBox.set ?_ _ _ | with_reducible refine HasBox.alloc ?_ _ | with_reducible refine HasBox.drewN ?_ _ | with_reducible refine Boxed.alloc ?_ _ | with_reducible refine boxed_drewN ?_ _)), ?_, hbl.trans hst.below, by omega, by simp [Hol.out], ?_, ?_⟩)
  · rw [show l2.length + 1 - (k + 1) = l2.length + 1 - k - 1 by omega, ← set_snoc outs (l2.length + 1 - k) z k Hol.out (by omega)]
    (repeat (first | with_reducible exact harr | with_reducible refine arr_other ?_ (by omega) _ | with_reducible refine arr_set ?_ _ _ | with_reducible refine arr_alloc ?_ _ | with_reducible refine arr_drewN ?_ _))
  · exact words_append.2 ⟨how, fun u hu => by simp at hu; rw [hu, hz']; exact Nat.mod_lt _ (by decide)⟩
  · rw [hz', hq']; exact add_step hx.out hy.out Hol.out hval.out
 case done =>
  rintro D W hD ⟨outs, cy, hbb, hbo, hbc, harr, hbl, hcy, hol, how, hval⟩ hK
  have g2 := hbo.cell
  have g3 := hbc.cell
  obtain ⟨u, g4⟩ : ∃ u : Nat, W.cell? ⟨w.heap.size + 1, l2.length, none⟩ = some (.int .u32 (u : Int)) := ⟨_, arr_cell harr l2.length (by simp; omega)⟩
  have f4 := arr_frozen harr l2.length
  have hwz := hbc.lt
  have t1 : w.heap.size + 1 < W.heap.size := by omega
  have t2 : w.heap.size + 2 < W.heap.size := by omega
  have Hol := Lib.hid hol
  clear hol
  gi_wp2
  obtain ⟨W5, hW5⟩ : ∃ W5, (W.setCell ⟨w.heap.size + 1, l2.length, none⟩ (.int .u32 (cy : Int))).alloc (.cells #[.int .u32 (cy : Int)] 127) = W5 := ⟨_, rfl⟩
  have hst5 : Stp w.heap.size W W5 := by rw [← hW5]; exact ((Stp.refl _ W).set (by simp) _).alloc (by simp [World.setCell]; omega) _
  have harr5 : Arr W5 (w.heap.size + 1) (outs ++ [cy]) := by
   have := arr_alloc (arr_set harr l2.length cy) (.cells #[.int .u32 (cy : Int)] 127)
   rw [set_snoc outs (l2.length + 1 - l2.length) cy l2.length Hol.out (by omega), show l2.length + 1 - l2.length - 1 = 0 by omega] at this
   rw [← hW5]; simpa using this
  rw [hW5]
  clear hW5
  have hK5 := hst5.keeps.same D _ hK rfl
  have hww : Words (outs ++ [cy]) := words_append.2 ⟨how, fun u hu => by simp at hu; rw [hu]; show cy < 4294967296; omega⟩
  have hlen : (outs ++ [cy]).length = l2.length + 1 := by simp [Hol.out]
  have hrd := arr_rd harr5 hww (by omega)
  have ht := fun n => trim_in n (some ⟨w.heap.size + 1, 0, none⟩) (l2.length + 1) (outs ++ [cy]) W5 hrd (by omega)
  have hval' : trim (outs ++ [cy]) = lim (val l2 + val l1) := by
   unfold trim
   have := hval.out
   rw [List.take_length, List.take_of_length_le (by omega)] at this
   rw [val_snoc, Hol.out, this]
  rw [hval', hlen] at ht
  have hrd2 := hrd.trim
  have htl := trim_length_le hww
  rw [hval'] at hrd2 htl
  have hDl := (Array.getElem?_eq_some_iff.1 hK5).1
  clear hval hval'
  refine ⟨trivial, ?_⟩
  refine (ht _).mono ?_
  rintro e w' ⟨rfl, rfl⟩
  gi_wp2
  refine ⟨by simp, .inl ⟨_, _, rfl, run_takeDeferred hK5, ?_⟩⟩
  exact ⟨_, results_tmp rfl _ _ _, _, _, rfl, by omega, hrd2.putObj _ hK5 rfl, hbl.trans (hst5.below.trans (belowK_b (w := w) (Nat.le_refl _) W5 D _ _ (by omega) hK5 rfl rfl))⟩
theorem add_calls (A1 A2 : Option Addr) (c1 c2 : Nat) (l1 l2 : List Nat) (w : World) (h1 : Rd w A1 l1) (h2 : Rd w A2 l2) (hc1 : l1.length ≤ c1) (hc2 : l2.length ≤ c2)
 (hs1 : l1.length ≤ 1048576) (hs2 : l2.length ≤ 1048576) :
 Calls Tryz.prog 160 #[.slice A1 l1.length c1, .slice A2 l2.length c2] w (RetNat (val l1 + val l2) w) := by
 by_cases h : l1.length < l2.length
 · rw [Nat.add_comm]; exact add_lt A1 A2 c1 c2 l1 l2 w h1 h2 hc1 hc2 h hs2
 · exact add_ge A1 A2 c1 c2 l1 l2 w h1 h2 hc1 hc2 (by omega) hs1
end Nm
end Go.Proofs.YtjghnghceeijeaaGreatDoor
namespace Go.Proofs.YtjghnghceeijeaaGreatDoor
namespace Nm
open Go.RowKit
theorem ret_int {k : IntKind} {a b : Int} (h : a = b) : Ending.returned (.int k a) = .returned (.int k b) := by rw [h]
def cmpZ (a b : Int) : Int := if a < b then -1 else if b < a then 1 else 0
theorem cmp_int_calls (a b : Int) (w : World) : Calls Tryz.prog 210 #[.int .i64 a, .int .i64 b] w fun e w' => e = .returned (.int .i64 (cmpZ a b)) ∧ w' = w := by
 by_cases h : a < b
 · go_enter Tryz.func210, Tryz.ntmps210
   go_wp2
   go_ret
   exact ⟨ret_int (by simp [cmpZ, h]), rfl⟩
 · by_cases h2 : b < a
   · go_enter Tryz.func210, Tryz.ntmps210
     go_wp2
     go_ret
     exact ⟨ret_int (by simp [cmpZ, h, h2]), rfl⟩
   · go_enter Tryz.func210, Tryz.ntmps210
     go_wp2
     go_ret
     exact ⟨ret_int (by simp only [cmpZ]; rw [if_neg (by omega), if_neg (by omega)]), rfl⟩
theorem cmp_u32_calls (a b : Int) (w : World) : Calls Tryz.prog 211 #[.int .u32 a, .int .u32 b] w fun e w' => e = .returned (.int .i64 (cmpZ a b)) ∧ w' = w := by
 by_cases h : a < b
 · go_enter Tryz.func211, Tryz.ntmps211
   go_wp2
   go_ret
   exact ⟨ret_int (by simp [cmpZ, h]), rfl⟩
 · by_cases h2 : b < a
   · go_enter Tryz.func211, Tryz.ntmps211
     go_wp2
     go_ret
     exact ⟨ret_int (by simp [cmpZ, h, h2]), rfl⟩
   · go_enter Tryz.func211, Tryz.ntmps211
     go_wp2
     go_ret
     exact ⟨ret_int (by simp only [cmpZ]; rw [if_neg (by omega), if_neg (by omega)]), rfl⟩
def wrong (e : Int) : List PanicEntry := [{ v := .iface 201 (.agg #[.int .i64 e]), recovered := false }]
theorem must_ok (e : Int) (w : World) : Calls Tryz.prog 152 #[.bool true, .int .i64 e] w fun x w' => x = .returned (.tuple #[]) ∧ w' = w := by
 go_enter Tryz.func152, Tryz.ntmps152
 go_wp2
 go_end0
 exact ⟨rfl, rfl⟩
theorem must_no (e : Int) (w : World) : Calls Tryz.prog 152 #[.bool false, .int .i64 e] w fun x w' => x = .panicked (wrong e) ∧ w' = w := by
 go_enter Tryz.func152, Tryz.ntmps152
 go_wp2
 exact ⟨rfl, rfl, rfl⟩
def okI (neg : Bool) (l : List Nat) : Bool := if l.length = 0 then !neg else decide (l.length ≤ 300) && (l.getD (l.length - 1) 0 != 0)
abbrev iv (neg : Bool) (A : Option Addr) (n c : Nat) : Value := .agg #[.bool neg, .slice A n c]
set_option maxHeartbeats 1000000 in
theorem Check_calls (neg : Bool) (A : Option Addr) (c : Nat) (l : List Nat) (w : World) (hA : Rd w A l) (hc : l.length ≤ c) :
 Calls Tryz.prog 161 #[iv neg A l.length c] w fun e w' => e = .returned (.int .i64 (if okI neg l then 0 else 1)) ∧ Below w.heap.size w w' := by
 have hs := hA.small
 by_cases h300 : 300 < l.length
 · have hk : okI neg l = false := by unfold okI; rw [if_neg (by omega), show decide (l.length ≤ 300) = false from decide_eq_false (by omega)]; rfl
   rw [hk]
   clear hk
   simp only [Bool.false_eq_true, if_false]
   go_enter Tryz.func161, Tryz.ntmps161
   go_wp2
   go_ret
   exact ⟨rfl, (Below.refl _ _).alloc (Nat.le_refl _) _⟩
 · by_cases h0 : l.length = 0
   · obtain rfl : l = [] := List.length_eq_zero_iff.1 h0
     cases neg
     · have hk : okI false [] = true := by decide
       rw [hk, if_pos rfl]
       clear hk
       go_enter Tryz.func161, Tryz.ntmps161
       go_wp2
       go_ret
       exact ⟨rfl, (Below.refl _ _).alloc (Nat.le_refl _) _⟩
     · have hk : okI true [] = false := by decide
       rw [hk]
       clear hk
       simp only [Bool.false_eq_true, if_false]
       go_enter Tryz.func161, Tryz.ntmps161
       go_wp2
       go_ret
       exact ⟨rfl, (Below.refl _ _).alloc (Nat.le_refl _) _⟩
   · obtain ⟨b, o, x, rfl, hcx, hx, hxb⟩ := hA.get (l.length - 1) (by omega)
     have hbl : b < w.heap.size := World.block_lt_of_cell? w _ hcx
     have h0' : ((l.length : Int) == 0) = false := by rw [beq_eq_false_iff_ne]; omega
     have hp : 0 < l.length := by omega
     by_cases hx0 : x = 0
     · subst hx0
       have hk : okI neg l = false := by unfold okI; rw [if_neg h0, hx.out]; simp
       rw [hk]
       clear hk h0
       simp only [Bool.false_eq_true, if_false]
       have h300' : decide ((300 : Int) < (l.length : Int)) = false := decide_eq_false (by omega)
       go_enter Tryz.func161, Tryz.ntmps161
       go_wp2
       go_ret
       exact ⟨rfl, (Below.refl _ _).alloc (Nat.le_refl _) _⟩
     · have hx1 : ((x : Int) == 0) = false := by simp; omega
       have hk : okI neg l = true := by unfold okI; rw [if_neg h0, hx.out]; simp [hx0]; omega
       rw [hk, if_pos rfl]
       clear hk h0
       go_enter Tryz.func161, Tryz.ntmps161
       go_wp2
       go_ret
       exact ⟨rfl, (Below.refl _ _).alloc (Nat.le_refl _) _⟩
def toZ (neg : Bool) (l : List Nat) : Int := if neg then -(val l : Int) else val l
def sgn (neg : Bool) (l : List Nat) : Int := if l.length = 0 then 0 else if neg then -1 else 1
set_option maxHeartbeats 1000000 in
theorem sign_calls (neg : Bool) (A : Option Addr) (c : Nat) (l : List Nat) (w : World) :
 Calls Tryz.prog 214 #[iv neg A l.length c] w fun e w' => e = .returned (.int .i64 (sgn neg l)) ∧ w' = w.alloc (.cells #[.bool neg, .slice A l.length c] 24) := by
 by_cases h0 : l.length = 0
 · obtain rfl : l = [] := List.length_eq_zero_iff.1 h0
   go_enter Tryz.func214, Tryz.ntmps214
   go_wp2
   go_ret
   exact ⟨rfl, rfl⟩
 · have h0' : ((l.length : Int) == 0) = false := by rw [beq_eq_false_iff_ne]; omega
   cases neg
   · have hg : sgn false l = 1 := by unfold sgn; rw [if_neg h0]; rfl
     rw [hg]
     clear h0 hg
     go_enter Tryz.func214, Tryz.ntmps214
     go_wp2
     go_ret
     exact ⟨rfl, rfl⟩
   · have hg : sgn true l = -1 := by unfold sgn; rw [if_neg h0]; rfl
     rw [hg]
     clear h0 hg
     go_enter Tryz.func214, Tryz.ntmps214
     go_wp2
     go_ret
     exact ⟨rfl, rfl⟩
set_option maxHeartbeats 1000000 in
theorem compare_ne (A1 A2 : Option Addr) (c1 c2 : Nat) (l1 l2 : List Nat) (w : World) (h : l1.length ≠ l2.length) :
 Calls Tryz.prog 159 #[.slice A1 l1.length c1, .slice A2 l2.length c2] w fun e w' => e = .returned (.int .i64 (cmpZ l1.length l2.length)) ∧ ∃ n, w' = w.drewN n := by
 have h' : ((l1.length : Int) != (l2.length : Int)) = true := by rw [bne_iff_ne]; omega
 clear h
 go_enter Tryz.func159, Tryz.ntmps159
 go_wp2_with (go_at_call 210; refine (cmp_int_calls _ _ _).mono ?_; rintro e w' ⟨rfl, rfl⟩)
 go_ret
 exact ⟨rfl, 0, rfl⟩
theorem compare_eq (A1 A2 : Option Addr) (c1 c2 : Nat) (l1 l2 : List Nat) (w : World) (h1 : Rd w A1 l1) (h2 : Rd w A2 l2) (_hc1 : l1.length ≤ c1) (hc2 : l2.length ≤ c2) (h : l1.length = l2.length) :
 Calls Tryz.prog 159 #[.slice A1 l1.length c1, .slice A2 l2.length c2] w fun e w' => e = .returned (.int .i64 (cmpZ (val l1) (val l2))) ∧ ∃ n, w' = w.drewN n := by
 have hs := h1.small
 rw [← h]
 have hc2' : l1.length ≤ c2 := by omega
 have H := Lib.hid h
 have hne0 : ((l1.length : Int) != (l1.length : Int)) = false := by simp
 clear h hc2
 go_enter Tryz.func159, Tryz.ntmps159
 go_wp2
 go_loopw [5] (fun i w' => ∃ k : Nat, k ≤ l1.length ∧ i = .int .i64 ((k : Int) - 1) ∧ (∃ n, w' = w.drewN n) ∧ Hid (l1.drop k = l2.drop k)) (fun i _ => (intOf i + 1).toNat)
 case atStart => exact ⟨l1.length, Nat.le_refl _, rfl, ⟨0, rfl⟩, by show _ = _; rw [List.drop_of_length_le (Nat.le_refl _), List.drop_of_length_le (by have := H.out; omega)]⟩
 case round =>
  obtain ⟨k, hk, rfl, ⟨n0, rfl⟩, hd⟩ := hrel
  by_cases h0 : 0 < k
  · obtain ⟨k, rfl⟩ : ∃ j, k = j + 1 := ⟨k - 1, by omega⟩
    obtain ⟨b1, o1, x, rfl, hcx, hx, hxb⟩ := h1.get k (by omega)
    obtain ⟨b2, o2, y, rfl, hcy, hy, hyb⟩ := h2.get k (by have := H.out; omega)
    rw [show ((k + 1 : Nat) : Int) - 1 = (k : Int) by omega]
    clear h0
    by_cases hxy : x = y
    · subst hxy
      have hne : ((x : Int) != (x : Int)) = false := by simp
      go_wp2
      go_quiet (fail)
      go_wp2
      go_roundw
      case rel =>
       refine ⟨k, by omega, rfl, ⟨_, rfl⟩, ?_⟩
       show _ = _
       have e1 : l1.drop k = x :: l1.drop (k + 1) := by
        have := hx.out
        rw [List.getD_eq_getElem?_getD, List.getElem?_eq_getElem (by omega)] at this
        rw [List.drop_eq_getElem_cons (by omega)]; rw [show l1[k] = x by simpa using this]
       have e2 : l2.drop k = x :: l2.drop (k + 1) := by
        have := hy.out
        rw [List.getD_eq_getElem?_getD, List.getElem?_eq_getElem (by have := H.out; omega)] at this
        rw [List.drop_eq_getElem_cons (by have := H.out; omega)]; rw [show l2[k] = x by simpa using this]
       rw [e1, e2, hd.out]
      case measure => simp [intOf]
    · have hne : ((x : Int) != (y : Int)) = true := by rw [bne_iff_ne]; omega
      go_wp2
      go_quiet (fail)
      rw [World.drewN_drewN]
      obtain ⟨W, hW⟩ : ∃ W, w.drewN (n0 + nq) = W := ⟨_, rfl⟩
      replace hcx : W.cell? ⟨b1, o1 + k, none⟩ = some (.int .u32 (x : Int)) := by rw [← hW]; exact hcx
      replace hcy : W.cell? ⟨b2, o2 + k, none⟩ = some (.int .u32 (y : Int)) := by rw [← hW]; exact hcy
      rw [hW]
      have HW := Lib.hid hW
      clear hW
      go_wp2
      go_quiet ((go_at_call 211; exact Calls.quiet_of_same (cmp_u32_calls _ _ _)))
      go_wp2
      go_ret
      refine ⟨ret_int ?_, ⟨_, by rw [← HW.out, World.drewN_drewN]⟩⟩
      have hl := H.out
      unfold cmpZ
      rcases Nat.lt_or_gt_of_ne hxy with hlt | hgt
      · have := val_drop_lt h1.words h2.words H.out (k := k) (by omega) hd.out (by rw [hx.out, hy.out]; exact hlt)
        rw [if_pos (by omega), if_pos (by omega)]
      · have := val_drop_lt h2.words h1.words H.out.symm (k := k) (by omega) hd.out.symm (by rw [hx.out, hy.out]; exact hgt)
        rw [if_neg (by omega), if_pos (by omega), if_neg (by omega), if_pos (by omega)]
  · obtain rfl : k = 0 := by omega
    go_wp2
    go_ret
    have e : l1 = l2 := by simpa using hd.out
    exact ⟨ret_int (by rw [e]; simp [cmpZ]), n0, rfl⟩
theorem compare_calls (A1 A2 : Option Addr) (c1 c2 : Nat) (l1 l2 : List Nat) (w : World) (h1 : Rd w A1 l1) (h2 : Rd w A2 l2) (hc1 : l1.length ≤ c1) (hc2 : l2.length ≤ c2) (k1 : Canon l1) (k2 : Canon l2) :
 Calls Tryz.prog 159 #[.slice A1 l1.length c1, .slice A2 l2.length c2] w fun e w' => e = .returned (.int .i64 (cmpZ (val l1) (val l2))) ∧ ∃ n, w' = w.drewN n := by
 by_cases h : l1.length = l2.length
 · exact compare_eq A1 A2 c1 c2 l1 l2 w h1 h2 hc1 hc2 h
 · refine (compare_ne A1 A2 c1 c2 l1 l2 w h).mono ?_
   rintro e w' ⟨rfl, h'⟩
   refine ⟨ret_int ?_, h'⟩
   unfold cmpZ
   rcases Nat.lt_or_gt_of_ne h with hlt | hgt
   · have := val_lt_of_length k1.1 k2 hlt
     rw [if_pos (by omega), if_pos (by omega)]
   · have := val_lt_of_length k2.1 k1 hgt
     rw [if_neg (by omega), if_pos (by omega), if_neg (by omega), if_pos (by omega)]
end Nm
end Go.Proofs.YtjghnghceeijeaaGreatDoor
