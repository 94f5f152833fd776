/-
  Contracts of the walks below.
-/
import Derived.Test.YtjghnghceeijeaaGreatDoorDb7
set_option maxRecDepth 100000
set_option maxHeartbeats 4000000
set_option linter.unusedVariables false
set_option linter.unusedSimpArgs false
namespace Go
variable {P : Program}
theorem append_types (t u e e' : TypeId) (ht : P.underlying t = some (.slice e)) (hu : P.underlying u = some (.slice e')) (ty : TypeId) (s x : Value) (w : World) :
 (Builtin.append_ #[t, u] ty #[s, x]).run P w = (Builtin.append_ #[t, t] ty #[s, x]).run P w := by
 cases s with
 | slice base l c =>
  simp only [Builtin.append_, underlying]
  simp [go_sem, ht, hu]
 | _ => simp [Builtin.append_, underlying, Sem.run_bind, go_sem, ht]
theorem wp_append_own2 (w : World) {o : Oper} {a : Act} {K : Act → World → Prop} {Q : Exit → Act → World → Prop} (s x : Operand) (t u : TypeId)
 (ho : o.op = .call { callee := .builtin .append, args := #[s, x], argTypes := #[t, u] })
 (base : Nat) (e e' : TypeId) (i : TypeInfo) (z : Value) (size bytes : Nat) (ht : P.underlying t = some (.slice e)) (hu : P.underlying u = some (.slice e')) (hi : P.info? e = some i) (hz : i.zero = some z)
 (hsize : i.size = size) (hby : i.bytes = bytes) (hzs : z.cells.size = size) (hsz : 0 < size)
 (v : Value) (n : Nat) (xs : List Value) (hs : a.eval s = v) (hown : w.ownsRow base e size v n xs)
 (ad : Addr) (m c : Nat) (news : List Value) (hx : a.eval x = .slice (some ad) m c) (hl : news.length = m * size) (hnews : ∀ j u, news[j]? = some u → w.cell? (ad.add j) = some u) (h1 : ∀ u ∈ news, u.oneCell' = true)
 (h63 : n + m ≤ maxLen) (hbytes : (n + m) * bytes ≤ 140737488355328) (hbase : base ≤ w.heap.size)
 (h : ∀ v' w', w'.ownsRow base e size v' (n + m) (xs ++ news) → w.grownBy w' v.ownBlock → (v' = .slice none 0 0 ↔ v = .slice none 0 0 ∧ m = 0) → K (a.put o.dst v') w') : o.wp P a w K Q := by
 obtain ⟨v', w', hr, h2, h3, h4⟩ := run_append_own (P := P) w base t o.type e i z size bytes ht hi hz hsize hby hzs hsz v n xs hown ad m c news hl hnews h1 h63 hbytes hbase
 rw [← append_types t u e e' ht hu] at hr
 unfold Oper.wp execOp
 simp only [ho, resolve, invoke, builtin, Sem.run_bind, Sem.run_pure, Result.andThen_ok, List.map_toArray, List.map_cons, List.map_nil, hs, hx, hr]
 exact h v' w' h2 h3 h4
theorem wpList_append_own2 (w : World) {ops : Array Oper} {rest : List Oper} {o : Oper} {a : Act} {Q : Exit → Act → World → Prop} (hgd : o.guard = none) (s x : Operand) (t u : TypeId)
 (ho : o.op = .call { callee := .builtin .append, args := #[s, x], argTypes := #[t, u] })
 (base : Nat) (e e' : TypeId) (i : TypeInfo) (z : Value) (size bytes : Nat) (ht : P.underlying t = some (.slice e)) (hu : P.underlying u = some (.slice e')) (hi : P.info? e = some i) (hz : i.zero = some z)
 (hsize : i.size = size) (hby : i.bytes = bytes) (hzs : z.cells.size = size) (hsz : 0 < size)
 (v : Value) (n : Nat) (xs : List Value) (hs : a.eval s = v) (hown : w.ownsRow base e size v n xs)
 (ad : Addr) (m c : Nat) (news : List Value) (hx : a.eval x = .slice (some ad) m c) (hl : news.length = m * size) (hnews : ∀ j u, news[j]? = some u → w.cell? (ad.add j) = some u) (h1 : ∀ u ∈ news, u.oneCell' = true)
 (h63 : n + m ≤ maxLen) (hbytes : (n + m) * bytes ≤ 140737488355328) (hbase : base ≤ w.heap.size)
 (h : ∀ v' w', w'.ownsRow base e size v' (n + m) (xs ++ news) → w.grownBy w' v.ownBlock → (v' = .slice none 0 0 ↔ v = .slice none 0 0 ∧ m = 0) → wpList P ops Q rest (a.put o.dst v') w') : wpList P ops Q (o :: rest) a w :=
 wpList_plain hgd fun _ hK => wp_append_own2 w s x t u ho base e e' i z size bytes ht hu hi hz hsize hby hzs hsz v n xs hs hown ad m c news hx hl hnews h1 h63 hbytes hbase fun v' w' h2 h3 h4 => hK _ _ (h v' w' h2 h3 h4)
theorem run_append_none (t u e e' : TypeId) (i : TypeInfo) (ht : P.underlying t = some (.slice e)) (hu : P.underlying u = some (.slice e')) (hi : P.info? e = some i) (ty : TypeId) (A : Option Addr) (c : Nat) (w : World) :
 (Builtin.append_ #[t, u] ty #[.slice none 0 0, .slice A 0 c]).run P w = .ok (.slice none 0 0) w := by
 cases A
 all_goals
  simp only [Builtin.append_, underlying]
  simp [go_sem, ht, hu, sizeOf, typeInfo, hi, Result.andThen]
theorem wpList_append_none (w : World) {ops : Array Oper} {rest : List Oper} {o : Oper} {a : Act} {Q : Exit → Act → World → Prop} (hgd : o.guard = none) (s x : Operand) (t u : TypeId)
 (ho : o.op = .call { callee := .builtin .append, args := #[s, x], argTypes := #[t, u] }) (e e' : TypeId) (i : TypeInfo) (ht : P.underlying t = some (.slice e)) (hu : P.underlying u = some (.slice e')) (hi : P.info? e = some i)
 (A : Option Addr) (c : Nat) (hs : a.eval s = .slice none 0 0) (hx : a.eval x = .slice A 0 c)
 (h : wpList P ops Q rest (a.put o.dst (.slice none 0 0)) w) : wpList P ops Q (o :: rest) a w :=
 wpList_plain hgd fun _ hK => by
  have hr := run_append_none (P := P) t u e e' i ht hu hi o.type A c w
  unfold Oper.wp execOp
  simp only [ho, resolve, invoke, builtin, Sem.run_bind, Sem.run_pure, Result.andThen_ok, List.map_toArray, List.map_cons, List.map_nil, hs, hx, hr]
  exact hK _ _ h
end Go
namespace Go.Proofs.YtjghnghceeijeaaGreatDoor
namespace Nm
open Go.RowKit Go.Shelf Go.BigFrame
attribute [local go_sem] Oper.semAt_some
def addS (an : Bool) (a : Nat) (bn : Bool) (b : Nat) : Bool × Nat := if an = bn then (an, a + b) else if b ≤ a then (an, a - b) else (bn, b - a)
def RetSgn (s : Bool) (n : Nat) (w : World) (e : Ending) (w' : World) : Prop :=
 ∃ A c, e = .returned (.tuple #[.bool s, .slice A (lim n).length c]) ∧ (lim n).length ≤ c ∧ Rd w' A (lim n) ∧ Below w.heap.size w w'
theorem total_calls (an bn : Bool) (A1 A2 : Option Addr) (c1 c2 : Nat) (l1 l2 : List Nat) (w : World) (h1 : Rd w A1 l1) (h2 : Rd w A2 l2) (hc1 : l1.length ≤ c1) (hc2 : l2.length ≤ c2) (k1 : Canon l1) (k2 : Canon l2) (hs1 : l1.length ≤ 65536) (hs2 : l2.length ≤ 65536) :
 Calls Tryz.prog 148 #[.bool an, .slice A1 l1.length c1, .bool bn, .slice A2 l2.length c2] w (RetSgn (addS an (val l1) bn (val l2)).1 (addS an (val l1) bn (val l2)).2 w) := by
 have hadd := add_calls A1 A2 c1 c2 l1 l2 w h1 h2 hc1 hc2 (by omega) (by omega)
 have hcm := compare_calls A1 A2 c1 c2 l1 l2 w h1 h2 hc1 hc2 k1 k2
 by_cases he : an = bn
 · subst he
   rw [show addS an (val l1) an (val l2) = (an, val l1 + val l2) from by unfold addS; rw [if_pos rfl]]
   cases an
   all_goals
    go_enter Tryz.func148, Tryz.ntmps148
    go_wp2_with (go_at_call 160; refine hadd.mono ?_; rintro e w' ⟨A, c, rfl, r1, r2, r3⟩)
    go_ret2
    exact ⟨_, _, rfl, r1, r2, r3⟩
 · by_cases hle : val l2 ≤ val l1
   · rw [show addS an (val l1) bn (val l2) = (an, val l1 - val l2) from by unfold addS; rw [if_neg he, if_pos hle]]
     obtain ⟨z, hz⟩ : ∃ z : Nat, cmpZ (val l1 : Int) (val l2 : Int) = (z : Int) := by
      unfold cmpZ; rw [if_neg (by omega)]; split
      · exact ⟨1, rfl⟩
      · exact ⟨0, rfl⟩
     rw [hz] at hcm
     have hll : l2.length ≤ l1.length := by
      have := length_mono hle
      rwa [lim_val k1, lim_val k2] at this
     have hsub := fun nn => sub_calls A1 A2 c1 c2 l1 l2 (w.drewN nn) (h1.on (below_drewN (Below.refl _ _) nn)) (h2.on (below_drewN (Below.refl _ _) nn)) hc1 hc2 hle hll (by omega)
     cases an <;> cases bn <;> first | exact absurd rfl he | skip
     all_goals
      go_enter Tryz.func148, Tryz.ntmps148
      go_wp2_with first
       | (go_at_call 159; refine hcm.mono ?_; rintro e w' ⟨rfl, nn, rfl⟩)
       | (go_at_call 201; refine (hsub nn).mono ?_; rintro e w' ⟨A, c, rfl, r1, r2, r3⟩)
      go_ret2
      exact ⟨_, _, rfl, r1, r2, (below_drewN (Below.refl _ _) nn).trans r3⟩
   · rw [show addS an (val l1) bn (val l2) = (bn, val l2 - val l1) from by unfold addS; rw [if_neg he, if_neg hle]]
     rw [show cmpZ (val l1 : Int) (val l2 : Int) = -1 from by unfold cmpZ; rw [if_pos (by omega)]] at hcm
     have hll : l1.length ≤ l2.length := by
      have := length_mono (show val l1 ≤ val l2 by omega)
      rwa [lim_val k1, lim_val k2] at this
     have hsub := fun nn => sub_calls A2 A1 c2 c1 l2 l1 (w.drewN nn) (h2.on (below_drewN (Below.refl _ _) nn)) (h1.on (below_drewN (Below.refl _ _) nn)) hc2 hc1 (by omega) hll (by omega)
     cases an <;> cases bn <;> first | exact absurd rfl he | skip
     all_goals
      go_enter Tryz.func148, Tryz.ntmps148
      go_wp2_with first
       | (go_at_call 159; refine hcm.mono ?_; rintro e w' ⟨rfl, nn, rfl⟩)
       | (go_at_call 201; refine (hsub nn).mono ?_; rintro e w' ⟨A, c, rfl, r1, r2, r3⟩)
      go_ret2
      exact ⟨_, _, rfl, r1, r2, (below_drewN (Below.refl _ _) nn).trans r3⟩
theorem cell_at {W : World} {B : Nat} {cur : Array Value} {t : TypeId} (h : W.heap[B]? = some (.cells cur t (0, 0))) (i : Nat) (v : Value) (hi : cur[i]? = some v) : W.cell? ⟨B, i, none⟩ = some v := by
 simp only [World.cell?, h, Option.isSome_none, Bool.false_eq_true, if_false]
 exact hi
theorem frozen_at {W : World} {B : Nat} {cur : Array Value} {t : TypeId} (h : W.heap[B]? = some (.cells cur t (0, 0))) (i : Nat) : W.frozen? ⟨B, i, none⟩ = false := by
 simp [World.frozen?, h]
theorem set_blk {W : World} {B : Nat} {cur : Array Value} {t : TypeId} (h : W.heap[B]? = some (.cells cur t (0, 0))) (i : Nat) (v : Value) : (W.setCell ⟨B, i, none⟩ v).heap[B]? = some (.cells (cur.setIfInBounds i v) t (0, 0)) := by
 obtain ⟨hlt, hk⟩ := Array.getElem?_eq_some_iff.1 h
 show (W.heap.modify B _)[B]? = _
 rw [Array.getElem?_eq_getElem (by rw [Array.size_modify]; exact hlt), Array.getElem_modify_self, hk]
 rfl
theorem int_size : (Tryz.prog.info? 24).map (·.size) = some 2 := by kernel_rfl
theorem ret_cell {fn : Func} {p : Tmp} (h : fn.results = #[.cell p 24]) {a : Act} {w : World} {g : Nat} {x y : Value} {R : Ending → World → Prop} (hd0 : a.defers = []) (hp : a.tmps.getD p undef = .pointer (some ⟨g, 0, none⟩))
 (hg : w.heap[g]? = some (.cells #[x, y] 24 (0, 0))) (hR : R (.returned (.agg #[x, y])) w) : bodyPost Tryz.prog fn R .ret a w := by
 exact bodyPost_ret (results_cell_row h _ _ g 24 #[x, y] (0, 0) _ hp hg Tryz.underlying24 rfl int_size) hd0 hR
def RetInt (s : Bool) (n : Nat) (w : World) (e : Ending) (w' : World) : Prop :=
 ∃ A c, e = .returned (iv s A (lim n).length c) ∧ (lim n).length ≤ c ∧ Rd w' A (lim n) ∧ Below w.heap.size w w'
theorem whole_no (neg : Bool) (A : Option Addr) (c : Nat) (l : List Nat) (w : World) (hA : Rd w A l) (hc : l.length ≤ c) (hl : 300 < (lim (val l)).length) :
 Calls Tryz.prog 147 #[.bool neg, .slice A l.length c] w fun e w' => e = .panicked (wrong 3) ∧ Below w.heap.size w w' := by
 have ht := fun W h => trim_calls A c l W h hc
 unfold trim at ht
 have hb : ∀ o, Below w.heap.size w (w.alloc o) := fun o => (Below.refl _ _).alloc (Nat.le_refl _) _
 have hlt := trim_length_le hA.words
 have hs := hA.small
 unfold trim at hlt
 have h3 : (((lim (val l)).length : Int) ≤ 300) ↔ False := by rw [iff_false]; omega
 go_enter Tryz.func147, Tryz.ntmps147
 go_wp2_with first
  | (go_at_call 164; refine (ht _ (hA.on (hb _))).mono ?_; rintro e w' ⟨rfl, rfl⟩)
  | (go_at_call 152; refine (must_no 3 _).mono ?_; rintro e w' ⟨rfl, rfl⟩)
 exact ⟨rfl, rfl, hb _⟩
theorem whole_ok (neg : Bool) (A : Option Addr) (c : Nat) (l : List Nat) (w : World) (hA : Rd w A l) (hc : l.length ≤ c) (hl : (lim (val l)).length ≤ 300) :
 Calls Tryz.prog 147 #[.bool neg, .slice A l.length c] w (RetInt (neg && val l != 0) (val l) w) := by
 have ht := fun W h => trim_calls A c l W h hc
 have hlt := trim_length_le hA.words
 have hrt := hA.trim
 unfold trim at ht hlt hrt
 have hb : ∀ o, Below w.heap.size w (w.alloc o) := fun o => (Below.refl _ _).alloc (Nat.le_refl _) _
 have hs := hA.small
 have h3 : (((lim (val l)).length : Int) ≤ 300) ↔ True := by rw [iff_true]; omega
 obtain ⟨i0, hi, hz0, hz1, hz2⟩ := info_parts info_u32
 have hbt : Tryz.prog.underlying 22 = some (.slice 127) := by kernel_rfl
 by_cases h0 : val l = 0
 · rw [h0, lim_zero] at ht hlt hrt h3
   rw [h0]
   have e0 : (neg && (0 : Nat) != 0) = false := by cases neg <;> rfl
   rw [e0]
   cases neg
   all_goals
    go_enter Tryz.func147, Tryz.ntmps147
    go_wp2_with first
     | (go_at_call 164; refine (ht _ (hA.on (hb _))).mono ?_; rintro e w' ⟨rfl, rfl⟩)
     | (go_at_call 152; refine (must_ok 3 _).mono ?_; rintro e w' ⟨rfl, rfl⟩)
     | (at_builtin; (refine wpList_append_none _ rfl _ _ 22 144 rfl 127 127 i0 hbt Tryz.underlying144 hi A c rfl rfl ?_))
   all_goals
    exact ret_cell rfl rfl rfl (World.alloc_heap_new w _) ⟨none, 0, by rw [lim_zero]; rfl, by rw [lim_zero]; exact Nat.le_refl _, by rw [lim_zero]; exact Rd.nil _ _, hb _⟩
 · have hp : 0 < val l := Nat.pos_of_ne_zero h0
   have hlp := lim_length_pos hp
   obtain ⟨b, o, rfl⟩ := hrt.head hlp
   have e0 : (neg && val l != 0) = neg := by
    have : (val l != 0) = true := by simpa using h0
    rw [this]; cases neg <;> rfl
   rw [e0]
   have hnews := rd_news (hrt.on (hb (.cells #[.bool false, .slice none 0 0] 24)))
   have hlp' : ((0 : Int) < ((lim (val l)).length : Int)) ↔ True := by rw [iff_true]; omega
   clear h0
   cases neg
   all_goals
    go_enter Tryz.func147, Tryz.ntmps147
    go_wp2_with first
     | (go_at_call 164; refine (ht _ (hA.on (hb _))).mono ?_; rintro e w' ⟨rfl, rfl⟩)
     | (go_at_call 152; refine (must_ok 3 _).mono ?_; rintro e w' ⟨rfl, rfl⟩)
     | (at_builtin; (refine wpList_append_own2 _ rfl _ _ 22 144 rfl (w.heap.size + 1) 127 127 i0 (.int .u32 0) 1 4 hbt Tryz.underlying144 hi hz0 hz1 hz2 rfl (by decide) _ _ _ rfl (World.ownsRow_nil _ _ _ _) ⟨b, o, none⟩ (lim (val l)).length c (wvals (lim (val l))) rfl (by simp) hnews (wvals_one _) (by unfold maxLen; omega) (by omega) (by simp) ?_); intro v' w4 hown' hg4 _; obtain ⟨A', c', hv', hn', hc', hrd', hab⟩ := own_rd (l := lim (val l)) hown' (words_lim _) (by omega); subst hv'; have hblk : w4.heap[w.heap.size]? = some (.cells #[.bool false, .slice none 0 0] 24 (0, 0)) := (hg4.block w.heap.size (by simp) (fun e => by cases e)).trans (World.alloc_heap_new w _); have x0 : w4.cell? ⟨w.heap.size, 0, none⟩ = some (.bool false) := cell_at hblk 0 _ rfl; have x1 : w4.cell? ⟨w.heap.size, 1, none⟩ = some (.slice none 0 0) := cell_at hblk 1 _ rfl; have y0 := frozen_at hblk 0; have y1 := frozen_at hblk 1; have hb4 : Below w.heap.size w w4 := (hb _).grown hg4 (by simp) (fun j e => by cases e))
    refine ret_cell rfl rfl rfl (set_blk (set_blk hblk 0 _) 1 _) ⟨A', c', rfl, by omega, ?_, (hb4.setCell (Nat.le_refl _) _).setCell (Nat.le_refl _) _⟩
    exact grw_rd (grownBy_setCell_at _ _ _ _) (grw_rd (grownBy_setCell_at _ _ _ _) hrd' (fun b o e => by have := hab b o e; omega)) (fun b o e => by have := hab b o e; omega)
theorem mkf (fn : Fn) (first cap : Array Value) (w : World) : (Instr.makeFunc fn first cap).run Tryz.prog w = .ok (.func fn first cap) w := rfl
theorem cL2 {W : World} {b : Nat} {t : TypeId} {v0 v1 : Value} {r : List Value} (h : W.heap[b]? = some (.cells (List.toArray (v0::v1::r)) t (0, 0))) : W.cell? ⟨b, 0, none⟩ = some v0 ∧ W.cell? ⟨b, 1, none⟩ = some v1 :=
 ⟨cell_at h 0 _ rfl, cell_at h 1 _ rfl⟩
theorem fZ2 {W : World} {b : Nat} {t : TypeId} {c : Array Value} (h : W.heap[b]? = some (.cells c t (0, 0))) : W.frozen? ⟨b, 0, none⟩ = false ∧ W.frozen? ⟨b, 1, none⟩ = false :=
 ⟨frozen_at h 0, frozen_at h 1⟩
theorem cL3 {W : World} {b : Nat} {t : TypeId} {v0 v1 v2 : Value} {r : List Value} (h : W.heap[b]? = some (.cells (List.toArray (v0::v1::v2::r)) t (0, 0))) : W.cell? ⟨b, 0, none⟩ = some v0 ∧ W.cell? ⟨b, 1, none⟩ = some v1 ∧ W.cell? ⟨b, 2, none⟩ = some v2 :=
 ⟨cell_at h 0 _ rfl, cell_at h 1 _ rfl, cell_at h 2 _ rfl⟩
theorem fZ3 {W : World} {b : Nat} {t : TypeId} {c : Array Value} (h : W.heap[b]? = some (.cells c t (0, 0))) : W.frozen? ⟨b, 0, none⟩ = false ∧ W.frozen? ⟨b, 1, none⟩ = false ∧ W.frozen? ⟨b, 2, none⟩ = false :=
 ⟨frozen_at h 0, frozen_at h 1, frozen_at h 2⟩
theorem cL4 {W : World} {b : Nat} {t : TypeId} {v0 v1 v2 v3 : Value} {r : List Value} (h : W.heap[b]? = some (.cells (List.toArray (v0::v1::v2::v3::r)) t (0, 0))) : W.cell? ⟨b, 0, none⟩ = some v0 ∧ W.cell? ⟨b, 1, none⟩ = some v1 ∧ W.cell? ⟨b, 2, none⟩ = some v2 ∧ W.cell? ⟨b, 3, none⟩ = some v3 :=
 ⟨cell_at h 0 _ rfl, cell_at h 1 _ rfl, cell_at h 2 _ rfl, cell_at h 3 _ rfl⟩
theorem fZ4 {W : World} {b : Nat} {t : TypeId} {c : Array Value} (h : W.heap[b]? = some (.cells c t (0, 0))) : W.frozen? ⟨b, 0, none⟩ = false ∧ W.frozen? ⟨b, 1, none⟩ = false ∧ W.frozen? ⟨b, 2, none⟩ = false ∧ W.frozen? ⟨b, 3, none⟩ = false :=
 ⟨frozen_at h 0, frozen_at h 1, frozen_at h 2, frozen_at h 3⟩
theorem cL5 {W : World} {b : Nat} {t : TypeId} {v0 v1 v2 v3 v4 : Value} {r : List Value} (h : W.heap[b]? = some (.cells (List.toArray (v0::v1::v2::v3::v4::r)) t (0, 0))) : W.cell? ⟨b, 0, none⟩ = some v0 ∧ W.cell? ⟨b, 1, none⟩ = some v1 ∧ W.cell? ⟨b, 2, none⟩ = some v2 ∧ W.cell? ⟨b, 3, none⟩ = some v3 ∧ W.cell? ⟨b, 4, none⟩ = some v4 :=
 ⟨cell_at h 0 _ rfl, cell_at h 1 _ rfl, cell_at h 2 _ rfl, cell_at h 3 _ rfl, cell_at h 4 _ rfl⟩
theorem fZ5 {W : World} {b : Nat} {t : TypeId} {c : Array Value} (h : W.heap[b]? = some (.cells c t (0, 0))) : W.frozen? ⟨b, 0, none⟩ = false ∧ W.frozen? ⟨b, 1, none⟩ = false ∧ W.frozen? ⟨b, 2, none⟩ = false ∧ W.frozen? ⟨b, 3, none⟩ = false ∧ W.frozen? ⟨b, 4, none⟩ = false :=
 ⟨frozen_at h 0, frozen_at h 1, frozen_at h 2, frozen_at h 3, frozen_at h 4⟩
theorem cL6 {W : World} {b : Nat} {t : TypeId} {v0 v1 v2 v3 v4 v5 : Value} {r : List Value} (h : W.heap[b]? = some (.cells (List.toArray (v0::v1::v2::v3::v4::v5::r)) t (0, 0))) : W.cell? ⟨b, 0, none⟩ = some v0 ∧ W.cell? ⟨b, 1, none⟩ = some v1 ∧ W.cell? ⟨b, 2, none⟩ = some v2 ∧ W.cell? ⟨b, 3, none⟩ = some v3 ∧ W.cell? ⟨b, 4, none⟩ = some v4 ∧ W.cell? ⟨b, 5, none⟩ = some v5 :=
 ⟨cell_at h 0 _ rfl, cell_at h 1 _ rfl, cell_at h 2 _ rfl, cell_at h 3 _ rfl, cell_at h 4 _ rfl, cell_at h 5 _ rfl⟩
theorem fZ6 {W : World} {b : Nat} {t : TypeId} {c : Array Value} (h : W.heap[b]? = some (.cells c t (0, 0))) : W.frozen? ⟨b, 0, none⟩ = false ∧ W.frozen? ⟨b, 1, none⟩ = false ∧ W.frozen? ⟨b, 2, none⟩ = false ∧ W.frozen? ⟨b, 3, none⟩ = false ∧ W.frozen? ⟨b, 4, none⟩ = false ∧ W.frozen? ⟨b, 5, none⟩ = false :=
 ⟨frozen_at h 0, frozen_at h 1, frozen_at h 2, frozen_at h 3, frozen_at h 4, frozen_at h 5⟩
theorem cL7 {W : World} {b : Nat} {t : TypeId} {v0 v1 v2 v3 v4 v5 v6 : Value} {r : List Value} (h : W.heap[b]? = some (.cells (List.toArray (v0::v1::v2::v3::v4::v5::v6::r)) t (0, 0))) : W.cell? ⟨b, 0, none⟩ = some v0 ∧ W.cell? ⟨b, 1, none⟩ = some v1 ∧ W.cell? ⟨b, 2, none⟩ = some v2 ∧ W.cell? ⟨b, 3, none⟩ = some v3 ∧ W.cell? ⟨b, 4, none⟩ = some v4 ∧ W.cell? ⟨b, 5, none⟩ = some v5 ∧ W.cell? ⟨b, 6, none⟩ = some v6 :=
 ⟨cell_at h 0 _ rfl, cell_at h 1 _ rfl, cell_at h 2 _ rfl, cell_at h 3 _ rfl, cell_at h 4 _ rfl, cell_at h 5 _ rfl, cell_at h 6 _ rfl⟩
theorem fZ7 {W : World} {b : Nat} {t : TypeId} {c : Array Value} (h : W.heap[b]? = some (.cells c t (0, 0))) : W.frozen? ⟨b, 0, none⟩ = false ∧ W.frozen? ⟨b, 1, none⟩ = false ∧ W.frozen? ⟨b, 2, none⟩ = false ∧ W.frozen? ⟨b, 3, none⟩ = false ∧ W.frozen? ⟨b, 4, none⟩ = false ∧ W.frozen? ⟨b, 5, none⟩ = false ∧ W.frozen? ⟨b, 6, none⟩ = false :=
 ⟨frozen_at h 0, frozen_at h 1, frozen_at h 2, frozen_at h 3, frozen_at h 4, frozen_at h 5, frozen_at h 6⟩
end Nm
end Go.Proofs.YtjghnghceeijeaaGreatDoor
namespace Go.Proofs.YtjghnghceeijeaaGreatDoor
namespace Nm
open Go.RowKit Go.Shelf Go.BigFrame
attribute [local go_sem] Oper.semAt_some
structure IsInt (neg : Bool) (l : List Nat) : Prop where
 canon : Canon l
 small : l.length ≤ 300
 sign : neg = true → l ≠ []
theorem sgn_order {n1 n2 : Bool} {l1 l2 : List Nat} (h1 : IsInt n1 l1) (h2 : IsInt n2 l2) (hne : sgn n1 l1 ≠ sgn n2 l2) : cmpZ (sgn n1 l1) (sgn n2 l2) = cmpZ (toZ n1 l1) (toZ n2 l2) := by
 have p1 : l1 ≠ [] → 0 < val l1 := val_pos_of_canon h1.canon
 have p2 : l2 ≠ [] → 0 < val l2 := val_pos_of_canon h2.canon
 have z1 : l1 = [] → val l1 = 0 := by rintro rfl; rfl
 have z2 : l2 = [] → val l2 = 0 := by rintro rfl; rfl
 have s1 := h1.sign
 have s2 := h2.sign
 unfold sgn at *
 unfold toZ cmpZ
 by_cases e1 : l1 = [] <;> by_cases e2 : l2 = [] <;> cases n1 <;> cases n2 <;> simp_all <;> omega
theorem sgn_same {n1 n2 : Bool} {l1 l2 : List Nat} (h1 : n1 = true → 0 < l1.length) (h2 : n2 = true → 0 < l2.length) (e : sgn n1 l1 = sgn n2 l2) : n2 = n1 := by
 unfold sgn at e
 cases n1 <;> cases n2
 · rfl
 · have := h2 rfl
   exfalso
   rw [if_neg (show ¬ l2.length = 0 by omega)] at e
   by_cases hz : l1.length = 0
   · rw [if_pos hz] at e; exact absurd e (by decide)
   · rw [if_neg hz] at e; exact absurd e (by decide)
 · have := h1 rfl
   exfalso
   rw [if_neg (show ¬ l1.length = 0 by omega)] at e
   by_cases hz : l2.length = 0
   · rw [if_pos hz] at e; exact absurd e (by decide)
   · rw [if_neg hz] at e; exact absurd e (by decide)
 · rfl
theorem below_drew {n : Nat} {w W : World} (h : Below n w W) : Below n w W.drew := below_drewN h 1
theorem order_calls (n1 n2 : Bool) (A1 A2 : Option Addr) (c1 c2 : Nat) (l1 l2 : List Nat) (w : World) (h1 : Rd w A1 l1) (h2 : Rd w A2 l2) (hc1 : l1.length ≤ c1) (hc2 : l2.length ≤ c2) (k1 : IsInt n1 l1) (k2 : IsInt n2 l2) :
 Calls Tryz.prog 162 #[iv n1 A1 l1.length c1, iv n2 A2 l2.length c2] w fun e w' => e = .returned (.int .i64 (cmpZ (toZ n1 l1) (toZ n2 l2))) ∧ Below w.heap.size w w' := by
 have hsg : ∀ (n : Bool) (l : List Nat), ∃ z : Int, sgn n l = z ∧ -1 ≤ z ∧ z ≤ 1 := by
  intro n l
  refine ⟨_, rfl, ?_⟩
  unfold sgn
  split
  · omega
  · split <;> omega
 have t1 := fun W => sign_calls n1 A1 c1 l1 W
 have t2 := fun W => sign_calls n2 A2 c2 l2 W
 obtain ⟨s1, e1, b1, b2⟩ := hsg n1 l1
 obtain ⟨s2, e2, b3, b4⟩ := hsg n2 l2
 rw [e1] at t1
 rw [e2] at t2
 by_cases hne : s1 = s2
 · subst hne
   have hl1 : n1 = true → 0 < l1.length := fun h => List.length_pos_iff.2 (k1.sign h)
   have hl2 : n2 = true → 0 < l2.length := fun h => List.length_pos_iff.2 (k2.sign h)
   have hnn : n2 = n1 := sgn_same hl1 hl2 (e1.trans e2.symm)
   have hne' : (s1 != s1) = false := by simp
   clear hsg hl1 hl2
   cases n1
   · have hn : n2 = false := hnn
     subst hn
     have hcm := fun W (hW : Below w.heap.size w W) => compare_calls A1 A2 c1 c2 l1 l2 W (h1.on hW) (h2.on hW) hc1 hc2 k1.canon k2.canon
     rw [show cmpZ (val l1 : Int) (val l2 : Int) = cmpZ (toZ false l1) (toZ false l2) from rfl] at hcm
     clear e1 e2
     go_enter Tryz.func162, Tryz.ntmps162
     go_wp2_with fail
     go_region_held3 (fun w' => w'.cell? ⟨w.heap.size, 0, none⟩ = some (.bool false) ∧ w'.cell? ⟨w.heap.size, 1, none⟩ = some (.slice A1 l1.length c1) ∧ w'.cell? ⟨w.heap.size + 1, 0, none⟩ = some (.bool false) ∧ w'.cell? ⟨w.heap.size + 1, 1, none⟩ = some (.slice A2 l2.length c2)) ((first | assumption | go_keep))
      ((first
       | (go_at_call 214; have hmark := m1; refine (t2 _).mono ?_; rintro e w4 ⟨rfl, rfl⟩)
       | (go_at_call 214; refine (t1 _).mono ?_; rintro e w3 ⟨rfl, rfl⟩; have m1 : True := trivial)))
     go_wp2_with first
      | (go_at_call 159; refine (hcm _ (by (repeat (first | exact Below.refl _ _ | refine below_drew ?_ | refine Below.alloc ?_ (by simp; omega) _ | refine Below.alloc ?_ (by simp) _)))).mono ?_; rintro e w5 ⟨rfl, nn, rfl⟩)
     go_ret
     exact ⟨rfl, by refine below_drewN ?_ _; (repeat (first | exact Below.refl _ _ | refine below_drew ?_ | refine Below.alloc ?_ (by simp; omega) _ | refine Below.alloc ?_ (by simp) _))⟩
   · have hn : n2 = true := hnn
     subst hn
     have hcm := fun W (hW : Below w.heap.size w W) => compare_calls A2 A1 c2 c1 l2 l1 W (h2.on hW) (h1.on hW) hc2 hc1 k2.canon k1.canon
     rw [show cmpZ (val l2 : Int) (val l1 : Int) = cmpZ (toZ true l1) (toZ true l2) from by unfold cmpZ toZ; simp only [if_true]; split <;> split <;> (try split) <;> (try split) <;> omega] at hcm
     clear e1 e2
     go_enter Tryz.func162, Tryz.ntmps162
     go_wp2_with fail
     go_region_held3 (fun w' => w'.cell? ⟨w.heap.size, 0, none⟩ = some (.bool true) ∧ w'.cell? ⟨w.heap.size, 1, none⟩ = some (.slice A1 l1.length c1) ∧ w'.cell? ⟨w.heap.size + 1, 0, none⟩ = some (.bool true) ∧ w'.cell? ⟨w.heap.size + 1, 1, none⟩ = some (.slice A2 l2.length c2)) ((first | assumption | go_keep))
      ((first
       | (go_at_call 214; have hmark := m1; refine (t2 _).mono ?_; rintro e w4 ⟨rfl, rfl⟩)
       | (go_at_call 214; refine (t1 _).mono ?_; rintro e w3 ⟨rfl, rfl⟩; have m1 : True := trivial)))
     go_wp2_with first
      | (go_at_call 159; refine (hcm _ (by (repeat (first | exact Below.refl _ _ | refine below_drew ?_ | refine Below.alloc ?_ (by simp; omega) _ | refine Below.alloc ?_ (by simp) _)))).mono ?_; rintro e w5 ⟨rfl, nn, rfl⟩)
     go_ret
     exact ⟨rfl, by refine below_drewN ?_ _; (repeat (first | exact Below.refl _ _ | refine below_drew ?_ | refine Below.alloc ?_ (by simp; omega) _ | refine Below.alloc ?_ (by simp) _))⟩
 · have hc := fun W => cmp_int_calls s1 s2 W
   have ho := sgn_order k1 k2 (by rw [e1, e2]; exact hne)
   rw [e1, e2] at ho
   rw [ho] at hc
   clear e1 e2 ho hsg
   have hne' : (s1 != s2) = true := by rw [bne_iff_ne]; exact hne
   go_enter Tryz.func162, Tryz.ntmps162
   go_wp2_with fail
   go_region_held3 (fun w' => w'.cell? ⟨w.heap.size, 0, none⟩ = some (.bool n1) ∧ w'.cell? ⟨w.heap.size, 1, none⟩ = some (.slice A1 l1.length c1) ∧ w'.cell? ⟨w.heap.size + 1, 0, none⟩ = some (.bool n2) ∧ w'.cell? ⟨w.heap.size + 1, 1, none⟩ = some (.slice A2 l2.length c2)) ((first | assumption | go_keep))
    ((first
     | (go_at_call 214; have hmark := m1; refine (t2 _).mono ?_; rintro e w4 ⟨rfl, rfl⟩)
     | (go_at_call 214; refine (t1 _).mono ?_; rintro e w3 ⟨rfl, rfl⟩; have m1 : True := trivial)))
   go_wp2_with first
    | (go_at_call 210; refine (hc _).mono ?_; rintro e w5 ⟨rfl, rfl⟩)
   go_ret
   exact ⟨rfl, by (repeat (first | exact Below.refl _ _ | refine below_drew ?_ | refine Below.alloc ?_ (by simp; omega) _ | refine Below.alloc ?_ (by simp) _))⟩
structure IntArg where
 neg : Bool
 A : Option Addr
 c : Nat
 l : List Nat
def IntArg.ok (x : IntArg) : Bool := okI x.neg x.l
structure ArgsAt (w : World) (g : Nat) (xs : List IntArg) : Prop where
 neg : ∀ k (h : k < xs.length), w.cell? ⟨g, k * 2, none⟩ = some (.bool xs[k].neg)
 abs : ∀ k (h : k < xs.length), w.cell? ⟨g, k * 2 + 1, none⟩ = some (.slice xs[k].A xs[k].l.length xs[k].c)
 rd : ∀ k (h : k < xs.length), Rd w xs[k].A xs[k].l ∧ xs[k].l.length ≤ xs[k].c
theorem formed_calls (g : Nat) (xs : List IntArg) (w : World) (hg : g < w.heap.size) (hx : ArgsAt w g xs) (hn : xs.length ≤ 8) :
 Calls Tryz.prog 146 #[.slice (some ⟨g, 0, none⟩) xs.length xs.length] w fun e w' =>
  (xs.all IntArg.ok = true → e = .returned (.tuple #[])) ∧ (xs.all IntArg.ok = false → e = .panicked (wrong 1)) ∧ Below w.heap.size w w' := by
 go_enter Tryz.func146, Tryz.ntmps146
 go_wp2_with fail
 go_loopw [6] (fun i W => ∃ k : Nat, i = .int .i64 (k : Int) ∧ k ≤ xs.length ∧ (xs.take k).all IntArg.ok = true ∧ Below w.heap.size w W) (fun i _ => xs.length - (intOf i).toNat)
 case atStart => exact ⟨0, rfl, Nat.zero_le _, rfl, Below.refl _ _⟩
 case round =>
  obtain ⟨k, rfl, hk, hall, hbl⟩ := hrel
  by_cases hlt : k < xs.length
  · have x0 := (hbl.cell (p := ⟨g, k * 2, none⟩) hg).trans (hx.neg k hlt)
    have x1 := (hbl.cell (p := ⟨g, k * 2 + 1, none⟩) hg).trans (hx.abs k hlt)
    obtain ⟨hrd, hcc⟩ := hx.rd k hlt
    obtain ⟨x, hxk⟩ : ∃ x, xs[k] = x := ⟨_, rfl⟩
    rw [hxk] at x0 x1 hrd hcc
    have hck := fun (W' : World) (h : Rd W' x.A x.l) => Check_calls x.neg x.A x.c x.l W' h hcc
    have hbw : ∀ o, Below wr.heap.size wr (wr.alloc o) := fun o => (Below.refl _ _).alloc (Nat.le_refl _) _
    have hrw := hrd.on hbl
    clear hx
    by_cases hok : okI x.neg x.l = true
    · simp only [hok, if_true] at hck
      go_wp2_with first
       | (go_at_call 161; (refine (hck _ (hrw.on (hbw _))).mono ?_; rintro e w4 ⟨rfl, hb4⟩))
       | (go_at_call 152; refine (must_ok 1 _).mono ?_; rintro e w5 ⟨rfl, rfl⟩)
      refine ⟨⟨k + 1, by simp, by omega, ?_, hbl.trans (((hbw _).trans (hb4.mono (by simp))).mono hbl.size)⟩, by simp only [intOf]; omega⟩
      rw [List.take_succ_eq_append_getElem hlt, List.all_append, hall, hxk]
      simp [IntArg.ok, hok]
    · have hok' : okI x.neg x.l = false := by simpa using hok
      simp only [hok', Bool.false_eq_true, if_false] at hck
      go_wp2_with first
       | (go_at_call 161; refine (hck _ (hrw.on (hbw _))).mono ?_; rintro e w4 ⟨rfl, hb4⟩)
       | (go_at_call 152; refine (must_no 1 _).mono ?_; rintro e w5 ⟨rfl, rfl⟩)
      refine ⟨rfl, fun h => ?_, fun _ => rfl, hbl.trans (((hbw _).trans (hb4.mono (by simp))).mono hbl.size)⟩
      have := List.all_eq_true.1 h xs[k] (List.getElem_mem hlt)
      rw [hxk] at this
      exact absurd this hok
  · go_wp2_with fail
    go_end0
    rw [List.take_of_length_le (by omega)] at hall
    refine ⟨fun _ => rfl, ?_, hbl⟩
    intro h
    rw [hall] at h
    cases h
theorem bitsOf_calls (n : Nat) (w : World) (hn : n ≤ 1000000) :
 Calls Tryz.prog 202 #[.int .i64 (n : Int)] w fun e w' => e = .returned (.int .i64 (blen n : Int)) ∧ w' = w := by
 go_enter Tryz.func202, Tryz.ntmps202
 go_wp2_with fail
 go_loopw [0, 3] (fun x y W => ∃ m k : Nat, x = .int .i64 (m : Int) ∧ y = .int .i64 (k : Int) ∧ Hid (blen m + k = blen n) ∧ m ≤ n ∧ k ≤ blen n ∧ W = w) (fun x _ _ => (intOf x).toNat)
 case atStart => exact ⟨n, 0, rfl, rfl, Nat.add_zero _, Nat.le_refl _, Nat.zero_le _, rfl⟩
 case round =>
  obtain ⟨m, k, rfl, rfl, hb, hm, hk, rfl⟩ := hrel
  have hbn : blen n ≤ 32 := blen_word (by omega)
  by_cases h0 : 0 < m
  · obtain ⟨q, hq, hq'⟩ : ∃ q : Nat, (m : Int) / 2 = (q : Int) ∧ Hid (q = m / 2) := ⟨m / 2, by omega, rfl⟩
    go_wp2_with fail
    have hh := blen_half (n := m) (by omega)
    rw [← hq'.out] at hh
    have hb' := hb.out
    refine ⟨⟨q, k + 1, rfl, by simp, by show _ = _; omega, by have := hq'.out; omega, by omega, trivial⟩, by simp only [intOf]; have := hq'.out; omega⟩
  · obtain rfl : m = 0 := by omega
    have hkb : k = blen n := by have := hb.out; rw [blen_zero] at this; omega
    subst hkb
    go_wp2_with fail
    go_ret
    exact ⟨rfl, rfl⟩
theorem and_one (a : Nat) (ha : a < 9223372036854775808) : bits .and .i64 (a : Int) 1 = ((a % 2 : Nat) : Int) := by
 have := (bits_nat .i64 63 (by decide) (fun n h0 h1 => by rw [IntKind.wrap_i64]; omega) a 1 (by omega) (by decide)).1
 rw [show ((1 : Nat) : Int) = 1 from rfl] at this
 rw [this, Nat.and_one_is_mod]
theorem pow_step (a n i : Nat) : (a ^ (n / 2 ^ (i + 1))) * (a ^ (n / 2 ^ (i + 1))) * (if n / 2 ^ i % 2 = 1 then a else 1) = a ^ (n / 2 ^ i) := by
 have h : n / 2 ^ (i + 1) = n / 2 ^ i / 2 := by rw [Nat.pow_succ, Nat.div_div_eq_div_mul]
 rw [h, ← Nat.pow_add]
 generalize n / 2 ^ i = m
 by_cases hm : m % 2 = 1
 · rw [if_pos hm, ← Nat.pow_succ]; congr 1; omega
 · rw [if_neg hm, Nat.mul_one]; congr 1; omega
theorem pow_len_mono {a m n : Nat} (h : m ≤ n) (hm : 300 < (lim (a ^ m)).length) : 300 < (lim (a ^ n)).length := by
 rcases Nat.eq_zero_or_pos a with rfl | ha
 · exfalso
   have : (lim (0 ^ m)).length ≤ 1 := length_le_of_lt (by
    rcases Nat.eq_zero_or_pos m with rfl | hp
    · decide
    · rw [Nat.zero_pow hp]; decide)
   omega
 · exact Nat.lt_of_lt_of_le hm (length_mono (Nat.pow_le_pow_right ha h))
theorem power_calls (A : Option Addr) (c a n : Nat) (w : World) (hA : Rd w A (lim a)) (hc : (lim a).length ≤ c) (ha : (lim a).length ≤ 300) (hn : n ≤ 1000000) :
 Calls Tryz.prog 153 #[.slice A (lim a).length c, .int .i64 (n : Int)] w fun e w' =>
  ((lim (a ^ n)).length ≤ 300 → RetNat (a ^ n) w e w') ∧ (300 < (lim (a ^ n)).length → e = .panicked (wrong 3)) ∧ Below w.heap.size w w' := by
 have hbits := fun W => bitsOf_calls n W hn
 have hbn : blen n ≤ 32 := blen_word (by omega)
 have hb1 : ∀ o, Below w.heap.size w (w.alloc o) := fun o => (Below.refl _ _).alloc (Nat.le_refl _) _
 have hone := arr_rd (arr_new w [1]) (by intro u hu; simp at hu; rw [hu]; decide) (by simp)
 have hl1 : lim 1 = [1] := lim_val (l := [1]) ⟨by intro u hu; simp at hu; rw [hu]; decide, fun h => by simp⟩
 go_enter Tryz.func153, Tryz.ntmps153
 go_wp2_with (go_at_call 202; refine (hbits _).mono ?_; rintro e w' ⟨rfl, rfl⟩)
 go_loopw [5, 6] (fun o i W => ∃ (k : Nat) (B : Option Addr) (d : Nat), i = .int .i64 ((k : Int) - 1) ∧ k ≤ blen n ∧ o = .slice B (lim (a ^ (n / 2 ^ k))).length d ∧ (lim (a ^ (n / 2 ^ k))).length ≤ d ∧ (lim (a ^ (n / 2 ^ k))).length ≤ 300 ∧ Rd W B (lim (a ^ (n / 2 ^ k))) ∧ Below w.heap.size w W)
  (fun _ i _ => (intOf i + 1).toNat)
 case atStart =>
  have e : n / 2 ^ blen n = 0 := Nat.div_eq_of_lt (blen_lt n)
  refine ⟨blen n, some ⟨w.heap.size, 0, none⟩, 1, rfl, Nat.le_refl _, ?_, ?_, ?_, ?_, hb1 _⟩
  all_goals rw [e, Nat.pow_zero, hl1]
  · rfl
  · simp
  · simp
  · exact hone
 case round =>
  obtain ⟨k, B, d, rfl, hk, rfl, hd, h3, hr, hbl⟩ := hrel
  by_cases h0 : 0 < k
  · obtain ⟨k, rfl⟩ : ∃ j, k = j + 1 := ⟨k - 1, by omega⟩
    rw [show ((k + 1 : Nat) : Int) - 1 = (k : Int) by omega]
    clear h0
    obtain ⟨m, hm, hm', hmb⟩ : ∃ m : Nat, (n : Int) / 2 ^ k = (m : Int) ∧ Hid (m = n / 2 ^ k) ∧ m ≤ 1000000 := ⟨n / 2 ^ k, by simp, rfl, Nat.le_trans (Nat.div_le_self _ _) hn⟩
    obtain ⟨bt, hbt, hbt'⟩ : ∃ m' : Nat, bits .and .i64 (m : Int) 1 = (m' : Int) ∧ Hid (m' = m % 2) := ⟨m % 2, and_one m (by omega), rfl⟩
    have hst := pow_step a n k
    rw [← hm'.out, ← hbt'.out] at hst
    have hmle : m ≤ n := by rw [hm'.out]; exact Nat.div_le_self _ _
    obtain ⟨p, hp⟩ : ∃ p, a ^ (n / 2 ^ (k + 1)) = p := ⟨_, rfl⟩
    rw [hp] at hst hd h3 hr ⊢
    obtain ⟨pp, hpp⟩ : ∃ q, p * p = q := ⟨_, rfl⟩
    rw [hpp] at hst
    have hl2 := prod_length h3 h3
    rw [hpp] at hl2
    have hmul1 : ∀ W, Below wr.heap.size wr W → Calls Tryz.prog 158 #[.slice B (lim p).length d, .slice B (lim p).length d] W (RetNat pp W) := by
     intro W hW
     have := mul_calls B B d d (lim p) (lim p) W (hr.on hW) (hr.on hW) hd hd (canon_lim _) (canon_lim _) (by omega)
     rwa [val_lim, hpp] at this
    have hmul2 : ∀ W B' d', Rd W B' (lim pp) → (lim pp).length ≤ d' → Below w.heap.size w W → Calls Tryz.prog 158 #[.slice B' (lim pp).length d', .slice A (lim a).length c] W (RetNat (pp * a) W) := by
     intro W B' d' h1 h2 hW
     have := mul_calls B' A d' c (lim pp) (lim a) W h1 (hA.on hW) h2 hc (canon_lim _) (canon_lim _) (by omega)
     rwa [val_lim, val_lim] at this
    clear hp hpp
    by_cases hbit : bt = 1
    · subst hbit
      rw [if_pos rfl] at hst
      obtain ⟨v, hv⟩ : ∃ v, pp * a = v := ⟨_, rfl⟩
      rw [hv] at hst
      simp only [hv] at hmul2
      have Hst := Lib.hid hst
      clear hst hv
      have hv' : v = a ^ (n / 2 ^ k) := by rw [← hm'.out]; exact Hst.out
      have Hv := Lib.hid hv'
      clear hv'
      by_cases hs : (lim v).length ≤ 300
      · have hs' : (((lim v).length : Int) ≤ 300) ↔ True := by rw [iff_true]; omega
        go_wp2_with first
         | (go_at_call 158; refine (hmul2 w2 B2 d2 r2 n2 (hbl.trans (x2.mono hbl.size))).mono ?_; rintro e w3 ⟨B3, d3, rfl, n3, r3, x3⟩)
         | (go_at_call 158; refine (hmul1 wr (Below.refl _ _)).mono ?_; rintro e w2 ⟨B2, d2, rfl, n2, r2, x2⟩)
         | (go_at_call 152; refine (must_ok 3 _).mono ?_; rintro e w5 ⟨rfl, rfl⟩)
        refine ⟨⟨k, B3, _, rfl, by omega, by rw [← Hv.out], by rw [← Hv.out]; exact n3, by rw [← Hv.out]; exact hs, by rw [← Hv.out]; exact r3, (hbl.trans (x2.mono hbl.size)).trans (x3.mono (hbl.trans (x2.mono hbl.size)).size)⟩, by simp only [intOf]; omega⟩
      · have hs' : (((lim v).length : Int) ≤ 300) ↔ False := by rw [iff_false]; omega
        go_wp2_with first
         | (go_at_call 158; refine (hmul2 w2 B2 d2 r2 n2 (hbl.trans (x2.mono hbl.size))).mono ?_; rintro e w3 ⟨B3, d3, rfl, n3, r3, x3⟩)
         | (go_at_call 158; refine (hmul1 wr (Below.refl _ _)).mono ?_; rintro e w2 ⟨B2, d2, rfl, n2, r2, x2⟩)
         | (go_at_call 152; refine (must_no 3 _).mono ?_; rintro e w5 ⟨rfl, rfl⟩)
        have hbig : 300 < (lim (a ^ n)).length := pow_len_mono hmle (by have := Hst.out; rw [← this]; omega)
        exact ⟨rfl, fun h => by omega, fun _ => rfl, (hbl.trans (x2.mono hbl.size)).trans (x3.mono (hbl.trans (x2.mono hbl.size)).size)⟩
    · rw [if_neg hbit, Nat.mul_one] at hst
      have hb' : (((bt : Nat) : Int) == 1) = false := by rw [beq_eq_false_iff_ne]; omega
      have Hst := Lib.hid hst
      clear hst hmul2
      have hv' : pp = a ^ (n / 2 ^ k) := by rw [← hm'.out]; exact Hst.out
      have Hv := Lib.hid hv'
      clear hv'
      by_cases hs : (lim pp).length ≤ 300
      · have hs' : (((lim pp).length : Int) ≤ 300) ↔ True := by rw [iff_true]; omega
        go_wp2_with first
         | (go_at_call 158; refine (hmul1 wr (Below.refl _ _)).mono ?_; rintro e w2 ⟨B2, d2, rfl, n2, r2, x2⟩)
         | (go_at_call 152; refine (must_ok 3 _).mono ?_; rintro e w5 ⟨rfl, rfl⟩)
        refine ⟨⟨k, B2, _, rfl, by omega, by rw [← Hv.out], by rw [← Hv.out]; exact n2, by rw [← Hv.out]; exact hs, by rw [← Hv.out]; exact r2, hbl.trans (x2.mono hbl.size)⟩, by simp only [intOf]; omega⟩
      · have hs' : (((lim pp).length : Int) ≤ 300) ↔ False := by rw [iff_false]; omega
        go_wp2_with first
         | (go_at_call 158; refine (hmul1 wr (Below.refl _ _)).mono ?_; rintro e w2 ⟨B2, d2, rfl, n2, r2, x2⟩)
         | (go_at_call 152; refine (must_no 3 _).mono ?_; rintro e w5 ⟨rfl, rfl⟩)
        have hbig : 300 < (lim (a ^ n)).length := pow_len_mono hmle (by have := Hst.out; rw [← this]; omega)
        exact ⟨rfl, fun h => by omega, fun _ => rfl, hbl.trans (x2.mono hbl.size)⟩
  · obtain rfl : k = 0 := by omega
    rw [Nat.pow_zero, Nat.div_one] at hd h3 hr ⊢
    go_wp2_with fail
    go_ret
    exact ⟨fun _ => ⟨_, _, rfl, hd, hr, hbl⟩, fun h => by omega, hbl⟩
end Nm
end Go.Proofs.YtjghnghceeijeaaGreatDoor
namespace Go.Proofs.YtjghnghceeijeaaGreatDoor
namespace Nm
theorem two_sq (x r : Nat) : 2 * (r * x) ≤ x * x + r * r := by
 rcases Nat.le_total x r with h | h
 · obtain ⟨d, rfl⟩ := Nat.exists_eq_add_of_le h
   have e := Nat.mul_comm d x
   simp only [Nat.mul_add, Nat.add_mul]
   omega
 · obtain ⟨d, rfl⟩ := Nat.exists_eq_add_of_le h
   have e := Nat.mul_comm d r
   simp only [Nat.mul_add, Nat.add_mul]
   omega
theorem amgm (x r n : Nat) : (n + 1) * (r * x ^ n) ≤ n * x ^ (n + 1) + r ^ (n + 1) := by
 induction n with
 | zero => simp
 | succ n ih =>
  have h1 := Nat.mul_le_mul (Nat.le_refl r) ih
  have h2 := Nat.mul_le_mul (Nat.le_refl ((n + 1) * x ^ n)) (two_sq x r)
  have e1 : r * ((n + 1) * (r * x ^ n)) = (n + 1) * x ^ n * (r * r) := by
   rw [Nat.mul_comm r, Nat.mul_assoc, Nat.mul_assoc (n + 1), Nat.mul_comm (r * x ^ n) r, Nat.mul_comm (x ^ n), ← Nat.mul_assoc r r]
  have e2 : r * (n * x ^ (n + 1) + r ^ (n + 1)) = n * (r * x ^ (n + 1)) + r ^ (n + 2) := by
   rw [Nat.mul_add, Nat.mul_left_comm, ← Nat.pow_succ']
  have e3 : (n + 1) * x ^ n * (2 * (r * x)) = 2 * (n + 1) * (r * x ^ (n + 1)) := by
   rw [Nat.pow_succ]
   generalize x ^ n = P
   simp only [Nat.mul_comm, Nat.mul_left_comm, Nat.mul_assoc]
  have e4 : (n + 1) * x ^ n * (x * x + r * r) = (n + 1) * x ^ (n + 2) + (n + 1) * x ^ n * (r * r) := by
   rw [Nat.mul_add, Nat.pow_succ, Nat.pow_succ, Nat.mul_assoc (n + 1), Nat.mul_assoc (x ^ n)]
  rw [e1, e2] at h1
  rw [e3, e4] at h2
  rw [show n + 1 + 1 = n + 2 from rfl]
  generalize r * x ^ (n + 1) = A at *
  generalize (n + 1) * x ^ n * (r * r) = B at *
  generalize (n + 1) * x ^ (n + 2) = C at *
  generalize r ^ (n + 2) = D at *
  have e5 : n * A = (n + 2) * A - 2 * A := by rw [Nat.add_mul]; omega
  have e6 : 2 * (n + 1) * A = (n + 2) * A + n * A := by rw [← Nat.add_mul]; congr 1; omega
  omega
theorem newton_ge {a x r m : Nat} (hx : 0 < x) (h : r ^ (m + 1) ≤ a) : (m + 1) * r ≤ m * x + a / x ^ m := by
 have hp : 0 < x ^ m := Nat.pow_pos hx
 have h1 := amgm x r m
 have h2 : (m + 1) * r * x ^ m ≤ m * x * x ^ m + a := by
  rw [Nat.pow_succ, ← Nat.mul_assoc (m + 1), Nat.mul_comm (x ^ m) x, ← Nat.mul_assoc m] at h1
  omega
 have h3 : (m + 1) * r ≤ (m * x * x ^ m + a) / x ^ m := (Nat.le_div_iff_mul_le hp).2 h2
 rw [Nat.add_comm (m * x * x ^ m) a, Nat.add_mul_div_right _ _ hp] at h3
 omega
theorem newton_stop {a x m : Nat} (hx : 0 < x) (h : x ≤ (m * x + a / x ^ m) / (m + 1)) : x ^ (m + 1) ≤ a := by
 have hp : 0 < x ^ m := Nat.pow_pos hx
 have h1 := (Nat.le_div_iff_mul_le (show 0 < m + 1 by omega)).1 h
 have h2 : x ≤ a / x ^ m := by rw [Nat.mul_succ, Nat.mul_comm x m] at h1; omega
 have h3 := (Nat.le_div_iff_mul_le hp).1 h2
 rwa [Nat.pow_succ, Nat.mul_comm]
def IsRoot (a n x : Nat) : Prop := x ^ n ≤ a ∧ ∀ r, r ^ n ≤ a → r ≤ x
theorem root_start {a n r : Nat} (hn : 0 < n) (h : r ^ n ≤ a) : r ≤ 2 ^ ((blen a + n - 1) / n) := by
 rcases Nat.lt_or_ge (2 ^ ((blen a + n - 1) / n)) r with hc | hc
 · exfalso
   have h1 : (2 ^ ((blen a + n - 1) / n)) ^ n ≤ r ^ n := Nat.pow_le_pow_left (Nat.le_of_lt hc) n
   rw [← Nat.pow_mul] at h1
   have h2 : blen a ≤ (blen a + n - 1) / n * n := by
    have := Nat.div_add_mod (blen a + n - 1) n
    have h4 := Nat.mod_lt (blen a + n - 1) hn
    rw [Nat.mul_comm]
    generalize n * ((blen a + n - 1) / n) = X at *
    omega
   have h3 := Nat.pow_le_pow_right (n := 2) (by decide) h2
   have := blen_lt a
   omega
 · exact hc
theorem root_small {a n x : Nat} (_hn : 0 < n) (hx : x ≤ 2 ^ ((blen a + n - 1) / n)) : x ^ n ≤ 2 ^ (blen a + n - 1) := by
 refine Nat.le_trans (Nat.pow_le_pow_left hx n) ?_
 rw [← Nat.pow_mul]
 exact Nat.pow_le_pow_right (by decide) (Nat.div_mul_le_self _ _)
theorem newton_root {a x m : Nat} (hx : 0 < x) (hP : ∀ r, r ^ (m + 1) ≤ a → r ≤ x) (h : x ≤ (m * x + a / x ^ m) / (m + 1)) : IsRoot a (m + 1) x := ⟨newton_stop hx h, hP⟩
theorem newton_next {a x m : Nat} (hx : 0 < x) {r : Nat} (h : r ^ (m + 1) ≤ a) : r ≤ (m * x + a / x ^ m) / (m + 1) := by
 rw [Nat.le_div_iff_mul_le (by omega), Nat.mul_comm]
 exact newton_ge hx h
end Nm
end Go.Proofs.YtjghnghceeijeaaGreatDoor
