/-
  The exported functions on integers that fit; the law's formed at two and three integers.
-/
import Derived.Test.YtlhmbbpkhahbeaaDoorNumMh8
namespace Go.Proofs.YtlhmbbpkhahbeaaDoor
namespace Nm
open Go.RowKit Go.Shelf Go.BigFrame
attribute [local go_sem] Oper.semAt_some

/-- an integer that fits, and no error -/
def RetOk (z : Int) (w : World) (e : Ending) (w' : World) : Prop :=
  ∃ s A c l, e = .returned (.tuple #[iv s A l.length c, .int .i64 0]) ∧ OkZ s l z ∧ l.length ≤ c ∧ Rd w' A l ∧ Below w.heap.size w w'

theorem RetZE.ok {z : Int} {w : World} {e : Ending} {w' : World} (h : RetZE z 0 w e w') (hs : (lim z.natAbs).length ≤ 300) : RetOk z w e w' := by
  obtain ⟨s, A, c, l, h1, h2, h3, h4, h5⟩ := h
  exact ⟨s, A, c, l, h1, ⟨h2, by rw [h2.abs]; exact hs⟩, h3, h4, h5⟩

theorem fit_ok {z : Int} (hs : (lim z.natAbs).length ≤ 300) : fitZ z = (z, 0) := by unfold fitZ; rw [if_pos hs]

theorem OkZ.len {s : Bool} {l : List Nat} {z : Int} (h : OkZ s l z) : (lim z.natAbs).length = l.length := by rw [← h.isZ.abs]

theorem len_add {z1 z2 : Int} {k : Nat} (h1 : (lim z1.natAbs).length ≤ k) (h2 : (lim z2.natAbs).length ≤ k) : (lim (z1 + z2).natAbs).length ≤ k + 1 := by
  have a1 := lt_of_length_le h1
  have a2 := lt_of_length_le h2
  refine length_le_of_lt ?_
  have e : BB ^ (k + 1) = BB ^ k * BB := Nat.pow_succ ..
  have e4 : BB ^ k * 2 ≤ BB ^ k * BB := Nat.mul_le_mul_left _ (by decide)
  omega
theorem len_sub {z1 z2 : Int} {k : Nat} (h1 : (lim z1.natAbs).length ≤ k) (h2 : (lim z2.natAbs).length ≤ k) : (lim (z1 - z2).natAbs).length ≤ k + 1 := by
  have := len_add (z2 := -z2) h1 (by rw [Int.natAbs_neg]; exact h2)
  rwa [← Int.sub_eq_add_neg] at this
theorem len_mul {z1 z2 : Int} {k j : Nat} (h1 : (lim z1.natAbs).length ≤ k) (h2 : (lim z2.natAbs).length ≤ j) : (lim (z1 * z2).natAbs).length ≤ k + j := by
  rw [Int.natAbs_mul]
  exact prod_length h1 h2

theorem Add_z (n1 n2 : Bool) (A1 A2 : Option Addr) (c1 c2 : Nat) (l1 l2 : List Nat) (z1 z2 : Int) (w : World) (h1 : Rd w A1 l1) (h2 : Rd w A2 l2) (hc1 : l1.length ≤ c1) (hc2 : l2.length ≤ c2) (k1 : OkZ n1 l1 z1) (k2 : OkZ n2 l2 z2) (hs : (lim (z1 + z2).natAbs).length ≤ 300) :
    Calls Tryd.prog 42 #[iv n1 A1 l1.length c1, iv n2 A2 l2.length c2] w (RetOk (z1 + z2) w) := by
  have h := Add_calls n1 n2 A1 A2 c1 c2 l1 l2 w h1 h2 hc1 hc2
  have e : addR n1 l1 n2 l2 = (z1 + z2, 0) := by unfold addR; rw [k1.ok, k2.ok, Bool.and_self, if_pos rfl, k1.val, k2.val, fit_ok hs]
  rw [e] at h
  exact h.mono fun e w' h => h.ok hs
theorem Sub_z (n1 n2 : Bool) (A1 A2 : Option Addr) (c1 c2 : Nat) (l1 l2 : List Nat) (z1 z2 : Int) (w : World) (h1 : Rd w A1 l1) (h2 : Rd w A2 l2) (hc1 : l1.length ≤ c1) (hc2 : l2.length ≤ c2) (k1 : OkZ n1 l1 z1) (k2 : OkZ n2 l2 z2) (hs : (lim (z1 - z2).natAbs).length ≤ 300) :
    Calls Tryd.prog 43 #[iv n1 A1 l1.length c1, iv n2 A2 l2.length c2] w (RetOk (z1 - z2) w) := by
  have h := Sub_calls n1 n2 A1 A2 c1 c2 l1 l2 w h1 h2 hc1 hc2
  have e : subR n1 l1 n2 l2 = (z1 - z2, 0) := by unfold subR; rw [k1.ok, k2.ok, Bool.and_self, if_pos rfl, k1.val, k2.val, fit_ok hs]
  rw [e] at h
  exact h.mono fun e w' h => h.ok hs
theorem Mul_z (n1 n2 : Bool) (A1 A2 : Option Addr) (c1 c2 : Nat) (l1 l2 : List Nat) (z1 z2 : Int) (w : World) (h1 : Rd w A1 l1) (h2 : Rd w A2 l2) (hc1 : l1.length ≤ c1) (hc2 : l2.length ≤ c2) (k1 : OkZ n1 l1 z1) (k2 : OkZ n2 l2 z2) (hs : (lim (z1 * z2).natAbs).length ≤ 300) :
    Calls Tryd.prog 39 #[iv n1 A1 l1.length c1, iv n2 A2 l2.length c2] w (RetOk (z1 * z2) w) := by
  have h := Mul_calls n1 n2 A1 A2 c1 c2 l1 l2 w h1 h2 hc1 hc2
  have e : mulR n1 l1 n2 l2 = (z1 * z2, 0) := by unfold mulR; rw [k1.ok, k2.ok, Bool.and_self, if_pos rfl, k1.val, k2.val, fit_ok hs]
  rw [e] at h
  exact h.mono fun e w' h => h.ok hs

theorem Compare_z (n1 n2 : Bool) (A1 A2 : Option Addr) (c1 c2 : Nat) (l1 l2 : List Nat) (z1 z2 : Int) (w : World) (h1 : Rd w A1 l1) (h2 : Rd w A2 l2) (hc1 : l1.length ≤ c1) (hc2 : l2.length ≤ c2) (k1 : OkZ n1 l1 z1) (k2 : OkZ n2 l2 z2) :
    Calls Tryd.prog 47 #[iv n1 A1 l1.length c1, iv n2 A2 l2.length c2] w fun e w' => e = .returned (.int .i64 (cmpZ z1 z2)) ∧ Below w.heap.size w w' := by
  have h := Compare_calls n1 n2 A1 A2 c1 c2 l1 l2 w h1 h2 hc1 hc2
  have e : cmpR n1 l1 n2 l2 = cmpZ z1 z2 := by unfold cmpR; rw [k1.ok, k2.ok, Bool.and_self, if_pos rfl, k1.val, k2.val]
  rw [e] at h
  exact h

theorem Same_z (n1 n2 : Bool) (A1 A2 : Option Addr) (c1 c2 : Nat) (l1 l2 : List Nat) (z1 z2 : Int) (w : World) (h1 : Rd w A1 l1) (h2 : Rd w A2 l2) (hc1 : l1.length ≤ c1) (hc2 : l2.length ≤ c2) (k1 : OkZ n1 l1 z1) (k2 : OkZ n2 l2 z2) (e : z1 = z2) :
    Calls Tryd.prog 20 #[iv n1 A1 l1.length c1, iv n2 A2 l2.length c2] w fun e w' => e = .returned (.bool true) ∧ Below w.heap.size w w' := by
  have h := Same_calls n1 n2 A1 A2 c1 c2 l1 l2 w h1 h2 hc1 hc2
  rw [sameI_z k1.isZ k2.isZ, decide_eq_true e] at h
  exact h

theorem args3_blk (w : World) (s1 s2 s3 : Bool) (A1 A2 A3 : Option Addr) (c1 c2 c3 : Nat) (l1 l2 l3 : List Nat) : (w.alloc (.cells #[.bool s1, .slice A1 l1.length c1, .bool s2, .slice A2 l2.length c2, .bool s3, .slice A3 l3.length c3] 24)).heap[w.heap.size]? = some (.cells #[.bool s1, .slice A1 l1.length c1, .bool s2, .slice A2 l2.length c2, .bool s3, .slice A3 l3.length c3] 24 (0, 0)) := World.alloc_heap_new w _

theorem lformed_three (m : Nat) (g : Nat) (n1 n2 n3 : Bool) (A1 A2 A3 : Option Addr) (c1 c2 c3 : Nat) (l1 l2 l3 : List Nat) (w : World) (hg : w.heap[g]? = some (.cells #[.bool n1, .slice A1 l1.length c1, .bool n2, .slice A2 l2.length c2, .bool n3, .slice A3 l3.length c3] 24 (0, 0))) (h1 : Rd w A1 l1) (h2 : Rd w A2 l2) (h3 : Rd w A3 l3) (hc1 : l1.length ≤ c1) (hc2 : l2.length ≤ c2) (hc3 : l3.length ≤ c3) (b : Bool) (hb : ((okI n1 l1 && decide (l1.length ≤ m)) && ((okI n2 l2 && decide (l2.length ≤ m)) && (okI n3 l3 && decide (l3.length ≤ m)))) = b) :
    Calls Tryd.prog 35 #[.int .i64 (m : Int), .slice (some ⟨g, 0, none⟩) 3 3] w fun e w' => e = .returned (.bool b) ∧ Below w.heap.size w w' := by
  have := lformed_calls m g [⟨n1, A1, c1, l1⟩, ⟨n2, A2, c2, l2⟩, ⟨n3, A3, c3, l3⟩] w (Array.getElem?_eq_some_iff.1 hg).1 ⟨?_, ?_, ?_⟩ (by simp)
  · rw [← hb]
    simpa [IntArg.ok] using this
  · intro k hk
    rcases (show k = 0 ∨ k = 1 ∨ k = 2 by simp at hk; omega) with rfl | rfl | rfl
    · exact cell_at hg 0 _ rfl
    · exact cell_at hg 2 _ rfl
    · exact cell_at hg 4 _ rfl
  · intro k hk
    rcases (show k = 0 ∨ k = 1 ∨ k = 2 by simp at hk; omega) with rfl | rfl | rfl
    · exact cell_at hg 1 _ rfl
    · exact cell_at hg 3 _ rfl
    · exact cell_at hg 5 _ rfl
  · intro k hk
    rcases (show k = 0 ∨ k = 1 ∨ k = 2 by simp at hk; omega) with rfl | rfl | rfl
    · exact ⟨h1, hc1⟩
    · exact ⟨h2, hc2⟩
    · exact ⟨h3, hc3⟩

theorem three_boxes (w : World) (n1 n2 n3 : Bool) (A1 A2 A3 : Option Addr) (c1 c2 c3 : Nat) (l1 l2 l3 : List Nat) (h1 : Rd w A1 l1) (h2 : Rd w A2 l2) (h3 : Rd w A3 l3) (hc1 : l1.length ≤ c1) (hc2 : l2.length ≤ c2) (hc3 : l3.length ≤ c3) :
    ∃ W, ((w.alloc (.cells #[.bool n1, .slice A1 l1.length c1] 24)).alloc (.cells #[.bool n2, .slice A2 l2.length c2] 24)).alloc (.cells #[.bool n3, .slice A3 l3.length c3] 24) = W ∧ Below w.heap.size w W ∧ IntBox W w.heap.size n1 A1 c1 l1 ∧ IntBox W (w.heap.size + 1) n2 A2 c2 l2 ∧ IntBox W (w.heap.size + 1 + 1) n3 A3 c3 l3 ∧ w.heap.size + 1 + 1 < W.heap.size := by
  obtain ⟨W, hW, hb, B1, B2, B3, hs⟩ := boxes3 w n1 n2 A1 A2 c1 c2 l1 l2 h1 h2 hc1 hc2 #[.bool n3, .slice A3 l3.length c3] 24
  exact ⟨W, hW, hb, B1, B2, ⟨B3.h, h3.on hb, hc3⟩, by omega⟩

end Nm
end Go.Proofs.YtlhmbbpkhahbeaaDoor
