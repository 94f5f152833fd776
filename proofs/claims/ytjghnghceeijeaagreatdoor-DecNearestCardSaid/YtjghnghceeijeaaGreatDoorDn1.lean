/-
  Contracts of the walks below.
-/
import Derived.Test.YtjghnghceeijeaaGreatDoorDb11
import Derived.Test.YtjghnghceeijeaaGreatDoorRows
import Derived.ProofKit
import Derived.LaidMore
import Derived.OpenShut
import Derived.Stop.Joined
import Derived.Carry
import Derived.Lib.LaidTab
import Derived.Deep.RegionHeld2
import Derived.Laws.CopyOwn
import Derived.Laws.IdiomStrings
set_option maxRecDepth 100000
set_option maxHeartbeats 4000000
set_option linter.unusedVariables false
set_option linter.unusedSimpArgs false
namespace Go.Proofs.YtjghnghceeijeaaGreatDoor
namespace Nm
open Go.RowKit Go.Shelf Go.BigFrame
attribute [local go_sem] Oper.semAt_some
theorem cmp_neg_pos {z1 z2 : Int} (h1 : z1 < 0) (h2 : ¬ z2 < 0) : cmpZ z1 z2 = -1 := if_pos (by omega)
theorem cmp_pos_neg {z1 z2 : Int} (h1 : ¬ z1 < 0) (h2 : z2 < 0) : cmpZ z1 z2 = 1 := by unfold cmpZ; rw [if_neg (by omega), if_pos (by omega)]
theorem cmp_pos {z1 z2 : Int} (h1 : ¬ z1 < 0) (h2 : ¬ z2 < 0) : cmpZ (z1.natAbs : Int) (z2.natAbs : Int) = cmpZ z1 z2 := by rw [show (z1.natAbs : Int) = z1 by omega, show (z2.natAbs : Int) = z2 by omega]
theorem cmp_neg {z1 z2 : Int} (h1 : z1 < 0) (h2 : z2 < 0) : cmpZ (z2.natAbs : Int) (z1.natAbs : Int) = cmpZ z1 z2 := by
 rw [show (z1.natAbs : Int) = -z1 by omega, show (z2.natAbs : Int) = -z2 by omega]
 unfold cmpZ
 split <;> split <;> (try split) <;> (try split) <;> omega
theorem RCompare_calls (n1 n2 : Bool) (A1 A2 : Option Addr) (c1 c2 : Nat) (l1 l2 : List Nat) (z1 z2 : Int) (w : World) (h1 : Rd w A1 l1) (h2 : Rd w A2 l2) (hc1 : l1.length ≤ c1) (hc2 : l2.length ≤ c2) (k1 : IsZ n1 l1 z1) (k2 : IsZ n2 l2 z2) :
 Calls Tryz.prog 47 #[iv n1 A1 l1.length c1, iv n2 A2 l2.length c2] w fun e w' => e = .returned (.int .i64 (cmpZ z1 z2)) ∧ Below w.heap.size w w' := by
 have hb2 : ∀ a b, Below w.heap.size w ((w.alloc a).alloc b) := fun a b => ((Below.refl _ w).alloc (Nat.le_refl _) _).alloc (by simp) _
 have hl := fun W (hW : Below w.heap.size w W) => larger_calls A1 A2 c1 c2 l1 l2 W (h1.on hW) (h2.on hW) hc1 hc2 k1.canon k2.canon
 have hl' := fun W (hW : Below w.heap.size w W) => larger_calls A2 A1 c2 c1 l2 l1 W (h2.on hW) (h1.on hW) hc2 hc1 k2.canon k1.canon
 rw [k1.val, k2.val] at hl hl'
 have s1 := k1.sgn
 have s2 := k2.sgn
 by_cases e1 : z1 < 0 <;> by_cases e2 : z2 < 0
 · rw [decide_eq_true e1] at s1
   rw [decide_eq_true e2] at s2
   subst s1 s2
   rw [cmp_neg e1 e2] at hl'
   generalize cmpZ z1 z2 = r at *
   clear e1 e2
   go_enter Tryz.func47, Tryz.ntmps47
   go_wp2_with (go_at_call 123; refine (hl' _ (hb2 _ _)).mono ?_; rintro e w3 ⟨rfl, n, rfl⟩)
   go_ret
   exact ⟨rfl, below_drewN (hb2 _ _) _⟩
 · rw [decide_eq_true e1] at s1
   rw [decide_eq_false e2] at s2
   subst s1 s2
   rw [cmp_neg_pos e1 e2]
   clear e1 e2
   go_enter Tryz.func47, Tryz.ntmps47
   go_wp2_with fail
   go_ret
   exact ⟨rfl, hb2 _ _⟩
 · rw [decide_eq_false e1] at s1
   rw [decide_eq_true e2] at s2
   subst s1 s2
   rw [cmp_pos_neg e1 e2]
   clear e1 e2
   go_enter Tryz.func47, Tryz.ntmps47
   go_wp2_with fail
   go_ret
   exact ⟨rfl, hb2 _ _⟩
 · rw [decide_eq_false e1] at s1
   rw [decide_eq_false e2] at s2
   subst s1 s2
   rw [cmp_pos e1 e2] at hl
   generalize cmpZ z1 z2 = r at *
   clear e1 e2
   go_enter Tryz.func47, Tryz.ntmps47
   go_wp2_with (go_at_call 123; refine (hl _ (hb2 _ _)).mono ?_; rintro e w3 ⟨rfl, n, rfl⟩)
   go_ret
   exact ⟨rfl, below_drewN (hb2 _ _) _⟩
theorem Minus_calls (n : Bool) (A : Option Addr) (c : Nat) (l : List Nat) (z : Int) (w : World) (h : Rd w A l) (hc : l.length ≤ c) (k : IsZ n l z) :
 Calls Tryz.prog 37 #[iv n A l.length c] w (RetZ (-z) w) := by
 have hk := k.neg
 have hs := h.small
 have hb2 : ∀ a b, Below w.heap.size w ((w.alloc a).alloc b) := fun a b => ((Below.refl _ w).alloc (Nat.le_refl _) _).alloc (by simp) _
 rcases Nat.eq_zero_or_pos l.length with h0 | h0
 · obtain rfl : l = [] := List.length_eq_zero_iff.1 h0
   rw [show (!n && decide ((0 : Int) < (([] : List Nat).length : Int))) = false by simp] at hk
   clear h0
   cases n
   all_goals
    go_enter Tryz.func37, Tryz.ntmps37
    go_wp2_with fail
    exact ret_cell rfl rfl rfl (two_blk w _ _) ⟨_, A, c, [], rfl, hk, hc, h.on (hb2 _ _), hb2 _ _⟩
 · have h0' : ((0 : Int) < (l.length : Int)) ↔ True := by rw [iff_true]; omega
   rw [decide_eq_true (show (0 : Int) < (l.length : Int) by omega), Bool.and_true] at hk
   cases n
   all_goals
    go_enter Tryz.func37, Tryz.ntmps37
    go_wp2_with fail
    exact ret_cell rfl rfl rfl (two_blk w _ _) ⟨_, A, c, l, rfl, hk, hc, h.on (hb2 _ _), hb2 _ _⟩
end Nm
end Go.Proofs.YtjghnghceeijeaaGreatDoor
namespace Go.Proofs.YtjghnghceeijeaaGreatDoor
namespace Nm
open Go.ChangeShapes Go.WideShapes Go.ChangeAt Go.WideMaps Go.WideElems Go.RowKit
theorem laidOut : laidOutB Tryz.prog = true := by kernel_rfl
theorem gDigits : Tryz.prog.globalNamed "zermelo/num.digits" = some 0 := by kernel_rfl
theorem tDigits : (Tryz.prog.globals[0]?).map (·.type) = some 168 := by kernel_rfl
theorem uDigits : Tryz.prog.underlying 168 = some (.array 36 5) := by kernel_rfl
theorem uByte : Tryz.prog.underlying 5 = some (.int .u8) := by kernel_rfl
def tabZ : List Int := [48, 49, 50, 51, 52, 53, 54, 55, 56, 57, 97, 98, 99, 100, 101, 102, 103, 104, 105, 106, 107, 108, 109, 110, 111, 112, 113, 114, 115, 116, 117, 118, 119, 120, 121, 122]
end Nm
end Go.Proofs.YtjghnghceeijeaaGreatDoor
