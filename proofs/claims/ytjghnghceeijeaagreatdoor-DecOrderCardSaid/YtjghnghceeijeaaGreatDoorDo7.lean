/-
  DecOrder: for every input the law returns true; the values that came in are whatever the row lets in; the listed variables read as the program lays them (the card ties them).
-/
import Derived.Test.YtjghnghceeijeaaGreatDoorDo6
set_option maxRecDepth 100000
set_option maxHeartbeats 4000000
set_option linter.unusedVariables false
set_option linter.unusedSimpArgs false
namespace Go.Proofs.YtjghnghceeijeaaGreatDoor
namespace Dc
open Go.ChangeShapes Go.WideShapes Go.ChangeAt Go.WideMaps Go.WideElems Go.RowKit Go.Shelf Go.Proofs.YtjghnghceeijeaaGreatDoor.Nm
theorem decOrder_k1 : (Rows.decOrderRow.inPlace == Tryz.pinned.checked.prog.inPlace 14) = true := by kernel_rfl
theorem decOrder_k2 : (Rows.decOrderRow.unfollowed == Tryz.pinned.checked.prog.unfollowed 14) = true := by kernel_rfl
theorem decOrder_k3 : (Rows.decOrderRow.recurses == Tryz.pinned.checked.prog.recurses 14) = true := by kernel_rfl
theorem decOrder_k4 : (Rows.decOrderRow.named == Tryz.pinned.checked.prog.varsNamed 14) = true := by kernel_rfl
theorem decOrder_closed : joinedFacts Tryz.pinned.checked.prog 14 Tryz.f14 Rows.decOrderSpec Rows.decOrderRow = true := by
 unfold joinedFacts
 rw [decOrder_k1, decOrder_k2, decOrder_k3, decOrder_k4]
 kernel_rfl
theorem decOrder_holds : Rows.DecOrderSaid :=
 OpenClaim.holds_of_wide 14 Tryz.f14 rfl rfl rfl rfl rfl rfl rfl ⟨rfl, rfl, rfl, rfl, rfl⟩ rfl rfl rfl rfl rfl (by kernel_rfl) Tryz.func14 decOrder_closed
  (of_decide_eq_true (by kernel_rfl)) (by unfold Func.isWrapper; first | (rw [if_pos (by decide +kernel)]; kernel_rfl) | (rw [if_neg (by decide +kernel)]; exact ⟨rfl, rfl⟩))
  (fun os started H enc _ => decOrder_lifted os started H enc)
theorem decOrder_card : Rows.DecOrderCardSaid :=
 Claim7.holds_tied_plain_at .later [] [.data, .data, .pinned] true (true, "d6093be7b94b526dcae63f52f789418065038e76f0a45984e310c6ca67156d60") true
  decOrder_holds (fun _ h => by cases h) (by kernel_rfl) (fun _ h => by cases h) decOrder_row_tie rfl ⟨rfl, rfl⟩ (by kernel_rfl) rfl
  (fun f fn hf hfn => by
   obtain rfl : f = 14 := Option.some.inj ((show Tryz.prog.funcNamed "zermelo/zermelolaw02.DecOrder" = some 14 by kernel_rfl).symm.trans hf) |>.symm
   obtain rfl : fn = Tryz.f14 := (Option.some.inj (Tryz.func14.symm.trans hfn)).symm
   exact ⟨by kernel_rfl, fun j t ht => by
    have hp := Tryz.params14
    rw [hp] at ht
    have hall : (Tryz.f14.params.toList.all fun u => !Tryz.prog.wantsStandIn u) = true := by kernel_rfl
    rw [hp] at hall
    have hm := Array.mem_toList_iff.2 (Array.mem_of_getElem? ht)
    exact (show Tryz.prog.wantsStandIn t = false by simpa using List.all_eq_true.1 hall t hm)⟩)
  (by kernel_rfl)
end Dc
end Go.Proofs.YtjghnghceeijeaaGreatDoor
