/-
  DecNearest: for every input the law returns true; the values that came in are whatever the row lets in; the listed variables read as the program lays them (the card ties them).
-/
import Derived.Test.YtjghnghceeijeaaGreatDoorDn5
set_option maxRecDepth 100000
set_option maxHeartbeats 4000000
set_option linter.unusedVariables false
set_option linter.unusedSimpArgs false
namespace Go.Proofs.YtjghnghceeijeaaGreatDoor
namespace Dc
open Go.ChangeShapes Go.WideShapes Go.ChangeAt Go.WideMaps Go.WideElems Go.RowKit Go.Shelf Go.Proofs.YtjghnghceeijeaaGreatDoor.Nm
theorem decNearest_k1 : (Rows.decNearestRow.inPlace == Tryz.pinned.checked.prog.inPlace 6) = true := by kernel_rfl
theorem decNearest_k2 : (Rows.decNearestRow.unfollowed == Tryz.pinned.checked.prog.unfollowed 6) = true := by kernel_rfl
theorem decNearest_k3 : (Rows.decNearestRow.recurses == Tryz.pinned.checked.prog.recurses 6) = true := by kernel_rfl
theorem decNearest_k4 : (Rows.decNearestRow.named == Tryz.pinned.checked.prog.varsNamed 6) = true := by kernel_rfl
theorem decNearest_closed : joinedFacts Tryz.pinned.checked.prog 6 Tryz.f6 Rows.decNearestSpec Rows.decNearestRow = true := by
 unfold joinedFacts
 rw [decNearest_k1, decNearest_k2, decNearest_k3, decNearest_k4]
 kernel_rfl
theorem decNearest_holds : Rows.DecNearestSaid :=
 OpenClaim.holds_of_wide 6 Tryz.f6 rfl rfl rfl rfl rfl rfl rfl ⟨rfl, rfl, rfl, rfl, rfl⟩ rfl rfl rfl rfl rfl (by kernel_rfl) Tryz.func6 decNearest_closed
  (of_decide_eq_true (by kernel_rfl)) (by unfold Func.isWrapper; first | (rw [if_pos (by decide +kernel)]; kernel_rfl) | (rw [if_neg (by decide +kernel)]; exact ⟨rfl, rfl⟩))
  (fun os started H enc _ => decNearest_lifted os started H enc)
theorem decNearest_card : Rows.DecNearestCardSaid :=
 Claim7.holds_tied_plain_at .later [] [.data, .data, .pinned] true (true, "d6093be7b94b526dcae63f52f789418065038e76f0a45984e310c6ca67156d60") true
  decNearest_holds (fun _ h => by cases h) (by kernel_rfl) (fun _ h => by cases h) decNearest_row_tie rfl ⟨rfl, rfl⟩ (by kernel_rfl) rfl
  (fun f fn hf hfn => by
   obtain rfl : f = 6 := Option.some.inj ((show Tryz.prog.funcNamed "zermelo/zermelolaw02.DecNearest" = some 6 by kernel_rfl).symm.trans hf) |>.symm
   obtain rfl : fn = Tryz.f6 := (Option.some.inj (Tryz.func6.symm.trans hfn)).symm
   exact ⟨by kernel_rfl, fun j t ht => by
    have hp := Tryz.params6
    rw [hp] at ht
    have hall : (Tryz.f6.params.toList.all fun u => !Tryz.prog.wantsStandIn u) = true := by kernel_rfl
    rw [hp] at hall
    have hm := Array.mem_toList_iff.2 (Array.mem_of_getElem? ht)
    exact (show Tryz.prog.wantsStandIn t = false by simpa using List.all_eq_true.1 hall t hm)⟩)
  (by kernel_rfl)
end Dc
end Go.Proofs.YtjghnghceeijeaaGreatDoor
