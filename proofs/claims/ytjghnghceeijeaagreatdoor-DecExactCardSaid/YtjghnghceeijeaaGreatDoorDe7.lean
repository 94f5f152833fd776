/-
  DecExact: for every input the law returns true; the values that came in are whatever the row lets in; the listed variables read as the program lays them (the card ties them).
-/
import Derived.Test.YtjghnghceeijeaaGreatDoorDe6
set_option maxRecDepth 100000
set_option maxHeartbeats 4000000
set_option linter.unusedVariables false
set_option linter.unusedSimpArgs false
namespace Go.Proofs.YtjghnghceeijeaaGreatDoor
namespace Dc
open Go.ChangeShapes Go.WideShapes Go.ChangeAt Go.WideMaps Go.WideElems Go.RowKit Go.Shelf Go.Proofs.YtjghnghceeijeaaGreatDoor.Nm
theorem decExact_k1 : (Rows.decExactRow.inPlace == Tryz.pinned.checked.prog.inPlace 8) = true := by kernel_rfl
theorem decExact_k2 : (Rows.decExactRow.unfollowed == Tryz.pinned.checked.prog.unfollowed 8) = true := by kernel_rfl
theorem decExact_k3 : (Rows.decExactRow.recurses == Tryz.pinned.checked.prog.recurses 8) = true := by kernel_rfl
theorem decExact_k4 : (Rows.decExactRow.named == Tryz.pinned.checked.prog.varsNamed 8) = true := by kernel_rfl
theorem decExact_closed : joinedFacts Tryz.pinned.checked.prog 8 Tryz.f8 Rows.decExactSpec Rows.decExactRow = true := by
 unfold joinedFacts
 rw [decExact_k1, decExact_k2, decExact_k3, decExact_k4]
 kernel_rfl
theorem decExact_holds : Rows.DecExactSaid :=
 OpenClaim.holds_of_wide 8 Tryz.f8 rfl rfl rfl rfl rfl rfl rfl ⟨rfl, rfl, rfl, rfl, rfl⟩ rfl rfl rfl rfl rfl (by kernel_rfl) Tryz.func8 decExact_closed
  (of_decide_eq_true (by kernel_rfl)) (by unfold Func.isWrapper; first | (rw [if_pos (by decide +kernel)]; kernel_rfl) | (rw [if_neg (by decide +kernel)]; exact ⟨rfl, rfl⟩))
  (fun os started H enc _ => decExact_lifted os started H enc)
theorem decExact_card : Rows.DecExactCardSaid :=
 Claim7.holds_tied_plain_at .later [] [.data, .data, .pinned] true (true, "d6093be7b94b526dcae63f52f789418065038e76f0a45984e310c6ca67156d60") true
  decExact_holds (fun _ h => by cases h) (by kernel_rfl) (fun _ h => by cases h) decExact_row_tie rfl ⟨rfl, rfl⟩ (by kernel_rfl) rfl
  (fun f fn hf hfn => by
   obtain rfl : f = 8 := Option.some.inj ((show Tryz.prog.funcNamed "zermelo/zermelolaw02.DecExact" = some 8 by kernel_rfl).symm.trans hf) |>.symm
   obtain rfl : fn = Tryz.f8 := (Option.some.inj (Tryz.func8.symm.trans hfn)).symm
   exact ⟨by kernel_rfl, fun j t ht => by
    have hp := Tryz.params8
    rw [hp] at ht
    have hall : (Tryz.f8.params.toList.all fun u => !Tryz.prog.wantsStandIn u) = true := by kernel_rfl
    rw [hp] at hall
    have hm := Array.mem_toList_iff.2 (Array.mem_of_getElem? ht)
    exact (show Tryz.prog.wantsStandIn t = false by simpa using List.all_eq_true.1 hall t hm)⟩)
  (by kernel_rfl)
end Dc
end Go.Proofs.YtjghnghceeijeaaGreatDoor
