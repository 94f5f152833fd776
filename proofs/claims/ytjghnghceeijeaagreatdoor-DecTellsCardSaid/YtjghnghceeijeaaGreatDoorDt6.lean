/-
  DecTells: for every input the law returns true; the values that came in are whatever the row lets in; the listed variables read as the program lays them (the card ties them).
-/
import Derived.Test.YtjghnghceeijeaaGreatDoorDt5
set_option maxRecDepth 100000
set_option maxHeartbeats 4000000
set_option linter.unusedVariables false
set_option linter.unusedSimpArgs false
namespace Go.Proofs.YtjghnghceeijeaaGreatDoor
namespace Dc
open Go.ChangeShapes Go.WideShapes Go.ChangeAt Go.WideMaps Go.WideElems Go.RowKit Go.Shelf Go.Proofs.YtjghnghceeijeaaGreatDoor.Nm
theorem decTells_k1 : (Rows.decTellsRow.inPlace == Tryz.pinned.checked.prog.inPlace 11) = true := by kernel_rfl
theorem decTells_k2 : (Rows.decTellsRow.unfollowed == Tryz.pinned.checked.prog.unfollowed 11) = true := by kernel_rfl
theorem decTells_k3 : (Rows.decTellsRow.recurses == Tryz.pinned.checked.prog.recurses 11) = true := by kernel_rfl
theorem decTells_k4 : (Rows.decTellsRow.named == Tryz.pinned.checked.prog.varsNamed 11) = true := by kernel_rfl
theorem decTells_closed : joinedFacts Tryz.pinned.checked.prog 11 Tryz.f11 Rows.decTellsSpec Rows.decTellsRow = true := by
 unfold joinedFacts
 rw [decTells_k1, decTells_k2, decTells_k3, decTells_k4]
 kernel_rfl
theorem decTells_holds : Rows.DecTellsSaid :=
 OpenClaim.holds_of_wide 11 Tryz.f11 rfl rfl rfl rfl rfl rfl rfl ⟨rfl, rfl, rfl, rfl, rfl⟩ rfl rfl rfl rfl rfl (by kernel_rfl) Tryz.func11 decTells_closed
  (of_decide_eq_true (by kernel_rfl)) (by unfold Func.isWrapper; first | (rw [if_pos (by decide +kernel)]; kernel_rfl) | (rw [if_neg (by decide +kernel)]; exact ⟨rfl, rfl⟩))
  (fun os started H enc _ => decTells_lifted os started H enc)
theorem decTells_card : Rows.DecTellsCardSaid :=
 Claim7.holds_tied_plain_at .later [] [.data, .data, .pinned] true (true, "d6093be7b94b526dcae63f52f789418065038e76f0a45984e310c6ca67156d60") true
  decTells_holds (fun _ h => by cases h) (by kernel_rfl) (fun _ h => by cases h) decTells_row_tie rfl ⟨rfl, rfl⟩ (by kernel_rfl) rfl
  (fun f fn hf hfn => by
   obtain rfl : f = 11 := Option.some.inj ((show Tryz.prog.funcNamed "zermelo/zermelolaw02.DecTells" = some 11 by kernel_rfl).symm.trans hf) |>.symm
   obtain rfl : fn = Tryz.f11 := (Option.some.inj (Tryz.func11.symm.trans hfn)).symm
   exact ⟨by kernel_rfl, fun j t ht => by
    have hp := Tryz.params11
    rw [hp] at ht
    have hall : (Tryz.f11.params.toList.all fun u => !Tryz.prog.wantsStandIn u) = true := by kernel_rfl
    rw [hp] at hall
    have hm := Array.mem_toList_iff.2 (Array.mem_of_getElem? ht)
    exact (show Tryz.prog.wantsStandIn t = false by simpa using List.all_eq_true.1 hall t hm)⟩)
  (by kernel_rfl)
end Dc
end Go.Proofs.YtjghnghceeijeaaGreatDoor
