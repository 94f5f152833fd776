/-
  DecRounds: for every input the law returns true; the values that came in are whatever the row lets in; the listed variables read as the program lays them (the card ties them).
-/
import Derived.Test.YtjghnghceeijeaaGreatDoorDr5
set_option maxRecDepth 100000
set_option maxHeartbeats 4000000
set_option linter.unusedVariables false
set_option linter.unusedSimpArgs false
namespace Go.Proofs.YtjghnghceeijeaaGreatDoor
namespace Dc
open Go.ChangeShapes Go.WideShapes Go.ChangeAt Go.WideMaps Go.WideElems Go.RowKit Go.Shelf Go.Proofs.YtjghnghceeijeaaGreatDoor.Nm
theorem decRounds_k1 : (Rows.decRoundsRow.inPlace == Tryz.pinned.checked.prog.inPlace 10) = true := by kernel_rfl
theorem decRounds_k2 : (Rows.decRoundsRow.unfollowed == Tryz.pinned.checked.prog.unfollowed 10) = true := by kernel_rfl
theorem decRounds_k3 : (Rows.decRoundsRow.recurses == Tryz.pinned.checked.prog.recurses 10) = true := by kernel_rfl
theorem decRounds_k4 : (Rows.decRoundsRow.named == Tryz.pinned.checked.prog.varsNamed 10) = true := by kernel_rfl
theorem decRounds_closed : joinedFacts Tryz.pinned.checked.prog 10 Tryz.f10 Rows.decRoundsSpec Rows.decRoundsRow = true := by
 unfold joinedFacts
 rw [decRounds_k1, decRounds_k2, decRounds_k3, decRounds_k4]
 kernel_rfl
theorem decRounds_holds : Rows.DecRoundsSaid :=
 OpenClaim.holds_of_wide 10 Tryz.f10 rfl rfl rfl rfl rfl rfl rfl ⟨rfl, rfl, rfl, rfl, rfl⟩ rfl rfl rfl rfl rfl (by kernel_rfl) Tryz.func10 decRounds_closed
  (of_decide_eq_true (by kernel_rfl)) (by unfold Func.isWrapper; first | (rw [if_pos (by decide +kernel)]; kernel_rfl) | (rw [if_neg (by decide +kernel)]; exact ⟨rfl, rfl⟩))
  (fun os started H enc _ => decRounds_lifted os started H enc)
theorem decRounds_card : Rows.DecRoundsCardSaid :=
 Claim7.holds_tied_plain_at .later [] [.data, .data, .pinned] true (true, "d6093be7b94b526dcae63f52f789418065038e76f0a45984e310c6ca67156d60") true
  decRounds_holds (fun _ h => by cases h) (by kernel_rfl) (fun _ h => by cases h) decRounds_row_tie rfl ⟨rfl, rfl⟩ (by kernel_rfl) rfl
  (fun f fn hf hfn => by
   obtain rfl : f = 10 := Option.some.inj ((show Tryz.prog.funcNamed "zermelo/zermelolaw02.DecRounds" = some 10 by kernel_rfl).symm.trans hf) |>.symm
   obtain rfl : fn = Tryz.f10 := (Option.some.inj (Tryz.func10.symm.trans hfn)).symm
   exact ⟨by kernel_rfl, fun j t ht => by
    have hp := Tryz.params10
    rw [hp] at ht
    have hall : (Tryz.f10.params.toList.all fun u => !Tryz.prog.wantsStandIn u) = true := by kernel_rfl
    rw [hp] at hall
    have hm := Array.mem_toList_iff.2 (Array.mem_of_getElem? ht)
    exact (show Tryz.prog.wantsStandIn t = false by simpa using List.all_eq_true.1 hall t hm)⟩)
  (by kernel_rfl)
end Dc
end Go.Proofs.YtjghnghceeijeaaGreatDoor
namespace Go.Proofs.YtjghnghceeijeaaGreatDoor
namespace Dc
open Go.RowKit Go.Shelf Go.BigFrame Go.Proofs.YtjghnghceeijeaaGreatDoor.Nm
attribute [local go_sem] Oper.semAt_some
theorem RCompare_z (n1 n2 : Bool) (A1 A2 : Option Addr) (c1 c2 : Nat) (l1 l2 : List Nat) (z1 z2 : Int) (p q : Nat) (B1 B2 : Option Addr) (d1 d2 : Nat) (w : World) (I1 : IV w n1 A1 c1 l1 z1) (I2 : IV w n2 A2 c2 l2 z2) (D1 : IsD z1 p) (D2 : IsD z2 q) :
 Calls Tryz.prog 64 #[(vv 3 (p : Int) n1 A1 l1.length c1 ⟨#[]⟩ B1 0 d1), (vv 3 (q : Int) n2 A2 l2.length c2 ⟨#[]⟩ B2 0 d2)] w fun e w' => e = .returned (.int .i64 (cmpZ (unitsZ z1 p) (unitsZ z2 q))) ∧ Below w.heap.size w w' := by
 obtain ⟨W, hW, hbW, K0, K1, hszW⟩ := box2 w #[.int .i64 3, .int .i64 (p : Int), .bool n1, .slice A1 l1.length c1, .string ⟨#[]⟩, .slice B1 0 d1] 27 #[.int .i64 3, .int .i64 (q : Int), .bool n2, .slice A2 l2.length c2, .string ⟨#[]⟩, .slice B2 0 d2] 27
 have J1 := I1.on hbW
 have J2 := I2.on hbW
 have f1 := D1.lz
 have f2 := D2.lz
 have hp := D1.hi
 have hq := D2.hi
 have hs1 := fun W' (h : Below W.heap.size W W') => scaled_i n1 A1 c1 l1 z1 p hp B1 d1 W' (J1.on h) f1 (by decide)
 have hs2 := fun W' (h : Below W.heap.size W W') => scaled_i n2 A2 c2 l2 z2 q hq B2 d2 W' (J2.on h) f2 (by decide)
 generalize unitsZ z1 p = v1 at *
 generalize unitsZ z2 q = v2 at *
 have hC := fun W' s A c l s' A' c' l' (I : IV W' s A c l v1) (I' : IV W' s' A' c' l' v2) => rcmp_i s s' A A' c c' l l' v1 v2 W' I I'
 generalize cmpZ v1 v2 = cc at *
 clear I1 I2 D1 D2 f1 f2 hp hq J1 J2
 have lw := hszW
 replace hszW := Lib.hid hszW
 go_enter Tryz.func64, Tryz.ntmps64
 go_upto_region 1 with fail
 have HS : ∀ W', Below W.heap.size W W' → (fun w'' => VK w'' w.heap.size 3 (p : Int) n1 A1 l1.length c1 ⟨#[]⟩ B1 0 d1 ∧ VK w'' (w.heap.size + 1) 3 (q : Int) n2 A2 l2.length c2 ⟨#[]⟩ B2 0 d2) W' := fun W' h => ⟨vk_of K0 h, vk_of K1 h⟩
 have H0 := HS _ (Below.refl _ _)
 replace HS := Lib.hid HS
 try dsimp only at H0
 clear lw
 go_region_held3 (fun w'' => VK w'' w.heap.size 3 (p : Int) n1 A1 l1.length c1 ⟨#[]⟩ B1 0 d1 ∧ VK w'' (w.heap.size + 1) 3 (q : Int) n2 A2 l2.length c2 ⟨#[]⟩ B2 0 d2) ((first | (with_reducible exact H0) | (with_reducible exact ⟨vk_drew H0.1, vk_drew H0.2⟩)))
  ((first
   | (go_at_call 47; have hmark := q8; refine (hC _ _ _ _ _ _ _ _ _ (I7.on b8) I8).mono ?_; rintro e w9 ⟨rfl, b9⟩; have q9 := q8.trans (b9.mono q8.size); clear H0; have H0 := HS.out _ q9; (try dsimp only at H0))
   | (go_at_call 121; have hmark := q7; refine (hs2 _ q7).mono ?_; rintro e w8 ⟨s8, A8, c8, l8, rfl, I8, b8⟩; have q8 := q7.trans (b8.mono q7.size); clear H0; have H0 := HS.out _ q8; (try dsimp only at H0))
   | (go_at_call 121; refine (hs1 _ (below_drew (Below.refl W.heap.size W))).mono ?_; rintro e w7 ⟨s7, A7, c7, l7, rfl, I7, b7⟩; have q7 := (below_drew (Below.refl W.heap.size W)).trans (b7.mono (below_drew (Below.refl W.heap.size W)).size); clear H0; have H0 := HS.out _ q7; (try dsimp only at H0))))
 go_wp2_with fail
 go_ret
 exact ⟨rfl, hbW.trans (q9.mono hbW.size)⟩
theorem RCompare_calls (a b : VA) (w : World) (ha : a.At w) (hb : b.At w) (h1 : a.ok = true) (h2 : b.ok = true) : Calls Tryz.prog 64 #[a.val, b.val] w fun e w' => e = .returned (.int .i64 (cmpZ a.u b.u)) ∧ Below w.heap.size w w' := by
 obtain ⟨p, s1, A1, c1, l1, B1, d1, e1, i1, D1, -, q1⟩ := VA.destruct ha.rd.words h1
 obtain ⟨q, s2, A2, c2, l2, B2, d2, e2, i2, D2, -, q2⟩ := VA.destruct hb.rd.words h2
 unfold VA.u
 rw [q1, q2]
 generalize a.z = za at *
 generalize b.z = zb at *
 subst e1 e2
 exact RCompare_z s1 s2 A1 A2 c1 c2 l1 l2 za zb p q B1 B2 d1 d2 w ⟨ha.rd, ha.cap, i1⟩ ⟨hb.rd, hb.cap, i2⟩ D1 D2
end Dc
end Go.Proofs.YtjghnghceeijeaaGreatDoor
