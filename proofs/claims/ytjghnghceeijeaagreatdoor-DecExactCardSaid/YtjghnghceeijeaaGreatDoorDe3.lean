/-
  Contracts of the walks below.
-/
import Derived.Test.YtjghnghceeijeaaGreatDoorDb30
set_option maxRecDepth 100000
set_option maxHeartbeats 4000000
set_option linter.unusedVariables false
set_option linter.unusedSimpArgs false
namespace Go.Proofs.YtjghnghceeijeaaGreatDoor
namespace Dc
open Go.RowKit Go.Shelf Go.BigFrame Go.Proofs.YtjghnghceeijeaaGreatDoor.Nm
attribute [local go_sem] Oper.semAt_some
def fmB (x : VA) : Bool := lightB x && x.ok
theorem fm_not {xs : List VA} {k : Nat} {r : Bool} (hr : Hid (xs.all fmB = r)) (hlt : k < xs.length) (h : fmB xs[k] = false) : r = false := by
 have := hr.out
 cases r
 · rfl
 · have h2 := List.all_eq_true.1 this xs[k] (List.getElem_mem hlt)
   rw [h] at h2; cases h2
theorem lawformed_c (g : Nat) (xs : List VA) (w : World) (hg : g < w.heap.size) (hx : ValsAt w g xs) (hn : xs.length ≤ 8) :
 Calls Tryz.prog 28 #[.slice (some ⟨g, 0, none⟩) xs.length xs.length] w fun e w' => e = .returned (.bool (xs.all fmB)) ∧ Below w.heap.size w w' := by
 obtain ⟨r, hr⟩ : ∃ r, xs.all fmB = r := ⟨_, rfl⟩
 rw [hr]
 replace hr := Lib.hid hr
 go_enter Tryz.func28, Tryz.ntmps28
 go_wp2_with fail
 go_loopw [3] (fun i W => ∃ k : Nat, i = .int .i64 (k : Int) ∧ k ≤ xs.length ∧ Hid ((xs.take k).all fmB = true) ∧ Below w.heap.size w W) (fun i _ => xs.length - (intOf i).toNat)
 case atStart => exact ⟨0, rfl, Nat.zero_le _, rfl, Below.refl _ _⟩
 case round =>
  obtain ⟨k, rfl, hk, hall, hbl⟩ := hrel
  by_cases hlt : k < xs.length
  · have x0 := (hbl.cell (p := ⟨g, k * 6, none⟩) hg).trans (hx.c0 k hlt)
    have x1 := (hbl.cell (p := ⟨g, k * 6 + 1, none⟩) hg).trans (hx.c1 k hlt)
    have x2 := (hbl.cell (p := ⟨g, k * 6 + 2, none⟩) hg).trans (hx.c2 k hlt)
    have x3 := (hbl.cell (p := ⟨g, k * 6 + 3, none⟩) hg).trans (hx.c3 k hlt)
    have x4 := (hbl.cell (p := ⟨g, k * 6 + 4, none⟩) hg).trans (hx.c4 k hlt)
    have x5 := (hbl.cell (p := ⟨g, k * 6 + 5, none⟩) hg).trans (hx.c5 k hlt)
    have y0 := fun W' (h : Below wr.heap.size wr W') => ((h.cell (p := ⟨g, k * 6, none⟩) (Nat.lt_of_lt_of_le hg hbl.size)).trans x0)
    have y1 := fun W' (h : Below wr.heap.size wr W') => ((h.cell (p := ⟨g, k * 6 + 1, none⟩) (Nat.lt_of_lt_of_le hg hbl.size)).trans x1)
    have y2 := fun W' (h : Below wr.heap.size wr W') => ((h.cell (p := ⟨g, k * 6 + 2, none⟩) (Nat.lt_of_lt_of_le hg hbl.size)).trans x2)
    have y3 := fun W' (h : Below wr.heap.size wr W') => ((h.cell (p := ⟨g, k * 6 + 3, none⟩) (Nat.lt_of_lt_of_le hg hbl.size)).trans x3)
    have y4 := fun W' (h : Below wr.heap.size wr W') => ((h.cell (p := ⟨g, k * 6 + 4, none⟩) (Nat.lt_of_lt_of_le hg hbl.size)).trans x4)
    have y5 := fun W' (h : Below wr.heap.size wr W') => ((h.cell (p := ⟨g, k * 6 + 5, none⟩) (Nat.lt_of_lt_of_le hg hbl.size)).trans x5)
    have hat := (hx.at' k hlt).on hbl
    have hno := fm_not hr hlt
    have hyes : fmB xs[k] = true → (xs.take (k + 1)).all fmB = true := fun h => by
     rw [List.take_succ_eq_append_getElem hlt, List.all_append, hall.out]
     simp [h]
    obtain ⟨x, hxk⟩ : ∃ x, xs[k] = x := ⟨_, rfl⟩
    rw [hxk] at x0 x1 x2 x3 x4 x5 y0 y1 y2 y3 y4 y5 hat hno hyes
    have ha1 := al1 wr (.cells #[.int .i64 x.k, .int .i64 x.p, .bool x.s, .slice x.A x.l.length x.c, .string x.S, .slice x.B x.m x.d] 27)
    have hl := light_c wr.heap.size [x] (wr.alloc (.cells #[.int .i64 x.k, .int .i64 x.p, .bool x.s, .slice x.A x.l.length x.c, .string x.S, .slice x.B x.m x.d] 27)) (vals_one x _ _ ⟨World.alloc_heap_new wr _⟩ (hat.on ha1)) (by simp)
    have hi := is_c x (wr.alloc (.cells #[.int .i64 x.k, .int .i64 x.p, .bool x.s, .slice x.A x.l.length x.c, .string x.S, .slice x.B x.m x.d] 27)) (hat.on ha1)
    have y0 := y0 _ ha1
    have y1 := y1 _ ha1
    have y2 := y2 _ ha1
    have y3 := y3 _ ha1
    have y4 := y4 _ ha1
    have y5 := y5 _ ha1
    have hfb : fmB x = (lightB x && x.ok) := rfl
    have hla : [x].all lightB = lightB x := by simp
    rw [hla] at hl
    clear hx hxk hat hla
    cases hlx : lightB x
    · rw [hlx] at hl
      obtain rfl := hno (by rw [hfb, hlx]; rfl)
      clear hno hyes hfb hi hlx
      go_wp2_with (go_at_call 17; refine hl.mono ?_; rintro e w4 ⟨rfl, rfl⟩)
      go_ret
      exact ⟨rfl, hbl.trans (ha1.mono hbl.size)⟩
    · rw [hlx] at hl
      cases hok : x.ok
      · rw [hok] at hi
        obtain rfl := hno (by rw [hfb, hlx, hok]; rfl)
        clear hno hyes hfb hlx hok
        go_wp2_with first
         | (go_at_call 31; refine hi.mono ?_; rintro e w5 ⟨rfl, b5⟩)
         | (go_at_call 17; refine hl.mono ?_; rintro e w4 ⟨rfl, rfl⟩)
        go_ret
        exact ⟨rfl, hbl.trans ((ha1.trans (b5.mono ha1.size)).mono hbl.size)⟩
      · rw [hok] at hi
        have hy := Lib.hid (hyes (by rw [hfb, hlx, hok]; rfl))
        clear hno hyes hfb hlx hok
        go_wp2_with first
         | (go_at_call 31; refine hi.mono ?_; rintro e w5 ⟨rfl, b5⟩)
         | (go_at_call 17; refine hl.mono ?_; rintro e w4 ⟨rfl, rfl⟩)
        exact ⟨⟨k + 1, by simp, by omega, hy, hbl.trans ((ha1.trans (b5.mono ha1.size)).mono hbl.size)⟩, by simp only [intOf]; omega⟩
  · obtain rfl : r = true := by rw [← hr.out, ← hall.out, List.take_of_length_le (by omega)]
    go_wp2_with fail
    go_ret
    exact ⟨rfl, hbl⟩
theorem both_c (x : DR) (n1 n2 : Bool) (A1 A2 : Option Addr) (c1 c2 : Nat) (l1 l2 : List Nat) (w : World) (I1 : IV w n1 A1 c1 l1 x.1) (I2 : IV w n2 A2 c2 l2 x.1) (he : x.2.2 = 0 ∨ x.2.2 = 3) :
 Calls Tryz.prog 44 #[.agg #[.int .i64 (kd x), .int .i64 (x.2.1 : Int), .bool n1, .slice A1 l1.length c1, .string ⟨#[]⟩, .slice none 0 0], .int .i64 x.2.2, .agg #[.int .i64 (kd x), .int .i64 (x.2.1 : Int), .bool n2, .slice A2 l2.length c2, .string ⟨#[]⟩, .slice none 0 0], .int .i64 x.2.2] w fun e w' => e = .returned (.bool true) ∧ Below w.heap.size w w' := by
 obtain ⟨W, hW, hbW, K0, K1, hszW⟩ := box2 w #[.int .i64 (kd x), .int .i64 (x.2.1 : Int), .bool n1, .slice A1 l1.length c1, .string ⟨#[]⟩, .slice none 0 0] 27 #[.int .i64 (kd x), .int .i64 (x.2.1 : Int), .bool n2, .slice A2 l2.length c2, .string ⟨#[]⟩, .slice none 0 0] 27
 have hs := same_c n1 n2 A1 A2 c1 c2 l1 l2 x.1 x.1 (kd x) (x.2.1 : Int) (kd x) (x.2.1 : Int) none none 0 0 W (I1.on hbW) (I2.on hbW)
 simp only [decide_true, Bool.and_true] at hs
 obtain ⟨x0, x1, x2, x3, x4, x5⟩ := cL6 K0.h
 obtain ⟨y0, y1, y2, y3, y4, y5⟩ := cL6 K1.h
 generalize kd x = k at *
 generalize (x.2.1 : Int) = p at *
 generalize x.2.2 = er at *
 clear hszW
 rcases he with rfl | rfl
 · go_enter Tryz.func44, Tryz.ntmps44
   go_wp2_with (go_at_call 27; refine hs.mono ?_; rintro e w5 ⟨rfl, b5⟩)
   go_ret
   exact ⟨rfl, hbW.trans (b5.mono hbW.size)⟩
 · clear hs
   go_enter Tryz.func44, Tryz.ntmps44
   go_wp2_with fail
   go_ret
   exact ⟨rfl, hbW⟩
end Dc
end Go.Proofs.YtjghnghceeijeaaGreatDoor
