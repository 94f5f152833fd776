/-
  The law NumSums: the walk.
  NumSums: the row, the card. For every input the law returns true. The integers that came in are whatever the row lets in; the digits' table reads as the program's text lays it (the card ties it).
-/
import Derived.Test.YtlhmbbpkhahbeaaDoorNumMh8
import Derived.Test.YtlhmbbpkhahbeaaDoorTie
import Derived.Test.YtlhmbbpkhahbeaaDoorCards
import Derived.SevenTiedAt
namespace Go.Proofs.YtlhmbbpkhahbeaaDoor
namespace Nm
open Go.RowKit Go.Shelf Go.BigFrame
attribute [local go_sem] Oper.semAt_some

set_option maxRecDepth 100000 in
set_option maxHeartbeats 16000000 in
theorem NumSums_calls (s1 s2 : Bool) (A1 A2 : Option Addr) (c1 c2 : Nat) (l1 l2 : List Nat) (w : World) (h1 : Rd w A1 l1) (h2 : Rd w A2 l2) (hc1 : l1.length ≤ c1) (hc2 : l2.length ≤ c2) (hd : DigW w) :
    Calls Tryd.prog 10 #[iv s1 A1 l1.length c1, iv s2 A2 l2.length c2] w fun e w' => e = .returned (.bool true) ∧ Below w.heap.size w w' := by
  obtain ⟨hbw, B1, B2⟩ := two_boxes w s1 s2 A1 A2 c1 c2 l1 l2 h1 h2 hc1 hc2
  obtain ⟨W, hW⟩ : ∃ W, (w.alloc (.cells #[.bool s1, .slice A1 l1.length c1] 24)).alloc (.cells #[.bool s2, .slice A2 l2.length c2] 24) = W := ⟨_, rfl⟩
  rw [hW] at hbw B1 B2
  have hsz : w.heap.size + 1 < W.heap.size := by rw [← hW]; simp
  have hsz0 : w.heap.size < W.heap.size := by omega
  have x0 := cell_at B1.blk 0 _ rfl
  have x1 := cell_at B1.blk 1 _ rfl
  have x2 := cell_at B2.blk 0 _ rfl
  have x3 := cell_at B2.blk 1 _ rfl
  have hal : ∀ o, Below W.heap.size W (W.alloc o) := fun o => (Below.refl _ W).alloc (Nat.le_refl _) _
  obtain ⟨b310, h310⟩ : ∃ b, (decide (l1.length ≤ 310) && decide (l2.length ≤ 310)) = b := ⟨_, rfl⟩
  have f310 := few_two 310 W.heap.size s1 s2 A1 A2 c1 c2 l1 l2 _ (args_blk W s1 s2 A1 A2 c1 c2 l1 l2) (B1.rd.on (hal _)) (B2.rd.on (hal _)) hc1 hc2 _ h310
  have K1 := fun W' (h : Below W.heap.size W W') => Add_calls s1 s2 A1 A2 c1 c2 l1 l2 W' (B1.rd.on h) (B2.rd.on h) hc1 hc2
  have K2 := fun W' (h : Below W.heap.size W W') => Sub_calls s1 s2 A1 A2 c1 c2 l1 l2 W' (B1.rd.on h) (B2.rd.on h) hc1 hc2
  have K3 := fun W' (h : Below W.heap.size W W') => Mul_calls s1 s2 A1 A2 c1 c2 l1 l2 W' (B1.rd.on h) (B2.rd.on h) hc1 hc2
  have R1 := fun W' (h : Below W.heap.size W W') => RAdd_calls s1 s2 A1 A2 c1 c2 l1 l2 W' (B1.rd.on h) (B2.rd.on h) hc1 hc2
  have R2 := fun W' (h : Below W.heap.size W W') => RSub_calls s1 s2 A1 A2 c1 c2 l1 l2 W' (B1.rd.on h) (B2.rd.on h) hc1 hc2
  have R3 := fun W' (h : Below W.heap.size W W') => RMul_calls s1 s2 A1 A2 c1 c2 l1 l2 W' (B1.rd.on h) (B2.rd.on h) hc1 hc2
  have hdW := hd.on hbw
  obtain ⟨za, hza⟩ : ∃ z, (addR s1 l1 s2 l2).1 = z := ⟨_, rfl⟩
  simp only [hza] at K1 R1
  clear hza
  obtain ⟨ea, hea⟩ : ∃ z, (addR s1 l1 s2 l2).2 = z := ⟨_, rfl⟩
  simp only [hea] at K1 R1
  clear hea
  obtain ⟨zs, hzs⟩ : ∃ z, (subR s1 l1 s2 l2).1 = z := ⟨_, rfl⟩
  simp only [hzs] at K2 R2
  clear hzs
  obtain ⟨es, hes⟩ : ∃ z, (subR s1 l1 s2 l2).2 = z := ⟨_, rfl⟩
  simp only [hes] at K2 R2
  clear hes
  obtain ⟨zm, hzm⟩ : ∃ z, (mulR s1 l1 s2 l2).1 = z := ⟨_, rfl⟩
  simp only [hzm] at K3 R3
  clear hzm
  obtain ⟨em, hem⟩ : ∃ z, (mulR s1 l1 s2 l2).2 = z := ⟨_, rfl⟩
  simp only [hem] at K3 R3
  clear hem
  clear h310
  cases b310
  · go_enter Tryd.func10, Tryd.ntmps10
    go_wp2_with first
      | (go_at_call 17; refine (sane_calls _ (hdW.on bm)).mono ?_; rintro e w9 ⟨rfl, b9⟩)
      | (go_at_call 15; refine f310.mono ?_; rintro e w4 ⟨rfl, rfl⟩; have bm := hal (.cells #[.bool s1, .slice A1 l1.length c1, .bool s2, .slice A2 l2.length c2] 24))
    go_ret
    exact ⟨rfl, (hbw.trans (bm.mono hbw.size)).trans (b9.mono (hbw.trans (bm.mono hbw.size)).size)⟩
  · go_enter Tryd.func10, Tryd.ntmps10
    go_wp2_with first
      | (go_at_call 39; refine (K3 _ by11).mono ?_; rintro e w12 ⟨s5, A5, c5, l5, rfl, z5, n5, r5, b12⟩; obtain ⟨bx12, B5⟩ := one_box w12 s5 A5 c5 l5 r5 n5; have by12 := (by11.trans (b12.mono by11.size)).trans (bx12.mono (by11.trans (b12.mono by11.size)).size); replace B3 := (B3.on b12).on bx12; replace B4 := (B4.on b12).on bx12; have i120 := cell_at (B1.on by12).blk 0 _ rfl; have i121 := cell_at (B1.on by12).blk 1 _ rfl; have i122 := cell_at (B2.on by12).blk 0 _ rfl; have i123 := cell_at (B2.on by12).blk 1 _ rfl)
      | (go_at_call 43; refine (K2 _ by10).mono ?_; rintro e w11 ⟨s4, A4, c4, l4, rfl, z4, n4, r4, b11⟩; obtain ⟨bx11, B4⟩ := one_box w11 s4 A4 c4 l4 r4 n4; have by11 := (by10.trans (b11.mono by10.size)).trans (bx11.mono (by10.trans (b11.mono by10.size)).size); replace B3 := (B3.on b11).on bx11; have i110 := cell_at (B1.on by11).blk 0 _ rfl; have i111 := cell_at (B1.on by11).blk 1 _ rfl; have i112 := cell_at (B2.on by11).blk 0 _ rfl; have i113 := cell_at (B2.on by11).blk 1 _ rfl)
      | (go_at_call 42; refine (K1 _ bm).mono ?_; rintro e w10 ⟨s3, A3, c3, l3, rfl, z3, n3, r3, b10⟩; obtain ⟨bx10, B3⟩ := one_box w10 s3 A3 c3 l3 r3 n3; have by10 := (bm.trans (b10.mono bm.size)).trans (bx10.mono (bm.trans (b10.mono bm.size)).size); have i100 := cell_at (B1.on by10).blk 0 _ rfl; have i101 := cell_at (B1.on by10).blk 1 _ rfl; have i102 := cell_at (B2.on by10).blk 0 _ rfl; have i103 := cell_at (B2.on by10).blk 1 _ rfl)
      | (go_at_call 15; refine f310.mono ?_; rintro e w4 ⟨rfl, rfl⟩; have bm := hal (.cells #[.bool s1, .slice A1 l1.length c1, .bool s2, .slice A2 l2.length c2] 24))
    obtain ⟨X, hX⟩ : ∃ X, w12.alloc (.cells #[.bool s5, .slice A5 l5.length c5] 24) = X := ⟨_, rfl⟩
    rw [hX] at B3 B4 B5 by12 ⊢
    clear hX
    replace B1 := B1.on by12
    replace B2 := B2.on by12
    have hdX := hdW.on by12
    have y1a : X.cell? ⟨w.heap.size, 0, none⟩ = some (.bool s1) := cell_at B1.blk 0 _ rfl
    have y1b : X.cell? ⟨w.heap.size, 1, none⟩ = some (.slice A1 l1.length c1) := cell_at B1.blk 1 _ rfl
    have y2a : X.cell? ⟨w.heap.size + 1, 0, none⟩ = some (.bool s2) := cell_at B2.blk 0 _ rfl
    have y2b : X.cell? ⟨w.heap.size + 1, 1, none⟩ = some (.slice A2 l2.length c2) := cell_at B2.blk 1 _ rfl
    have y3a : X.cell? ⟨w10.heap.size, 0, none⟩ = some (.bool s3) := cell_at B3.blk 0 _ rfl
    have y3b : X.cell? ⟨w10.heap.size, 1, none⟩ = some (.slice A3 l3.length c3) := cell_at B3.blk 1 _ rfl
    have y4a : X.cell? ⟨w11.heap.size, 0, none⟩ = some (.bool s4) := cell_at B4.blk 0 _ rfl
    have y4b : X.cell? ⟨w11.heap.size, 1, none⟩ = some (.slice A4 l4.length c4) := cell_at B4.blk 1 _ rfl
    have y5a : X.cell? ⟨w12.heap.size, 0, none⟩ = some (.bool s5) := cell_at B5.blk 0 _ rfl
    have y5b : X.cell? ⟨w12.heap.size, 1, none⟩ = some (.slice A5 l5.length c5) := cell_at B5.blk 1 _ rfl
    go_region_held3 (fun w'' => w''.cell? ⟨w.heap.size, 0, none⟩ = some (.bool s1) ∧ w''.cell? ⟨w.heap.size, 1, none⟩ = some (.slice A1 l1.length c1) ∧ w''.cell? ⟨w.heap.size + 1, 0, none⟩ = some (.bool s2) ∧ w''.cell? ⟨w.heap.size + 1, 1, none⟩ = some (.slice A2 l2.length c2) ∧ w''.cell? ⟨w10.heap.size, 0, none⟩ = some (.bool s3) ∧ w''.cell? ⟨w10.heap.size, 1, none⟩ = some (.slice A3 l3.length c3) ∧ w''.cell? ⟨w11.heap.size, 0, none⟩ = some (.bool s4) ∧ w''.cell? ⟨w11.heap.size, 1, none⟩ = some (.slice A4 l4.length c4) ∧ w''.cell? ⟨w12.heap.size, 0, none⟩ = some (.bool s5) ∧ w''.cell? ⟨w12.heap.size, 1, none⟩ = some (.slice A5 l5.length c5)) ((first | (with_reducible exact ⟨y1a, y1b, y2a, y2b, y3a, y3b, y4a, y4b, y5a, y5b⟩) | exact ⟨y1a, y1b, y2a, y2b, y3a, y3b, y4a, y4b, y5a, y5b⟩))
      ((first
        | (go_at_call 23; have hmark := q55; refine (got_calls s5 A5 c5 l5 s55 A55 c55 l55 zm em w55 (B5.rd.on q55) r55 B5.cap n55 z5 z55).mono ?_; rintro e w56 ⟨rfl, b56⟩; clear y1a y1b y2a y2b y3a y3b y4a y4b y5a y5b; have q56 := q55.trans (b56.mono q55.size); have y1a : w56.cell? ⟨w.heap.size, 0, none⟩ = some (.bool s1) := cell_at (B1.on q56).blk 0 _ rfl; have y1b : w56.cell? ⟨w.heap.size, 1, none⟩ = some (.slice A1 l1.length c1) := cell_at (B1.on q56).blk 1 _ rfl; have y2a : w56.cell? ⟨w.heap.size + 1, 0, none⟩ = some (.bool s2) := cell_at (B2.on q56).blk 0 _ rfl; have y2b : w56.cell? ⟨w.heap.size + 1, 1, none⟩ = some (.slice A2 l2.length c2) := cell_at (B2.on q56).blk 1 _ rfl; have y3a : w56.cell? ⟨w10.heap.size, 0, none⟩ = some (.bool s3) := cell_at (B3.on q56).blk 0 _ rfl; have y3b : w56.cell? ⟨w10.heap.size, 1, none⟩ = some (.slice A3 l3.length c3) := cell_at (B3.on q56).blk 1 _ rfl; have y4a : w56.cell? ⟨w11.heap.size, 0, none⟩ = some (.bool s4) := cell_at (B4.on q56).blk 0 _ rfl; have y4b : w56.cell? ⟨w11.heap.size, 1, none⟩ = some (.slice A4 l4.length c4) := cell_at (B4.on q56).blk 1 _ rfl; have y5a : w56.cell? ⟨w12.heap.size, 0, none⟩ = some (.bool s5) := cell_at (B5.on q56).blk 0 _ rfl; have y5b : w56.cell? ⟨w12.heap.size, 1, none⟩ = some (.slice A5 l5.length c5) := cell_at (B5.on q56).blk 1 _ rfl)
        | (go_at_call 46; have hmark := q54; refine (R3 w54 (by12.trans (q54.mono by12.size))).mono ?_; rintro e w55 ⟨s55, A55, c55, l55, rfl, z55, n55, r55, b55⟩; clear y1a y1b y2a y2b y3a y3b y4a y4b y5a y5b; have q55 := q54.trans (b55.mono q54.size); have y1a : w55.cell? ⟨w.heap.size, 0, none⟩ = some (.bool s1) := cell_at (B1.on q55).blk 0 _ rfl; have y1b : w55.cell? ⟨w.heap.size, 1, none⟩ = some (.slice A1 l1.length c1) := cell_at (B1.on q55).blk 1 _ rfl; have y2a : w55.cell? ⟨w.heap.size + 1, 0, none⟩ = some (.bool s2) := cell_at (B2.on q55).blk 0 _ rfl; have y2b : w55.cell? ⟨w.heap.size + 1, 1, none⟩ = some (.slice A2 l2.length c2) := cell_at (B2.on q55).blk 1 _ rfl; have y3a : w55.cell? ⟨w10.heap.size, 0, none⟩ = some (.bool s3) := cell_at (B3.on q55).blk 0 _ rfl; have y3b : w55.cell? ⟨w10.heap.size, 1, none⟩ = some (.slice A3 l3.length c3) := cell_at (B3.on q55).blk 1 _ rfl; have y4a : w55.cell? ⟨w11.heap.size, 0, none⟩ = some (.bool s4) := cell_at (B4.on q55).blk 0 _ rfl; have y4b : w55.cell? ⟨w11.heap.size, 1, none⟩ = some (.slice A4 l4.length c4) := cell_at (B4.on q55).blk 1 _ rfl; have y5a : w55.cell? ⟨w12.heap.size, 0, none⟩ = some (.bool s5) := cell_at (B5.on q55).blk 0 _ rfl; have y5b : w55.cell? ⟨w12.heap.size, 1, none⟩ = some (.slice A5 l5.length c5) := cell_at (B5.on q55).blk 1 _ rfl)
        | (go_at_call 23; have hmark := q53; refine (got_calls s4 A4 c4 l4 s53 A53 c53 l53 zs es w53 (B4.rd.on q53) r53 B4.cap n53 z4 z53).mono ?_; rintro e w54 ⟨rfl, b54⟩; clear y1a y1b y2a y2b y3a y3b y4a y4b y5a y5b; have q54 := q53.trans (b54.mono q53.size); have y1a : w54.cell? ⟨w.heap.size, 0, none⟩ = some (.bool s1) := cell_at (B1.on q54).blk 0 _ rfl; have y1b : w54.cell? ⟨w.heap.size, 1, none⟩ = some (.slice A1 l1.length c1) := cell_at (B1.on q54).blk 1 _ rfl; have y2a : w54.cell? ⟨w.heap.size + 1, 0, none⟩ = some (.bool s2) := cell_at (B2.on q54).blk 0 _ rfl; have y2b : w54.cell? ⟨w.heap.size + 1, 1, none⟩ = some (.slice A2 l2.length c2) := cell_at (B2.on q54).blk 1 _ rfl; have y3a : w54.cell? ⟨w10.heap.size, 0, none⟩ = some (.bool s3) := cell_at (B3.on q54).blk 0 _ rfl; have y3b : w54.cell? ⟨w10.heap.size, 1, none⟩ = some (.slice A3 l3.length c3) := cell_at (B3.on q54).blk 1 _ rfl; have y4a : w54.cell? ⟨w11.heap.size, 0, none⟩ = some (.bool s4) := cell_at (B4.on q54).blk 0 _ rfl; have y4b : w54.cell? ⟨w11.heap.size, 1, none⟩ = some (.slice A4 l4.length c4) := cell_at (B4.on q54).blk 1 _ rfl; have y5a : w54.cell? ⟨w12.heap.size, 0, none⟩ = some (.bool s5) := cell_at (B5.on q54).blk 0 _ rfl; have y5b : w54.cell? ⟨w12.heap.size, 1, none⟩ = some (.slice A5 l5.length c5) := cell_at (B5.on q54).blk 1 _ rfl)
        | (go_at_call 45; have hmark := q52; refine (R2 w52 (by12.trans (q52.mono by12.size))).mono ?_; rintro e w53 ⟨s53, A53, c53, l53, rfl, z53, n53, r53, b53⟩; clear y1a y1b y2a y2b y3a y3b y4a y4b y5a y5b; have q53 := q52.trans (b53.mono q52.size); have y1a : w53.cell? ⟨w.heap.size, 0, none⟩ = some (.bool s1) := cell_at (B1.on q53).blk 0 _ rfl; have y1b : w53.cell? ⟨w.heap.size, 1, none⟩ = some (.slice A1 l1.length c1) := cell_at (B1.on q53).blk 1 _ rfl; have y2a : w53.cell? ⟨w.heap.size + 1, 0, none⟩ = some (.bool s2) := cell_at (B2.on q53).blk 0 _ rfl; have y2b : w53.cell? ⟨w.heap.size + 1, 1, none⟩ = some (.slice A2 l2.length c2) := cell_at (B2.on q53).blk 1 _ rfl; have y3a : w53.cell? ⟨w10.heap.size, 0, none⟩ = some (.bool s3) := cell_at (B3.on q53).blk 0 _ rfl; have y3b : w53.cell? ⟨w10.heap.size, 1, none⟩ = some (.slice A3 l3.length c3) := cell_at (B3.on q53).blk 1 _ rfl; have y4a : w53.cell? ⟨w11.heap.size, 0, none⟩ = some (.bool s4) := cell_at (B4.on q53).blk 0 _ rfl; have y4b : w53.cell? ⟨w11.heap.size, 1, none⟩ = some (.slice A4 l4.length c4) := cell_at (B4.on q53).blk 1 _ rfl; have y5a : w53.cell? ⟨w12.heap.size, 0, none⟩ = some (.bool s5) := cell_at (B5.on q53).blk 0 _ rfl; have y5b : w53.cell? ⟨w12.heap.size, 1, none⟩ = some (.slice A5 l5.length c5) := cell_at (B5.on q53).blk 1 _ rfl)
        | (go_at_call 23; have hmark := q51; refine (got_calls s3 A3 c3 l3 s51 A51 c51 l51 za ea w51 (B3.rd.on q51) r51 B3.cap n51 z3 z51).mono ?_; rintro e w52 ⟨rfl, b52⟩; clear y1a y1b y2a y2b y3a y3b y4a y4b y5a y5b; have q52 := q51.trans (b52.mono q51.size); have y1a : w52.cell? ⟨w.heap.size, 0, none⟩ = some (.bool s1) := cell_at (B1.on q52).blk 0 _ rfl; have y1b : w52.cell? ⟨w.heap.size, 1, none⟩ = some (.slice A1 l1.length c1) := cell_at (B1.on q52).blk 1 _ rfl; have y2a : w52.cell? ⟨w.heap.size + 1, 0, none⟩ = some (.bool s2) := cell_at (B2.on q52).blk 0 _ rfl; have y2b : w52.cell? ⟨w.heap.size + 1, 1, none⟩ = some (.slice A2 l2.length c2) := cell_at (B2.on q52).blk 1 _ rfl; have y3a : w52.cell? ⟨w10.heap.size, 0, none⟩ = some (.bool s3) := cell_at (B3.on q52).blk 0 _ rfl; have y3b : w52.cell? ⟨w10.heap.size, 1, none⟩ = some (.slice A3 l3.length c3) := cell_at (B3.on q52).blk 1 _ rfl; have y4a : w52.cell? ⟨w11.heap.size, 0, none⟩ = some (.bool s4) := cell_at (B4.on q52).blk 0 _ rfl; have y4b : w52.cell? ⟨w11.heap.size, 1, none⟩ = some (.slice A4 l4.length c4) := cell_at (B4.on q52).blk 1 _ rfl; have y5a : w52.cell? ⟨w12.heap.size, 0, none⟩ = some (.bool s5) := cell_at (B5.on q52).blk 0 _ rfl; have y5b : w52.cell? ⟨w12.heap.size, 1, none⟩ = some (.slice A5 l5.length c5) := cell_at (B5.on q52).blk 1 _ rfl)
        | (go_at_call 44; have hmark := q50; refine (R1 w50 (by12.trans (q50.mono by12.size))).mono ?_; rintro e w51 ⟨s51, A51, c51, l51, rfl, z51, n51, r51, b51⟩; clear y1a y1b y2a y2b y3a y3b y4a y4b y5a y5b; have q51 := q50.trans (b51.mono q50.size); have y1a : w51.cell? ⟨w.heap.size, 0, none⟩ = some (.bool s1) := cell_at (B1.on q51).blk 0 _ rfl; have y1b : w51.cell? ⟨w.heap.size, 1, none⟩ = some (.slice A1 l1.length c1) := cell_at (B1.on q51).blk 1 _ rfl; have y2a : w51.cell? ⟨w.heap.size + 1, 0, none⟩ = some (.bool s2) := cell_at (B2.on q51).blk 0 _ rfl; have y2b : w51.cell? ⟨w.heap.size + 1, 1, none⟩ = some (.slice A2 l2.length c2) := cell_at (B2.on q51).blk 1 _ rfl; have y3a : w51.cell? ⟨w10.heap.size, 0, none⟩ = some (.bool s3) := cell_at (B3.on q51).blk 0 _ rfl; have y3b : w51.cell? ⟨w10.heap.size, 1, none⟩ = some (.slice A3 l3.length c3) := cell_at (B3.on q51).blk 1 _ rfl; have y4a : w51.cell? ⟨w11.heap.size, 0, none⟩ = some (.bool s4) := cell_at (B4.on q51).blk 0 _ rfl; have y4b : w51.cell? ⟨w11.heap.size, 1, none⟩ = some (.slice A4 l4.length c4) := cell_at (B4.on q51).blk 1 _ rfl; have y5a : w51.cell? ⟨w12.heap.size, 0, none⟩ = some (.bool s5) := cell_at (B5.on q51).blk 0 _ rfl; have y5b : w51.cell? ⟨w12.heap.size, 1, none⟩ = some (.slice A5 l5.length c5) := cell_at (B5.on q51).blk 1 _ rfl)
        | (go_at_call 17; refine (sane_calls _ (hdX.on (below_drew (Below.refl _ X)))).mono ?_; rintro e w50 ⟨rfl, b50⟩; clear y1a y1b y2a y2b y3a y3b y4a y4b y5a y5b; have q50 := (below_drew (Below.refl _ X)).trans b50; have y1a : w50.cell? ⟨w.heap.size, 0, none⟩ = some (.bool s1) := cell_at (B1.on q50).blk 0 _ rfl; have y1b : w50.cell? ⟨w.heap.size, 1, none⟩ = some (.slice A1 l1.length c1) := cell_at (B1.on q50).blk 1 _ rfl; have y2a : w50.cell? ⟨w.heap.size + 1, 0, none⟩ = some (.bool s2) := cell_at (B2.on q50).blk 0 _ rfl; have y2b : w50.cell? ⟨w.heap.size + 1, 1, none⟩ = some (.slice A2 l2.length c2) := cell_at (B2.on q50).blk 1 _ rfl; have y3a : w50.cell? ⟨w10.heap.size, 0, none⟩ = some (.bool s3) := cell_at (B3.on q50).blk 0 _ rfl; have y3b : w50.cell? ⟨w10.heap.size, 1, none⟩ = some (.slice A3 l3.length c3) := cell_at (B3.on q50).blk 1 _ rfl; have y4a : w50.cell? ⟨w11.heap.size, 0, none⟩ = some (.bool s4) := cell_at (B4.on q50).blk 0 _ rfl; have y4b : w50.cell? ⟨w11.heap.size, 1, none⟩ = some (.slice A4 l4.length c4) := cell_at (B4.on q50).blk 1 _ rfl; have y5a : w50.cell? ⟨w12.heap.size, 0, none⟩ = some (.bool s5) := cell_at (B5.on q50).blk 0 _ rfl; have y5b : w50.cell? ⟨w12.heap.size, 1, none⟩ = some (.slice A5 l5.length c5) := cell_at (B5.on q50).blk 1 _ rfl)))
    go_wp2_with fail
    go_ret
    exact ⟨rfl, (hbw.trans (by12.mono hbw.size)).trans (q56.mono (hbw.trans (by12.mono hbw.size)).size)⟩

end Nm
end Go.Proofs.YtlhmbbpkhahbeaaDoor
namespace Go.Proofs.YtlhmbbpkhahbeaaDoor
namespace Nm
open Go.ChangeShapes Go.WideShapes Go.ChangeAt Go.WideMaps Go.WideElems Go.RowKit

set_option maxRecDepth 100000 in
theorem numSums_lifted (os : Os) (started : os.Started) (H : Type) (enc : TypeId × Value → H) :
    ReturnsInHanded {} Tryd.checked os 10 .any (fun w args => (Rows.numSumsSpec.pre enc Tryd.prog Tryd.f10 [] false w args ∧ laidMetH Tryd.prog laidL w) ∧ sizedMet enc Tryd.prog Tryd.f10 (OpenSpec.ofChange Rows.numSumsSpec) false w args)
      (Rows.numSumsSpec.post enc Tryd.prog Tryd.f10 false true false false) := by
  refine returnsInHanded_of_change_and (C := Tryd.checked) (X := fun w _ => laidMetH Tryd.prog laidL w) (fun _ _ _ hh h => h.of_heap hh) own started (by kernel_rfl) Tryd.func10
    (ChangeSpec.witness_shaped (enc := enc) (C := Tryd.checked) (os := os) (X := fun w _ => laidMetH Tryd.prog laidL w) false (World.doorLaid Tryd.prog 14 os) #[.agg #[.bool false, .slice none 0 0], .agg #[.bool false, .slice none 0 0]] 8 rfl (World.shaped_of_RefB (by kernel_rfl) (by kernel_rfl)) (by kernel_rfl) (by kernel_rfl) (by kernel_rfl) (door_met os _)) ?_
  intro W base args ds gs before hval0 hW _ hsz0 hL _
  have hval : ∀ (j : Nat) t v, Tryd.f10.params[j]? = some t → args[j]? = some v → Value.okWide Tryd.prog W .any base t v := hval0
  have hsz : (DataW.weightsEach Tryd.prog (Tryd.f10.params.toList ++ Rows.numSumsSpec.plain.varTypes Tryd.prog) (ds ++ gs)).all (· ≤ reachBytes) = true := hsz0
  have hW' := hW
  obtain ⟨p, q, hA0, hV, rfl, hfz, hnd⟩ := hW
  have hA : DataW.TrodAll enc Tryd.prog W 0 (fun _ => true) true Tryd.f10.params.toList args.toList ds p := hA0
  rw [Tryd.params10] at hA hval hsz
  obtain ⟨v0, v1, d0, d1, p0, p1, rfl, rfl, rfl, h0, h1⟩ := trodAll_two hA
  obtain ⟨rfl, rfl⟩ := trodVars_none hV
  have hw0 : ∀ n ∈ d0.weights Tryd.prog 24, n ≤ reachBytes := fun n hn => by simpa using List.all_eq_true.1 hsz n (DataW.weights_mem_each (j := 0) rfl rfl n hn)
  obtain ⟨n1, A1, c1, l1, rfl, r1, k1⟩ := open_intZ (hval 0 _ v0 rfl rfl) h0 hw0
  have hw1 : ∀ n ∈ d1.weights Tryd.prog 24, n ≤ reachBytes := fun n hn => by simpa using List.all_eq_true.1 hsz n (DataW.weights_mem_each (j := 1) rfl rfl n hn)
  obtain ⟨n2, A2, c2, l2, rfl, r2, k2⟩ := open_intZ (hval 1 _ v1 rfl rfl) h1 hw1
  have hd := dig_of_laid hL
  clear hA0 hval0
  try simp only [List.append_nil] at hW'
  have hlt : ∀ x ∈ p0 ++ p1, x.block < W.heap.size := fun x hx => hW'.lt x (by simpa using hx)
  refine (NumSums_calls n1 n2 A1 A2 c1 c2 l1 l2 W r1 r2 k1 k2 hd).mono fun e W' ⟨he, hb⟩ => ?_
  subst he
  refine ⟨_, rfl, _, _, _, [], _, [], hW', trodAll_mk1 (shut_bool uBool true), trodAll_mk2 (Below.trod laidOut (by kernel_rfl) (of_decide_eq_true (by kernel_rfl)) h0 hb (fun x hx => hlt x (by simp [hx]))) (Below.trod laidOut (by kernel_rfl) (of_decide_eq_true (by kernel_rfl)) h1 hb (fun x hx => hlt x (by simp [hx]))), rfl, hb.frame _, fun h => by cases h⟩

theorem numSums_holds : Rows.NumSumsSaid :=
  OpenClaim.holds_of_wide 10 Tryd.f10 rfl rfl rfl rfl rfl rfl rfl ⟨rfl, rfl, rfl, rfl, rfl⟩ rfl rfl rfl rfl rfl (by kernel_rfl) Tryd.func10 (by kernel_rfl)
    (of_decide_eq_true (by kernel_rfl)) (by unfold Func.isWrapper; first | (rw [if_pos (by decide +kernel)]; kernel_rfl) | (rw [if_neg (by decide +kernel)]; exact ⟨rfl, rfl⟩))
    (fun os started H enc _ => numSums_lifted os started H enc)

theorem numSums_card : Rows.NumSumsCardSaid :=
  Claim7.holds_tied_plain_at .later [] [.data] true (true, "81631b405a98d3f071c31393904156c9da5fef14bbd5c556ce9417642a36c1bb") true
    numSums_holds (fun _ h => by cases h) (by kernel_rfl) (fun _ h => by cases h) numSums_row_tie rfl ⟨rfl, rfl⟩ (by kernel_rfl) rfl
    (fun f fn hf hfn => by
      obtain rfl : f = 10 := Option.some.inj ((show Tryd.prog.funcNamed "zermelo/zermelolaw01.NumSums" = some 10 by kernel_rfl).symm.trans hf) |>.symm
      obtain rfl : fn = Tryd.f10 := (Option.some.inj (Tryd.func10.symm.trans hfn)).symm
      exact ⟨by kernel_rfl, fun j t ht => by
        have hp := Tryd.params10
        rw [hp] at ht
        have hall : (Tryd.f10.params.toList.all fun u => !Tryd.prog.wantsStandIn u) = true := by kernel_rfl
        rw [hp] at hall
        have hm := Array.mem_toList_iff.2 (Array.mem_of_getElem? ht)
        exact (show Tryd.prog.wantsStandIn t = false by simpa using List.all_eq_true.1 hall t hm)⟩)
    (by kernel_rfl)

end Nm
end Go.Proofs.YtlhmbbpkhahbeaaDoor
