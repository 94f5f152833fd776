/-
  The specification's Times.
  Add, Sub, Mul of the specification.
  The specification's short.
  The specification's bit.
  The specification's Digits.
  The specification's power and above.
  The specification's above.
  The specification's split: arithmetic.
  The specification's made once more: the limbs lie in a new block.
  The specification's split.
  The specification's Divide.
  The specification's Div.
-/
import Derived.Test.YtlhmbbpkhahbeaaDoorNumMh6
namespace Go.Proofs.YtlhmbbpkhahbeaaDoor
namespace Nm
open Go.RowKit Go.Shelf Go.BigFrame
attribute [local go_sem] Oper.semAt_some

theorem underl_u32 : Tryd.prog.underlying 22 = some (.slice 72) := by kernel_rfl

theorem make_u32 (L C : Int) (n m : Nat) (hL : L = (n : Int)) (hC : C = (m : Int)) (hnm : n ≤ m) (hm : m ≤ 35184372088832) (W : World) :
    (Instr.makeSlice 22 (.int .i64 L) (.int .i64 C)).run Tryd.prog W = .ok (.slice (some ⟨W.heap.size, 0, none⟩) n m) (W.alloc (.cells (warr (List.replicate m 0)) 72)) := by
  obtain ⟨i0, hi, hz0, hz1, hz2⟩ := info_parts info_u32
  subst hL hC
  have := run_make (P := Tryd.prog) W 22 72 i0 _ underl_u32 hi hz0 .i64 .i64 (n : Int) (m : Int) (by omega) (by omega) (by rw [hz2]; omega) (by omega)
  rw [this, hz1]
  simp [Value.cells, warr_made]

set_option maxRecDepth 100000 in
set_option maxHeartbeats 8000000 in
theorem Times_calls (n1 n2 : Bool) (A1 A2 : Option Addr) (c1 c2 : Nat) (l1 l2 : List Nat) (w : World) (h1 : Rd w A1 l1) (h2 : Rd w A2 l2) (hc1 : l1.length ≤ c1) (hc2 : l2.length ≤ c2) (hs1 : l1.length ≤ 65536) (hs2 : l2.length ≤ 65536) :
    Calls Tryd.prog 30 #[iv n1 A1 l1.length c1, iv n2 A2 l2.length c2] w (RetZ (toZ n1 l1 * toZ n2 l2) w) := by
  obtain ⟨W3, hW3, hb3, B1, B2, hR, hsz⟩ := boxes3 w n1 n2 A1 A2 c1 c2 l1 l2 h1 h2 hc1 hc2 #[.bool false, .slice none 0 0] 24
  have Hsz := Lib.hid hsz
  obtain ⟨N, hN⟩ : ∃ N, l1.length + l2.length = N := ⟨_, rfl⟩
  have hNc : (l1.length : Int) + (l2.length : Int) = (N : Int) := by omega
  have hN2 : N ≤ 131072 := by omega
  have hmk := make_u32 (N : Int) (N : Int) N N rfl rfl (Nat.le_refl _) (by omega) W3
  rw [toZ_mul, show (n1 != n2) = !(n1 == n2) from rfl]
  have x0 := cell_at B1.blk 0 _ rfl
  have x1 := cell_at B1.blk 1 _ rfl
  have x2 := cell_at B2.blk 0 _ rfl
  have x3 := cell_at B2.blk 1 _ rfl
  have r1 := B1.rd
  have r2 := B2.rd
  obtain ⟨g, hg⟩ : ∃ g, W3.heap.size = g := ⟨_, rfl⟩
  have hgs : g = w.heap.size + 3 := by rw [← hg]; exact hsz
  clear hsz
  generalize hs' : (n1 == n2) = s
  have hfin : (if (!s) = true then -((val l1 * val l2 : Nat) : Int) else ((val l1 * val l2 : Nat) : Int)) = (if (!s) = true then -((val l1 * val l2 : Nat) : Int) else ((val l1 * val l2 : Nat) : Int)) := rfl
  generalize hz : (if (!s) = true then -((val l1 * val l2 : Nat) : Int) else ((val l1 * val l2 : Nat) : Int)) = z at *
  have Hz := Lib.hid hz
  have HN := Lib.hid hN
  clear hz hfin hN
  have har0 : Arr (W3.alloc (.cells (warr (List.replicate N 0)) 72)) (g) ([] ++ List.replicate (l1.length - 0) 0 ++ List.replicate l2.length 0) := by
    rw [← hg, List.nil_append, List.replicate_append_replicate, show l1.length - 0 + l2.length = N by have := HN.out; omega]
    exact arr_new W3 _
  have hb4 : Below W3.heap.size W3 (W3.alloc (.cells (warr (List.replicate N 0)) 72)) := (Below.refl _ _).alloc (Nat.le_refl _) _
  have Hgs := Lib.hid hg
  have hmade := fun W A c l (h : Rd W A l) (hc : l.length ≤ c) => made_calls (!s) A c l W h hc
  clear hgs
  go_enter Tryd.func30, Tryd.ntmps30
  go_wp2_with fail
  clear hW3 hmk x0 x1 x2 x3 hg
  generalize (W3.alloc (.cells (warr (List.replicate N 0)) 72)) = W4 at *
  go_loopw [6] (fun i W => ∃ (k : Nat) (lo : List Nat), i = .int .i64 (k : Int) ∧ k ≤ l1.length ∧ Hid (lo.length = k + l2.length) ∧ Words lo ∧ Arr W (g) (lo ++ List.replicate (l1.length - k) 0) ∧ Below W3.heap.size W3 W ∧ Hid (val lo = val (l1.take k) * val l2)) (fun i _ => l1.length - (intOf i).toNat)
  case atStart =>
    refine ⟨0, List.replicate l2.length 0, rfl, Nat.zero_le _, by show _ = _; simp, words_replicate _, ?_, hb4, by simp [Hid, val, val_replicate]⟩
    rw [List.nil_append, List.replicate_append_replicate] at har0
    rw [List.replicate_append_replicate, Nat.add_comm]
    exact har0
  case round =>
    obtain ⟨k, lo, rfl, hk, hlo, low, ar, hbl, hval⟩ := hrel
    clear har0 hb4
    have x0 := cell_at (B1.on hbl).blk 0 _ rfl
    have x1 := cell_at (B1.on hbl).blk 1 _ rfl
    have x2 := cell_at (B2.on hbl).blk 0 _ rfl
    have x3 := cell_at (B2.on hbl).blk 1 _ rfl
    by_cases hkl : k < l1.length
    · have p1 : ((k : Int) < (l1.length : Int)) ↔ True := by rw [iff_true]; omega
      obtain ⟨ba, oa, x, hA1, hcx, hx, hxb⟩ := r1.get k hkl
      subst hA1
      have hlt1 := World.block_lt_of_cell? W3 _ hcx
      go_wp2_with fail
      obtain ⟨pre, hpre⟩ : ∃ pre, lo.take k = pre := ⟨_, rfl⟩
      obtain ⟨seg, hseg⟩ : ∃ seg, lo.drop k = seg := ⟨_, rfl⟩
      have hlo2 : lo = pre ++ seg := by rw [← hpre, ← hseg, List.take_append_drop]
      have hprel : pre.length = k := by rw [← hpre, List.length_take]; have := hlo.out; omega
      have hsegl : seg.length = l2.length := by rw [← hseg, List.length_drop]; have := hlo.out; omega
      obtain ⟨post, hpost, hpost'⟩ : ∃ post, List.replicate (l1.length - k) 0 = 0 :: post ∧ post = List.replicate (l1.length - (k + 1)) 0 := ⟨List.replicate (l1.length - (k + 1)) 0, by rw [show l1.length - k = (l1.length - (k + 1)) + 1 by omega]; rfl, rfl⟩
      have ar5 : Arr wr (g) (pre ++ (([] : List Nat) ++ seg.drop 0) ++ (0 :: post)) := by
        rw [List.nil_append, List.drop_zero, ← hlo2, ← hpost]; exact ar
      have wseg : Words seg := by rw [← hseg]; exact words_drop low k
      have wpre : Words pre := by rw [← hpre]; exact words_take low k
      have hvlo : val lo = val pre + BB ^ k * val seg := by rw [hlo2, val_append, hprel]
      have Hpost := Lib.hid hpost'
      have Hprel := Lib.hid hprel
      have Hsegl := Lib.hid hsegl
      have Hvlo := Lib.hid hvlo
      have Hwr := Lib.hid hbl
      obtain ⟨W0, hW0⟩ : ∃ W0, W0 = wr := ⟨wr, rfl⟩
      subst hW0
      clear hpost' hprel hsegl hvlo hlo2 hpre hseg hpost ar x0 x1 x2 x3
      go_loopw [7, 8] (fun cv jv W => ∃ (j cy : Nat) (os : List Nat), jv = .int .i64 (j : Int) ∧ cv = .int .u64 (cy : Int) ∧ j ≤ l2.length ∧ cy < 4294967296 ∧ Hid (os.length = j) ∧ Words os ∧ Arr W (g) (pre ++ (os ++ seg.drop j) ++ (0 :: post)) ∧ Below W3.heap.size W3 W ∧ Hid (val os + BB ^ j * cy = val (seg.take j) + x * val (l2.take j))) (fun _ j _ => l2.length - (intOf j).toNat)
      case atStart => exact ⟨0, 0, [], rfl, rfl, Nat.zero_le _, by omega, rfl, words_nil, ar5, hbl, by simp [Hid, val]⟩
      case round =>
        obtain ⟨j, cy, os, rfl, rfl, hj, hcy, hol, how, ar, hblj, hv⟩ := hrel
        clear ar5
        have x0 := cell_at (B1.on hblj).blk 0 _ rfl
        have x1 := cell_at (B1.on hblj).blk 1 _ rfl
        have x2 := cell_at (B2.on hblj).blk 0 _ rfl
        have x3 := cell_at (B2.on hblj).blk 1 _ rfl
        by_cases hjl : j < l2.length
        · have p2 : ((j : Int) < (l2.length : Int)) ↔ True := by rw [iff_true]; omega
          obtain ⟨bc, oc, y, hA2, hcy2, hy, hyb⟩ := r2.get j hjl
          subst hA2
          have hlt2 := World.block_lt_of_cell? W3 _ hcy2
          have gx := (hblj.cell (p := ⟨ba, oa + k, none⟩) hlt1).trans hcx
          have gy := (hblj.cell (p := ⟨bc, oc + j, none⟩) hlt2).trans hcy2
          obtain ⟨u, hu, hub⟩ : ∃ y, Hid (seg.getD j 0 = y) ∧ y < 4294967296 := ⟨_, rfl, words_getD wseg j⟩
          have g4 := arr_cell ar (k + j) (by have := hol.out; have := Hsegl.out; have := Hprel.out; simp; omega)
          have hsg := seg_get pre os seg (0 :: post) j j hol.out (Nat.le_refl _) (by have := Hsegl.out; omega)
          rw [Hprel.out] at hsg
          rw [hsg, hu.out] at g4
          clear hsg
          have f4 := arr_frozen ar (k + j)
          have tg := arr_lt ar
          obtain ⟨p, hp, hp2, hp3⟩ : ∃ p : Nat, (x : Int) * (y : Int) = (p : Int) ∧ p ≤ 18446744065119617025 ∧ Hid (p = x * y) := ⟨x * y, (Int.natCast_mul x y).symm, mul_words hxb hyb, rfl⟩
          obtain ⟨t, ht, ht2, ht3'⟩ : ∃ t : Nat, (p : Int) + (u : Int) + (cy : Int) = (t : Int) ∧ t < 18446744073709551616 ∧ Hid (t = cy + (p + u)) := ⟨cy + (p + u), by omega, by omega, rfl⟩
          obtain ⟨z', z1, z2, z3⟩ : ∃ z : Nat, (t : Int) % 4294967296 = (z : Int) ∧ Hid (z = t % BB) ∧ z < 4294967296 := ⟨t % 4294967296, by omega, rfl, by omega⟩
          obtain ⟨hi, hi1, hi2, hi3⟩ : ∃ q : Nat, (t : Int) / 4294967296 = (q : Int) ∧ Hid (q = t / BB) ∧ q < 4294967296 := ⟨t / 4294967296, by omega, rfl, by omega⟩
          have hset := Lib.hid (seg_set pre os seg (0 :: post) j z' hol.out (by have := Hsegl.out; omega))
          have hkj : k + j < N := by have := HN.out; omega
          go_wp2_with fail
          go_quiet (fail)
          go_wp2_with fail
          refine ⟨⟨j + 1, hi, os ++ [z'], rfl, rfl, by omega, hi3, by show _ = _; rw [List.length_append, hol.out]; rfl, words_append.2 ⟨how, fun u hu => by simp at hu; rw [hu]; exact z3⟩, ?_, (below_drewN hblj _).setCell (by have := Hgs.out; dsimp only; omega) _, ?_⟩, by simp only [intOf]; omega⟩
          · have := hset.out
            rw [Hprel.out] at this
            rw [← this]
            exact arr_set (arr_drewN ar _) _ _
          · show val (os ++ [z']) + BB ^ (j + 1) * hi = val (seg.take (j + 1)) + x * val (l2.take (j + 1))
            rw [val_take_succ seg j u hu.out, val_take_succ l2 j y hy.out, val_snoc, hol.out, Nat.pow_succ, hi2.out, z2.out]
            exact long_step (by rw [ht3'.out, hp3.out]) hv.out
        · obtain rfl : j = l2.length := by omega
          have p2 : ((l2.length : Int) < (l2.length : Int)) ↔ False := by simp
          rw [List.drop_of_length_le (Nat.le_of_eq Hsegl.out), List.append_nil] at ar
          have hlen1 : (pre ++ os).length = k + l2.length := by rw [List.length_append, Hprel.out, hol.out]
          have g4 := arr_cell ar (k + l2.length) (by rw [List.length_append, hlen1]; simp)
          have hsg : (pre ++ os ++ (0 :: post)).getD (k + l2.length) 0 = 0 := by
            rw [List.getD_eq_getElem?_getD, List.getElem?_append_right (by omega), hlen1, Nat.sub_self]; rfl
          rw [hsg] at g4
          have f4 := arr_frozen ar (k + l2.length)
          have tg := arr_lt ar
          have hcy' : (cy : Int) % 4294967296 = (cy : Int) := by omega
          have hkj : k + l2.length < N := by have := HN.out; omega
          have Hlen1 := Lib.hid hlen1
          clear hsg hlen1 hjl
          go_wp2_with fail
          refine ⟨⟨k + 1, pre ++ os ++ [cy], rfl, by omega, ?_, words_append.2 ⟨words_append.2 ⟨wpre, how⟩, fun u hu => by simp at hu; rw [hu]; exact hcy⟩, ?_, hblj.setCell (by have := Hgs.out; dsimp only; omega) _, ?_⟩, by simp only [intOf]; omega⟩
          · show (pre ++ os ++ [cy]).length = k + 1 + l2.length
            rw [List.length_append, Hlen1.out]; simp; omega
          · have e : (pre ++ os ++ (0 :: post)).set (k + l2.length) cy = pre ++ os ++ [cy] ++ List.replicate (l1.length - (k + 1)) 0 := by
              rw [List.set_append_right _ _ (by have := Hlen1.out; omega), Hlen1.out, Nat.sub_self, List.set_cons_zero, ← Hpost.out]
              simp
            rw [← e]
            exact arr_set ar (k + l2.length) cy
          · show val (pre ++ os ++ [cy]) = val (l1.take (k + 1)) * val l2
            have h := hv.out
            rw [List.take_of_length_le (Nat.le_of_eq Hsegl.out), List.take_of_length_le (Nat.le_refl l2.length)] at h
            rw [val_take_succ l1 k x hx.out, List.append_assoc, val_append, Hprel.out, val_snoc, hol.out, h, Nat.add_mul, Nat.mul_add, ← hval.out, Hvlo.out, Nat.mul_assoc, Nat.add_assoc]
    · obtain rfl : k = l1.length := by omega
      have p1 : ((l1.length : Int) < (l1.length : Int)) ↔ False := by simp
      rw [Nat.sub_self, List.replicate_zero, List.append_nil] at ar
      have hlen : lo.length = N := by rw [hlo.out, HN.out]
      have hrd := arr_rd ar low (by omega)
      have hv' : val lo = val l1 * val l2 := by
        have := hval.out
        rwa [List.take_of_length_le (Nat.le_refl _)] at this
      have hmd := hmade wr (some ⟨g, 0, none⟩) N lo hrd (by omega)
      rw [hlen, hv', Hz.out] at hmd
      clear hv' hval hlen hkl
      go_wp2_with (go_at_call 70; refine hmd.mono ?_; rintro e w5 ⟨s5, A5, c5, l5, rfl, z5, n5, r5, b5⟩; have bb5 := hbl.trans (b5.mono hbl.size); have hq5 := hR.on bb5; have z0 := cell_at hq5.h 0 _ rfl; have z1 := cell_at hq5.h 1 _ rfl; have u0 := frozen_at hq5.h 0; have u1 := frozen_at hq5.h 1)
      exact ret_cell rfl rfl rfl (set_blk (set_blk hq5.h 0 _) 1 _) ⟨s5, A5, c5, l5, rfl, z5, n5, rd_sets r5 hq5 _ _, ((hb3.trans (bb5.mono hb3.size)).setCell (by dsimp only; omega) _).setCell (by dsimp only; omega) _⟩

end Nm
end Go.Proofs.YtlhmbbpkhahbeaaDoor
namespace Go.Proofs.YtlhmbbpkhahbeaaDoor
namespace Nm
open Go.RowKit Go.Shelf Go.BigFrame
attribute [local go_sem] Oper.semAt_some

set_option maxRecDepth 100000 in
set_option maxHeartbeats 4000000 in
theorem RAdd_calls (n1 n2 : Bool) (A1 A2 : Option Addr) (c1 c2 : Nat) (l1 l2 : List Nat) (w : World) (h1 : Rd w A1 l1) (h2 : Rd w A2 l2) (hc1 : l1.length ≤ c1) (hc2 : l2.length ≤ c2) :
    Calls Tryd.prog 44 #[iv n1 A1 l1.length c1, iv n2 A2 l2.length c2] w (RetGot (addR n1 l1 n2 l2).1 (addR n1 l1 n2 l2).2 w) := by
  obtain ⟨W3, hW3, hb3, B1, B2, hR, hsz⟩ := boxes3 w n1 n2 A1 A2 c1 c2 l1 l2 h1 h2 hc1 hc2 #[.bool false, .slice none 0 0, .int .i64 0] 41
  have hbo := both_calls n1 n2 A1 A2 c1 c2 l1 l2 W3 B1.rd B2.rd hc1 hc2
  have d1 : ¬ w.heap.size = w.heap.size + 1 + 1 := by omega
  have d2 : ¬ w.heap.size + 1 = w.heap.size + 1 + 1 := by omega
  have d3 : ¬ w.heap.size + 1 + 1 = w.heap.size := by omega
  have d4 : ¬ w.heap.size + 1 + 1 = w.heap.size + 1 := by omega
  have x0 := cell_at B1.blk 0 _ rfl
  have x1 := cell_at B1.blk 1 _ rfl
  have x2 := cell_at B2.blk 0 _ rfl
  have x3 := cell_at B2.blk 1 _ rfl
  unfold addR
  by_cases hok : (okI n1 l1 && okI n2 l2) = true
  · rw [if_pos hok]
    rw [hok] at hbo
    rw [Bool.and_eq_true] at hok
    have k1 := okI_isInt h1.words hok.1
    have k2 := okI_isInt h2.words hok.2
    have q1 := k1.isZ
    have q2 := k2.isZ
    have s1 := k1.small
    have s2 := k2.small
    have hf := fun W (hW : Below W3.heap.size W3 W) => Sum_calls n1 n2 A1 A2 c1 c2 l1 l2 _ _ W (B1.rd.on hW) (B2.rd.on hW) hc1 hc2 q1 q2 (by omega) (by omega)
    clear hok
    go_enter Tryd.func44, Tryd.ntmps44
    go_wp2_with first
      | (go_at_call 61; refine hbo.mono ?_; rintro e w4 ⟨rfl, b4⟩; have i0 := cell_at (B1.on b4).blk 0 _ rfl; have i1 := cell_at (B1.on b4).blk 1 _ rfl; have i2 := cell_at (B2.on b4).blk 0 _ rfl; have i3 := cell_at (B2.on b4).blk 1 _ rfl)
      | (go_at_call 29; refine (hf _ b4).mono ?_; rintro e w5 ⟨s5, A5, c5, l5, rfl, z5, n5, r5, b5⟩; have bb5 := b4.trans (b5.mono b4.size))
      | (go_at_call 75; refine (fit_calls s5 A5 c5 l5 _ _ r5 n5 z5).mono ?_; rintro e w6 ⟨s6, A6, c6, l6, rfl, z6, n6, r6, b6⟩; have bb6 := bb5.trans (b6.mono bb5.size); have rq := hR.on bb6; have rz0 := cell_at rq.h 0 _ rfl; have rz1 := cell_at rq.h 1 _ rfl; have rz2 := cell_at rq.h 2 _ rfl; have ru0 := frozen_at rq.h 0; have ru1 := frozen_at rq.h 1; have ru2 := frozen_at rq.h 2)
    have hne := r6.ne rq.h (by intro i x h; rcases i with _ | _ | _ | i <;> simp at h)
    exact ret_cellT rfl Tryd.underlying41 got_size rfl rfl (set3 rq.h _ _ _) rfl ⟨s6, A6, c6, l6, rfl, z6, n6, ((r6.setNe hne).setNe hne).setNe hne, (((hb3.trans (bb6.mono hb3.size)).setCell (by dsimp only; omega) _).setCell (by dsimp only; omega) _).setCell (by dsimp only; omega) _⟩
  · rw [if_neg hok]
    rw [show (okI n1 l1 && okI n2 l2) = false by simpa using hok] at hbo
    clear hok
    go_enter Tryd.func44, Tryd.ntmps44
    go_wp2_with (go_at_call 61; refine hbo.mono ?_; rintro e w4 ⟨rfl, b4⟩; have rq := hR.on b4; have rz0 := cell_at rq.h 0 _ rfl; have rz1 := cell_at rq.h 1 _ rfl; have rz2 := cell_at rq.h 2 _ rfl; have ru0 := frozen_at rq.h 0; have ru1 := frozen_at rq.h 1; have ru2 := frozen_at rq.h 2)
    exact ret_cellT rfl Tryd.underlying41 got_size rfl rfl (set3 rq.h _ _ _) rfl ⟨false, none, 0, [], rfl, isZ_zero, Nat.le_refl _, Rd.nil _ _, (((hb3.trans (b4.mono hb3.size)).setCell (by dsimp only; omega) _).setCell (by dsimp only; omega) _).setCell (by dsimp only; omega) _⟩

set_option maxRecDepth 100000 in
set_option maxHeartbeats 4000000 in
theorem RMul_calls (n1 n2 : Bool) (A1 A2 : Option Addr) (c1 c2 : Nat) (l1 l2 : List Nat) (w : World) (h1 : Rd w A1 l1) (h2 : Rd w A2 l2) (hc1 : l1.length ≤ c1) (hc2 : l2.length ≤ c2) :
    Calls Tryd.prog 46 #[iv n1 A1 l1.length c1, iv n2 A2 l2.length c2] w (RetGot (mulR n1 l1 n2 l2).1 (mulR n1 l1 n2 l2).2 w) := by
  obtain ⟨W3, hW3, hb3, B1, B2, hR, hsz⟩ := boxes3 w n1 n2 A1 A2 c1 c2 l1 l2 h1 h2 hc1 hc2 #[.bool false, .slice none 0 0, .int .i64 0] 41
  have hbo := both_calls n1 n2 A1 A2 c1 c2 l1 l2 W3 B1.rd B2.rd hc1 hc2
  have d1 : ¬ w.heap.size = w.heap.size + 1 + 1 := by omega
  have d2 : ¬ w.heap.size + 1 = w.heap.size + 1 + 1 := by omega
  have d3 : ¬ w.heap.size + 1 + 1 = w.heap.size := by omega
  have d4 : ¬ w.heap.size + 1 + 1 = w.heap.size + 1 := by omega
  have x0 := cell_at B1.blk 0 _ rfl
  have x1 := cell_at B1.blk 1 _ rfl
  have x2 := cell_at B2.blk 0 _ rfl
  have x3 := cell_at B2.blk 1 _ rfl
  unfold mulR
  by_cases hok : (okI n1 l1 && okI n2 l2) = true
  · rw [if_pos hok]
    rw [hok] at hbo
    rw [Bool.and_eq_true] at hok
    have k1 := okI_isInt h1.words hok.1
    have k2 := okI_isInt h2.words hok.2
    have q1 := k1.isZ
    have q2 := k2.isZ
    have s1 := k1.small
    have s2 := k2.small
    have hf := fun W (hW : Below W3.heap.size W3 W) => Times_calls n1 n2 A1 A2 c1 c2 l1 l2 W (B1.rd.on hW) (B2.rd.on hW) hc1 hc2 (by omega) (by omega)
    clear hok
    go_enter Tryd.func46, Tryd.ntmps46
    go_wp2_with first
      | (go_at_call 61; refine hbo.mono ?_; rintro e w4 ⟨rfl, b4⟩; have i0 := cell_at (B1.on b4).blk 0 _ rfl; have i1 := cell_at (B1.on b4).blk 1 _ rfl; have i2 := cell_at (B2.on b4).blk 0 _ rfl; have i3 := cell_at (B2.on b4).blk 1 _ rfl)
      | (go_at_call 30; refine (hf _ b4).mono ?_; rintro e w5 ⟨s5, A5, c5, l5, rfl, z5, n5, r5, b5⟩; have bb5 := b4.trans (b5.mono b4.size))
      | (go_at_call 75; refine (fit_calls s5 A5 c5 l5 _ _ r5 n5 z5).mono ?_; rintro e w6 ⟨s6, A6, c6, l6, rfl, z6, n6, r6, b6⟩; have bb6 := bb5.trans (b6.mono bb5.size); have rq := hR.on bb6; have rz0 := cell_at rq.h 0 _ rfl; have rz1 := cell_at rq.h 1 _ rfl; have rz2 := cell_at rq.h 2 _ rfl; have ru0 := frozen_at rq.h 0; have ru1 := frozen_at rq.h 1; have ru2 := frozen_at rq.h 2)
    have hne := r6.ne rq.h (by intro i x h; rcases i with _ | _ | _ | i <;> simp at h)
    exact ret_cellT rfl Tryd.underlying41 got_size rfl rfl (set3 rq.h _ _ _) rfl ⟨s6, A6, c6, l6, rfl, z6, n6, ((r6.setNe hne).setNe hne).setNe hne, (((hb3.trans (bb6.mono hb3.size)).setCell (by dsimp only; omega) _).setCell (by dsimp only; omega) _).setCell (by dsimp only; omega) _⟩
  · rw [if_neg hok]
    rw [show (okI n1 l1 && okI n2 l2) = false by simpa using hok] at hbo
    clear hok
    go_enter Tryd.func46, Tryd.ntmps46
    go_wp2_with (go_at_call 61; refine hbo.mono ?_; rintro e w4 ⟨rfl, b4⟩; have rq := hR.on b4; have rz0 := cell_at rq.h 0 _ rfl; have rz1 := cell_at rq.h 1 _ rfl; have rz2 := cell_at rq.h 2 _ rfl; have ru0 := frozen_at rq.h 0; have ru1 := frozen_at rq.h 1; have ru2 := frozen_at rq.h 2)
    exact ret_cellT rfl Tryd.underlying41 got_size rfl rfl (set3 rq.h _ _ _) rfl ⟨false, none, 0, [], rfl, isZ_zero, Nat.le_refl _, Rd.nil _ _, (((hb3.trans (b4.mono hb3.size)).setCell (by dsimp only; omega) _).setCell (by dsimp only; omega) _).setCell (by dsimp only; omega) _⟩

set_option maxRecDepth 100000 in
set_option maxHeartbeats 4000000 in
theorem RSub_calls (n1 n2 : Bool) (A1 A2 : Option Addr) (c1 c2 : Nat) (l1 l2 : List Nat) (w : World) (h1 : Rd w A1 l1) (h2 : Rd w A2 l2) (hc1 : l1.length ≤ c1) (hc2 : l2.length ≤ c2) :
    Calls Tryd.prog 45 #[iv n1 A1 l1.length c1, iv n2 A2 l2.length c2] w (RetGot (subR n1 l1 n2 l2).1 (subR n1 l1 n2 l2).2 w) := by
  obtain ⟨W3, hW3, hb3, B1, B2, hR, hsz⟩ := boxes3 w n1 n2 A1 A2 c1 c2 l1 l2 h1 h2 hc1 hc2 #[.bool false, .slice none 0 0, .int .i64 0] 41
  have hbo := both_calls n1 n2 A1 A2 c1 c2 l1 l2 W3 B1.rd B2.rd hc1 hc2
  have d1 : ¬ w.heap.size = w.heap.size + 1 + 1 := by omega
  have d2 : ¬ w.heap.size + 1 = w.heap.size + 1 + 1 := by omega
  have d3 : ¬ w.heap.size + 1 + 1 = w.heap.size := by omega
  have d4 : ¬ w.heap.size + 1 + 1 = w.heap.size + 1 := by omega
  have x0 := cell_at B1.blk 0 _ rfl
  have x1 := cell_at B1.blk 1 _ rfl
  have x2 := cell_at B2.blk 0 _ rfl
  have x3 := cell_at B2.blk 1 _ rfl
  unfold subR
  by_cases hok : (okI n1 l1 && okI n2 l2) = true
  · rw [if_pos hok]
    rw [hok] at hbo
    rw [Bool.and_eq_true] at hok
    have k1 := okI_isInt h1.words hok.1
    have k2 := okI_isInt h2.words hok.2
    have q1 := k1.isZ
    have q2 := k2.isZ
    have s1 := k1.small
    have s2 := k2.small
    have hmn := fun W (hW : Below W3.heap.size W3 W) => Minus_calls n2 A2 c2 l2 _ W (B2.rd.on hW) hc2 q2
    have hf := fun W (hW : Below W3.heap.size W3 W) s A c l hr hc (q : IsZ s l (-toZ n2 l2)) (hl : l.length = l2.length) => Sum_calls n1 s A1 A c1 c l1 l _ _ W (B1.rd.on hW) hr hc1 hc q1 q (by omega) (by omega)
    rw [Int.sub_eq_add_neg]
    clear hok
    go_enter Tryd.func45, Tryd.ntmps45
    go_wp2_with (go_at_call 61; refine hbo.mono ?_; rintro e w4 ⟨rfl, b4⟩; have i0 := cell_at (B1.on b4).blk 0 _ rfl; have i1 := cell_at (B1.on b4).blk 1 _ rfl; have i2 := cell_at (B2.on b4).blk 0 _ rfl; have i3 := cell_at (B2.on b4).blk 1 _ rfl)
    clear hW3
    go_region_held3 (fun w'' => w''.cell? ⟨w.heap.size, 0, none⟩ = some (.bool n1) ∧ w''.cell? ⟨w.heap.size, 1, none⟩ = some (.slice A1 l1.length c1) ∧ w''.cell? ⟨w.heap.size + 1, 0, none⟩ = some (.bool n2) ∧ w''.cell? ⟨w.heap.size + 1, 1, none⟩ = some (.slice A2 l2.length c2)) ((first | assumption | go_keep))
      ((first
        | (go_at_call 38; refine (hmn _ (below_drew b4)).mono ?_; rintro e w7 ⟨s7, A7, c7, l7, rfl, z7, n7, r7, b7⟩; have L7 := Lib.hid (show l7.length = l2.length from congrArg List.length (z7.abs.trans ((congrArg lim (Int.natAbs_neg _)).trans q2.abs.symm))); have bb7 := b4.trans ((below_drew (Below.refl _ w4)).trans b7 |>.mono b4.size); have k0 := cell_at (B1.on bb7).blk 0 _ rfl; have k1 := cell_at (B1.on bb7).blk 1 _ rfl; have k2 := cell_at (B2.on bb7).blk 0 _ rfl; have k3 := cell_at (B2.on bb7).blk 1 _ rfl)
        | (go_at_call 29; refine (hf _ bb7 s7 A7 c7 l7 r7 n7 z7 L7.out).mono ?_; rintro e w5 ⟨s5, A5, c5, l5, rfl, z5, n5, r5, b5⟩; have bb5 := bb7.trans (b5.mono bb7.size); have m0 := cell_at (B1.on bb5).blk 0 _ rfl; have m1 := cell_at (B1.on bb5).blk 1 _ rfl; have m2 := cell_at (B2.on bb5).blk 0 _ rfl; have m3 := cell_at (B2.on bb5).blk 1 _ rfl)
        | (go_at_call 75; refine (fit_calls s5 A5 c5 l5 _ _ r5 n5 z5).mono ?_; rintro e w6 ⟨s6, A6, c6, l6, rfl, z6, n6, r6, b6⟩; have bb6 := bb5.trans (b6.mono bb5.size); have p0 := cell_at (B1.on bb6).blk 0 _ rfl; have p1 := cell_at (B1.on bb6).blk 1 _ rfl; have p2 := cell_at (B2.on bb6).blk 0 _ rfl; have p3 := cell_at (B2.on bb6).blk 1 _ rfl; have rq := hR.on bb6; have rz0 := cell_at rq.h 0 _ rfl; have rz1 := cell_at rq.h 1 _ rfl; have rz2 := cell_at rq.h 2 _ rfl; have ru0 := frozen_at rq.h 0; have ru1 := frozen_at rq.h 1; have ru2 := frozen_at rq.h 2)))
    go_wp2_with fail
    have hne := r6.ne rq.h (by intro i x h; rcases i with _ | _ | _ | i <;> simp at h)
    exact ret_cellT rfl Tryd.underlying41 got_size rfl rfl (set3 rq.h _ _ _) rfl ⟨s6, A6, c6, l6, rfl, z6, n6, ((r6.setNe hne).setNe hne).setNe hne, (((hb3.trans (bb6.mono hb3.size)).setCell (by dsimp only; omega) _).setCell (by dsimp only; omega) _).setCell (by dsimp only; omega) _⟩
  · rw [if_neg hok]
    rw [show (okI n1 l1 && okI n2 l2) = false by simpa using hok] at hbo
    clear hok
    go_enter Tryd.func45, Tryd.ntmps45
    go_wp2_with (go_at_call 61; refine hbo.mono ?_; rintro e w4 ⟨rfl, b4⟩; have rq := hR.on b4; have rz0 := cell_at rq.h 0 _ rfl; have rz1 := cell_at rq.h 1 _ rfl; have rz2 := cell_at rq.h 2 _ rfl; have ru0 := frozen_at rq.h 0; have ru1 := frozen_at rq.h 1; have ru2 := frozen_at rq.h 2)
    exact ret_cellT rfl Tryd.underlying41 got_size rfl rfl (set3 rq.h _ _ _) rfl ⟨false, none, 0, [], rfl, isZ_zero, Nat.le_refl _, Rd.nil _ _, (((hb3.trans (b4.mono hb3.size)).setCell (by dsimp only; omega) _).setCell (by dsimp only; omega) _).setCell (by dsimp only; omega) _⟩

end Nm
end Go.Proofs.YtlhmbbpkhahbeaaDoor
namespace Go.Proofs.YtlhmbbpkhahbeaaDoor
namespace Nm
open Go.RowKit Go.Shelf Go.BigFrame
attribute [local go_sem] Oper.semAt_some

theorem parts_size : (Tryd.prog.info? 32).map (·.size) = some 4 := by kernel_rfl

set_option maxRecDepth 100000 in
set_option maxHeartbeats 4000000 in
theorem short_calls (A : Option Addr) (c b : Nat) (l : List Nat) (w : World) (h1 : Rd w A l) (_hc1 : l.length ≤ c) (hb0 : 0 < b) (hb : b < 4294967296) (hsm : l.length ≤ 1048576) :
    Calls Tryd.prog 85 #[.slice A l.length c, .int .u32 (b : Int)] w (RetQR ((val l / b : Nat) : Int) ((val l % b : Nat) : Int) w) := by
  have hs1 := h1.small
  obtain ⟨W1, hW1⟩ : ∃ W1, w.alloc (.cells #[.bool false, .slice none 0 0, .bool false, .slice none 0 0] 32) = W1 := ⟨_, rfl⟩
  have hb1 : Below w.heap.size w W1 := by rw [← hW1]; exact (Below.refl _ w).alloc (Nat.le_refl _) _
  have hR : Blk W1 w.heap.size #[.bool false, .slice none 0 0, .bool false, .slice none 0 0] 32 := ⟨by rw [← hW1]; exact World.alloc_heap_new w _⟩
  have hmk := make_u32 (l.length : Int) (l.length : Int) l.length l.length rfl rfl (by omega) (by omega) W1
  obtain ⟨g, hg⟩ : ∃ g, W1.heap.size = g := ⟨_, rfl⟩
  have hgs : g = w.heap.size + 1 := by rw [← hg, ← hW1]; simp
  have Hgs := Lib.hid hgs
  have Hg := Lib.hid hg
  have r1 := h1.on hb1
  obtain ⟨Q, hQ⟩ : ∃ Q, val l / b = Q := ⟨_, rfl⟩
  obtain ⟨R, hRr⟩ : ∃ R, val l % b = R := ⟨_, rfl⟩
  have HQ := Lib.hid hQ
  have HR := Lib.hid hRr
  rw [hQ, hRr]
  clear hgs hQ hRr
  have hb4 : Below W1.heap.size W1 (W1.alloc (.cells (warr (List.replicate l.length 0)) 72)) := (Below.refl _ _).alloc (Nat.le_refl _) _
  have har : Arr (W1.alloc (.cells (warr (List.replicate l.length 0)) 72)) g (List.replicate l.length 0) := by rw [← hg]; exact arr_new _ _
  go_enter Tryd.func85, Tryd.ntmps85
  go_wp2_with fail
  clear hW1 hmk hg
  generalize (W1.alloc (.cells (warr (List.replicate l.length 0)) 72)) = W2 at *
  go_loopw [6, 7] (fun r i W => ∃ (k rest : Nat) (qs : List Nat), k ≤ l.length ∧ rest < b ∧ r = .int .u64 (rest : Int) ∧ i = .int .i64 ((k : Int) - 1) ∧ Hid (qs.length + k = l.length) ∧ Words qs ∧ Arr W g (List.replicate k 0 ++ qs) ∧ Below W1.heap.size W1 W ∧ Hid (val (l.drop k) = b * val qs + rest)) (fun _ i _ => (intOf i + 1).toNat)
  case atStart => exact ⟨l.length, 0, [], Nat.le_refl _, hb0, rfl, rfl, Nat.zero_add _, words_nil, by rw [List.append_nil]; exact har, hb4, by simp [Hid, val]⟩
  case round =>
    clear har hb4
    obtain ⟨k, rest, qs, hk, hrb, rfl, rfl, hql, hqw, harr, hbl, hval⟩ := hrel
    by_cases h0 : 0 < k
    · obtain ⟨k, rfl⟩ : ∃ j, k = j + 1 := ⟨k - 1, by omega⟩
      obtain ⟨bb, o, x, rfl, hcx, hx, hxb⟩ := r1.get k (by omega)
      have hbb := World.block_lt_of_cell? W1 _ hcx
      replace hcx := (hbl.cell (p := ⟨bb, o + k, none⟩) hbb).trans hcx
      obtain ⟨u, g4⟩ : ∃ u : Nat, wr.cell? ⟨g, k, none⟩ = some (.int .u32 (u : Int)) := ⟨_, arr_cell harr k (by simp; omega)⟩
      have f4 := arr_frozen harr k
      rw [show ((k + 1 : Nat) : Int) - 1 = (k : Int) by omega]
      clear h0
      obtain ⟨p, hp, hp2⟩ : ∃ p : Nat, (rest : Int) * 4294967296 = (p : Int) ∧ Hid (p = rest * 4294967296) := ⟨rest * 4294967296, by omega, rfl⟩
      have hpl : p < 18446744069414584321 := by have := hp2.out; omega
      obtain ⟨t, t1, t2, t3⟩ : ∃ t : Nat, (p : Int) + (x : Int) = (t : Int) ∧ Hid (t = rest * BB + x) ∧ t < 18446744073709551616 := ⟨p + x, by omega, by rw [hp2.out]; rfl, by omega⟩
      obtain ⟨z, z1, z2, z3⟩ : ∃ z : Nat, (t : Int) / (b : Int) = (z : Int) ∧ Hid (z = (rest * BB + x) / b) ∧ z < 4294967296 := ⟨t / b, by simp, by rw [← t2.out]; rfl, by rw [t2.out]; exact small_bound hrb hxb⟩
      obtain ⟨r, rr1, r2, r3⟩ : ∃ r : Nat, (t : Int) % (b : Int) = (r : Int) ∧ Hid (r = (rest * BB + x) % b) ∧ r < b := ⟨t % b, by simp, by rw [← t2.out]; rfl, Nat.mod_lt _ hb0⟩
      go_wp2_with fail
      rw [rr1]
      refine ⟨⟨k, r, z :: qs, by omega, r3, rfl, rfl, by have := hql.out; show (z :: qs).length + k = l.length; simp; omega, words_cons.2 ⟨z3, hqw⟩, ?_, hbl.setCell (by have := Hg.out; dsimp only; omega) _, small_step (by omega) hx.out hval.out z2.out r2.out⟩, by simp [intOf]⟩
      rw [← set_front]
      exact arr_set harr k z
    · obtain rfl : k = 0 := by omega
      have hlen : qs.length = l.length := by have := hql.out; omega
      have hrd := arr_rd (by simpa using harr : Arr wr g qs) hqw (by omega)
      have hv : val l = b * val qs + rest := by have := hval.out; rwa [List.drop_zero] at this
      have hq : val qs = Q := by rw [← HQ.out, hv, Nat.add_comm, Nat.add_mul_div_left _ _ hb0, Nat.div_eq_of_lt hrb, Nat.zero_add]
      have hr : rest = R := by rw [← HR.out, hv, Nat.mul_add_mod, Nat.mod_eq_of_lt hrb]
      have hm1 := made_calls false (some ⟨g, 0, none⟩) l.length qs wr hrd (by omega)
      rw [hq, hlen] at hm1
      simp only [Bool.false_eq_true, if_false] at hm1
      have hrest : rest < 4294967296 := by omega
      have hm2 : ∀ W ad, Rd W (some ad) [rest] → Calls Tryd.prog 70 #[.bool false, .slice (some ad) 1 1] W (RetZ (R : Int) W) := fun W ad h => by
        have := made_calls false (some ad) 1 [rest] W h (Nat.le_refl _)
        rwa [show val [rest] = R from by rw [← hr]; show rest + 4294967296 * 0 = rest; omega, if_neg (by decide)] at this
      have hwd : Words [rest] := words_cons.2 ⟨hrest, words_nil⟩
      clear hval hv hq hlen harr hr h0
      go_wp2_with first
        | (go_at_call 70; have hmark := mk1; refine (hm2 _ _ (arr_rd (arr_new w3 [rest]) hwd (by simp))).mono ?_; rintro e w5 ⟨s5, A5, c5, l5, rfl, z5, n5, f5, b5⟩; have b34 := ((Below.refl _ w3).alloc (Nat.le_refl _) (.cells (warr [rest]) 72)).trans (b5.mono (by simp)); have bb5 := (hbl.trans (b3.mono hbl.size)).trans (b34.mono (Nat.le_trans hbl.size b3.size)); have f3' := f3.on b34; have hq5 := hR.on bb5; have e0 := cell_at hq5.h 0 _ rfl; have e1 := cell_at hq5.h 1 _ rfl; have e2 := cell_at hq5.h 2 _ rfl; have e3 := cell_at hq5.h 3 _ rfl; have u0 := frozen_at hq5.h 0; have u1 := frozen_at hq5.h 1; have u2 := frozen_at hq5.h 2; have u3 := frozen_at hq5.h 3)
        | (go_at_call 70; refine hm1.mono ?_; rintro e w3 ⟨s3, A3, c3, l3, rfl, z3, n3, f3, b3⟩; have mk1 : True := trivial)
      have nw1 := f3'.ne hq5.h (by intro i x h; rcases i with _ | _ | _ | _ | i <;> simp at h)
      have nw2 := f5.ne hq5.h (by intro i x h; rcases i with _ | _ | _ | _ | i <;> simp at h)
      have bw := hb1.trans (bb5.mono hb1.size)
      exact ret_cellS rfl Tryd.underlying32 parts_size rfl rfl (set4 hq5.h _ _ _ _) rfl ⟨s3, A3, c3, l3, s5, A5, c5, l5, rfl, z3, z5, n3, n5, (((f3'.setNe nw1).setNe nw1).setNe nw1).setNe nw1, (((f5.setNe nw2).setNe nw2).setNe nw2).setNe nw2, (((bw.setCell (Nat.le_refl _) _).setCell (Nat.le_refl _) _).setCell (Nat.le_refl _) _).setCell (Nat.le_refl _) _⟩

end Nm
end Go.Proofs.YtlhmbbpkhahbeaaDoor
namespace Go.Proofs.YtlhmbbpkhahbeaaDoor
namespace Nm
open Go.RowKit Go.Shelf Go.BigFrame
attribute [local go_sem] Oper.semAt_some

theorem val_div_pow {l : List Nat} (hw : Words l) : ∀ j, val l / BB ^ j = val (l.drop j) := by
  intro j
  induction j generalizing l with
  | zero => simp
  | succ j ih =>
    cases l with
    | nil => simp [val]
    | cons x t =>
      have hx := (words_cons.1 hw).1
      have ht := (words_cons.1 hw).2
      rw [List.drop_succ_cons, ← ih ht, Nat.pow_succ, Nat.mul_comm, ← Nat.div_div_eq_div_mul]
      congr 1
      show (x + BB * val t) / BB = val t
      rw [Nat.add_mul_div_left _ _ (by decide), Nat.div_eq_of_lt hx, Nat.zero_add]

theorem bit_of {l : List Nat} (hw : Words l) {at_ j i x : Nat} (hj : j = at_ / 32) (hi : i = at_ % 32) (hx : l.getD j 0 = x) (hjl : j < l.length) : val l / 2 ^ at_ % 2 = x / 2 ^ i % 2 := by
  have e : 2 ^ at_ = BB ^ j * 2 ^ i := by
    rw [show BB = 2 ^ 32 from rfl, ← Nat.pow_mul, ← Nat.pow_add]; congr 1; omega
  rw [e, ← Nat.div_div_eq_div_mul, val_div_pow hw]
  have hd : l.drop j = x :: l.drop (j + 1) := by
    rw [List.drop_eq_getElem_cons hjl]
    rw [List.getD_eq_getElem?_getD, List.getElem?_eq_getElem hjl] at hx
    rw [show l[j] = x by simpa using hx]
  rw [hd]
  show (x + BB * val (l.drop (j + 1))) / 2 ^ i % 2 = _
  have hi32 : i < 32 := by omega
  have e2 : BB = 2 ^ i * (2 * 2 ^ (31 - i)) := by
    rw [show BB = 2 ^ 32 from rfl, ← Nat.pow_succ', ← Nat.pow_add]; congr 1; omega
  rw [e2, Nat.mul_assoc, Nat.add_mul_div_left _ _ (Nat.two_pow_pos i), Nat.mul_assoc, Nat.add_mul_mod_self_left]

set_option maxRecDepth 100000 in
set_option maxHeartbeats 4000000 in
theorem bit_calls (A : Option Addr) (c at_ : Nat) (l : List Nat) (w : World) (h1 : Rd w A l) (_hc1 : l.length ≤ c) (hat : at_ < 32 * l.length) (hsm : l.length ≤ 1048576) :
    Calls Tryd.prog 116 #[.slice A l.length c, .int .i64 (at_ : Int)] w fun e w' => e = .returned (.int .u32 ((val l / 2 ^ at_ % 2 : Nat) : Int)) ∧ w' = w.drew := by
  obtain ⟨j, j1, j2, j3⟩ : ∃ j : Nat, (at_ : Int) / 32 = (j : Int) ∧ Hid (j = at_ / 32) ∧ j < l.length := ⟨at_ / 32, by omega, rfl, by omega⟩
  obtain ⟨i, i1, i2, i3⟩ : ∃ i : Nat, (at_ : Int) % 32 = (i : Int) ∧ Hid (i = at_ % 32) ∧ i < 32 := ⟨at_ % 32, by omega, rfl, by omega⟩
  have j4 : (at_ : Int).tdiv 32 = (j : Int) := by rw [Int.tdiv_eq_ediv_of_nonneg (by omega)]; exact j1
  have i4 : (at_ : Int).tmod 32 = (i : Int) := by rw [Int.tmod_eq_emod_of_nonneg (by omega)]; exact i1
  obtain ⟨b, o, x, rfl, hcx, hx, hxb⟩ := h1.get j j3
  have hp2 : 2 ^ i < 4294967296 := Nat.lt_of_lt_of_le (Nat.pow_lt_pow_right (by decide) i3) (by decide)
  have hp0 : 0 < 2 ^ i := Nat.two_pow_pos i
  obtain ⟨P, hP⟩ : ∃ P : Nat, 2 ^ i = P := ⟨_, rfl⟩
  have hPz : ((2 : Int) ^ i) = (P : Int) := by rw [← hP]; simp
  rw [hP] at hp2 hp0
  obtain ⟨p, p1, p2, p3, p4⟩ : ∃ p : Nat, (2 : Int) ^ i % 4294967296 = (p : Int) ∧ Hid (p = 2 ^ i) ∧ 0 < p ∧ p < 4294967296 := ⟨P, by rw [hPz]; omega, hP.symm, hp0, hp2⟩
  clear hP hPz hp0
  obtain ⟨q, q1, q2, q3⟩ : ∃ q : Nat, (x : Int) / (p : Int) = (q : Int) ∧ Hid (q = x / p) ∧ q ≤ x := ⟨x / p, by simp, rfl, Nat.div_le_self _ _⟩
  have q4 : (x : Int).tdiv (p : Int) = (q : Int) := by rw [Int.tdiv_eq_ediv_of_nonneg (by omega)]; exact q1
  obtain ⟨r, r1, r2, r3⟩ : ∃ r : Nat, (q : Int) % 2 = (r : Int) ∧ Hid (r = q % 2) ∧ r < 2 := ⟨q % 2, by omega, rfl, by omega⟩
  have r4 : (q : Int).tmod 2 = (r : Int) := by rw [Int.tmod_eq_emod_of_nonneg (by omega)]; exact r1
  have hpz : ¬ (p : Int) = 0 := by omega
  have hpb : ((p : Int) == 0) = false := by rw [beq_eq_false_iff_ne]; omega
  have hfin : val l / 2 ^ at_ % 2 = r := by rw [bit_of h1.words j2.out i2.out hx.out j3, r2.out, q2.out, p2.out]
  have Hfin := Lib.hid hfin
  clear hp2 hfin
  go_enter Tryd.func116, Tryd.ntmps116
  go_wp2
  go_region
  go_wp2
  go_ret
  exact ⟨by rw [Hfin.out]; rfl, rfl⟩

end Nm
end Go.Proofs.YtlhmbbpkhahbeaaDoor
namespace Go.Proofs.YtlhmbbpkhahbeaaDoor
namespace Nm
open Go.RowKit Go.Shelf Go.BigFrame
attribute [local go_sem] Oper.semAt_some

set_option maxRecDepth 100000 in
set_option maxHeartbeats 4000000 in
theorem Digits_calls (n1 : Bool) (A : Option Addr) (c : Nat) (l : List Nat) (w : World) (h1 : Rd w A l) (hc1 : l.length ≤ c) (hsm : l.length ≤ 65536) :
    Calls Tryd.prog 71 #[iv n1 A l.length c] w fun e w' => e = .returned (.int .i64 (blen (val l) : Nat)) ∧ Below w.heap.size w w' := by
  obtain ⟨W1, hW1⟩ : ∃ W1, w.alloc (.cells #[.bool n1, .slice A l.length c] 24) = W1 := ⟨_, rfl⟩
  have hb1 : Below w.heap.size w W1 := by rw [← hW1]; exact (Below.refl _ w).alloc (Nat.le_refl _) _
  have B1 : IntBox W1 w.heap.size n1 A c l := ⟨by rw [← hW1]; exact World.alloc_heap_new w _, h1.on hb1, hc1⟩
  have x1 := cell_at B1.blk 1 _ rfl
  have r1 := B1.rd
  obtain ⟨N, hN⟩ : ∃ N, 32 * l.length = N := ⟨_, rfl⟩
  have hNi : (32 : Int) * (l.length : Int) = (N : Int) := by omega
  have hN2 : N ≤ 2097152 := by omega
  have HN := Lib.hid hN
  have hlt : Hid (val l < 2 ^ N) := by
    have := val_lt h1.words
    rwa [pow_BB, hN] at this
  obtain ⟨D, hD⟩ : ∃ D, blen (val l) = D := ⟨_, rfl⟩
  rw [hD]
  have HD := Lib.hid hD
  clear hN hD
  go_enter Tryd.func71, Tryd.ntmps71
  go_wp2_with fail
  clear hW1
  go_loopw [3] (fun i W => ∃ k : Nat, i = .int .i64 (k : Int) ∧ k ≤ N ∧ Hid (val l < 2 ^ k) ∧ ∃ n, W = W1.drewN n) (fun i _ => (intOf i).toNat)
  case atStart => exact ⟨N, rfl, Nat.le_refl _, hlt, 0, rfl⟩
  case round =>
    obtain ⟨k, rfl, hk, hv, n, rfl⟩ := hrel
    by_cases h0 : 0 < k
    · obtain ⟨k, rfl⟩ : ∃ j, k = j + 1 := ⟨k - 1, by omega⟩
      have hk1 : (((k + 1 : Nat) : Int)) - 1 = (k : Int) := by omega
      have hbt := bit_calls A c k l (W1.drewN n) (r1.on (below_drewN (Below.refl _ _) _)) hc1 (by have := HN.out; omega) (by omega)
      obtain ⟨d, d1, d2⟩ : ∃ d, val l / 2 ^ k % 2 = d ∧ d < 2 := ⟨_, rfl, Nat.mod_lt _ (by decide)⟩
      rw [d1] at hbt
      have Hd := Lib.hid d1
      clear d1
      by_cases hd0 : d = 0
      · subst hd0
        go_wp2_with (go_at_call 116; refine hbt.mono ?_; rintro e w3 ⟨rfl, rfl⟩)
        refine ⟨⟨k, by first | rfl | (rw [hk1]), by omega, ?_, n + 1, rfl⟩, by simp only [intOf]; omega⟩
        show val l < 2 ^ k
        have hv := hv.out
        rw [Nat.pow_succ] at hv
        have h1 := Nat.div_lt_of_lt_mul (show val l < 2 ^ k * 2 from hv)
        have h2 := Hd.out
        have h3 : val l / 2 ^ k = 0 := by
          generalize val l / 2 ^ k = Y at *
          omega
        rcases Nat.div_eq_zero_iff.1 h3 with h | h
        · exact absurd h (Nat.ne_of_gt (Nat.two_pow_pos k))
        · exact h
      · obtain rfl : d = 1 := by omega
        have hf : D = k + 1 := by
          rw [← HD.out]
          refine blen_of hv.out ?_
          have h2 := Hd.out
          have h3 : 1 ≤ val l / 2 ^ k := by
            generalize val l / 2 ^ k = Y at *
            omega
          have h4 := (Nat.le_div_iff_mul_le (Nat.two_pow_pos k)).1 h3
          rw [Nat.pow_succ]
          generalize 2 ^ k = Y at *
          omega
        have Hf := Lib.hid hf
        clear hf hd0
        go_wp2_with (go_at_call 116; refine hbt.mono ?_; rintro e w3 ⟨rfl, rfl⟩)
        go_ret
        exact ⟨by rw [Hf.out]; rfl, below_drew (below_drewN hb1 _)⟩
    · obtain rfl : k = 0 := by omega
      have hf : D = 0 := by
        have hv := hv.out
        rw [← HD.out, show val l = 0 by simpa using hv]; rfl
      have Hf := Lib.hid hf
      clear hf
      go_wp2_with fail
      go_ret
      exact ⟨by rw [Hf.out]; rfl, below_drewN hb1 _⟩

theorem small_size : (Tryd.prog.info? 68).map (·.size) = some 2 := by kernel_rfl

/-- a small result of the specification -/
def RetSm (z er : Int) (w : World) (e : Ending) (w' : World) : Prop := e = .returned (.agg #[.int .i64 z, .int .i64 er]) ∧ Below w.heap.size w w'

set_option maxRecDepth 100000 in
set_option maxHeartbeats 2000000 in
theorem RBits_calls (n1 : Bool) (A : Option Addr) (c : Nat) (l : List Nat) (w : World) (h1 : Rd w A l) (hc1 : l.length ≤ c) :
    Calls Tryd.prog 49 #[iv n1 A l.length c] w (RetSm (bitsR n1 l).1 (bitsR n1 l).2 w) := by
  have hb2 : ∀ a b, Below w.heap.size w ((w.alloc a).alloc b) := fun a b => ((Below.refl _ w).alloc (Nat.le_refl _) _).alloc (by simp) _
  obtain ⟨W2, hW2⟩ : ∃ W2, (w.alloc (.cells #[.bool n1, .slice A l.length c] 24)).alloc (.cells #[.int .i64 0, .int .i64 0] 68) = W2 := ⟨_, rfl⟩
  have hb : Below w.heap.size w W2 := by rw [← hW2]; exact hb2 _ _
  have B1 : IntBox W2 w.heap.size n1 A c l := ⟨by rw [← hW2]; exact (two_old w _ _ rfl).h, h1.on hb, hc1⟩
  have hR : Blk W2 (w.heap.size + 1) #[.int .i64 0, .int .i64 0] 68 := ⟨by rw [← hW2]; exact two_blk w _ _⟩
  have x0 := cell_at B1.blk 0 _ rfl
  have x1 := cell_at B1.blk 1 _ rfl
  have hfo := Formed_calls n1 A c l W2 B1.rd hc1
  unfold bitsR
  by_cases hok : okI n1 l = true
  · rw [if_pos hok]
    rw [hok] at hfo
    have k1 := okI_isInt h1.words hok
    have hdg := fun W (hW : Below W2.heap.size W2 W) => Digits_calls n1 A c l W (B1.rd.on hW) hc1 (by have := k1.small; omega)
    generalize blen (val l) = D at *
    clear hok
    go_enter Tryd.func49, Tryd.ntmps49
    go_wp2_with first
      | (go_at_call 16; refine hfo.mono ?_; rintro e w3 ⟨rfl, b3⟩; have p0 := cell_at (B1.on b3).blk 0 _ rfl; have p1 := cell_at (B1.on b3).blk 1 _ rfl)
      | (go_at_call 71; refine (hdg _ b3).mono ?_; rintro e w4 ⟨rfl, b4⟩; have b34 := b3.trans (b4.mono b3.size); have hq := hR.on b34; have q0 := cell_at hq.h 0 _ rfl; have q1 := cell_at hq.h 1 _ rfl; have u0 := frozen_at hq.h 0; have u1 := frozen_at hq.h 1)
    exact ret_cellS rfl Tryd.underlying68 small_size rfl rfl (set_blk (set_blk hq.h 0 _) 1 _) rfl ⟨rfl, ((hb.trans (b34.mono hb.size)).setCell (by dsimp only; omega) _).setCell (by dsimp only; omega) _⟩
  · rw [if_neg hok]
    rw [show okI n1 l = false by simpa using hok] at hfo
    clear hok
    go_enter Tryd.func49, Tryd.ntmps49
    go_wp2_with (go_at_call 16; refine hfo.mono ?_; rintro e w3 ⟨rfl, b3⟩; have hq := hR.on b3; have q0 := cell_at hq.h 0 _ rfl; have q1 := cell_at hq.h 1 _ rfl; have u0 := frozen_at hq.h 0; have u1 := frozen_at hq.h 1)
    exact ret_cellS rfl Tryd.underlying68 small_size rfl rfl (set_blk (set_blk hq.h 0 _) 1 _) rfl ⟨rfl, ((hb.trans (b3.mono hb.size)).setCell (by dsimp only; omega) _).setCell (by dsimp only; omega) _⟩

end Nm
end Go.Proofs.YtlhmbbpkhahbeaaDoor
namespace Go.Proofs.YtlhmbbpkhahbeaaDoor
namespace Nm
open Go.RowKit Go.Shelf Go.BigFrame
attribute [local go_sem] Oper.semAt_some

/-- a block that holds an integer -/
structure HoldsZ (W : World) (g : Nat) (s : Bool) (A : Option Addr) (c : Nat) (l : List Nat) (z : Int) : Prop where
  blk : Blk W g #[.bool s, .slice A l.length c] 24
  isz : IsZ s l z
  rd : Rd W A l
  cap : l.length ≤ c

theorem noword2 {v1 v2 : Value} (h1 : ∀ x : Int, v1 ≠ .int .u32 x) (h2 : ∀ x : Int, v2 ≠ .int .u32 x) : ∀ (i : Nat) (x : Int), (#[v1, v2] : Array Value)[i]? = some (.int .u32 x) → False := by
  intro i x h
  rcases i with _ | _ | i <;> simp at h
  · exact h1 _ h
  · exact h2 _ h

theorem holds_set {W : World} {g : Nat} {x y : Value} (hq : Blk W g #[x, y] 24) (h1 : ∀ z : Int, x ≠ .int .u32 z) (h2 : ∀ z : Int, y ≠ .int .u32 z) {s : Bool} {A : Option Addr} {c : Nat} {l : List Nat} {z : Int} (hz : IsZ s l z) (hr : Rd W A l) (hc : l.length ≤ c) :
    HoldsZ ((W.setCell ⟨g, 0, none⟩ (.bool s)).setCell ⟨g, 1, none⟩ (.slice A l.length c)) g s A c l z :=
  have hne := hr.ne hq.h (noword2 h1 h2)
  ⟨⟨set_blk (set_blk hq.h 0 _) 1 _⟩, hz, (hr.setNe hne).setNe hne, hc⟩

set_option maxRecDepth 100000 in
set_option maxHeartbeats 4000000 in
theorem RPower_calls (n1 : Bool) (A : Option Addr) (c : Nat) (l : List Nat) (z : Int) (m : Nat) (w : World) (h1 : Rd w A l) (hc1 : l.length ≤ c) (k1 : IsZ n1 l z) (hm : m ≤ 100) (hl : l.length ≤ 32768) (hsz : ∀ i, i ≤ m → (lim (z ^ i).natAbs).length ≤ 32768) :
    Calls Tryd.prog 74 #[iv n1 A l.length c, .int .i64 (m : Int)] w (RetZ (z ^ m) w) := by
  have hb2 : ∀ a b, Below w.heap.size w ((w.alloc a).alloc b) := fun a b => ((Below.refl _ w).alloc (Nat.le_refl _) _).alloc (by simp) _
  obtain ⟨W2, hW2⟩ : ∃ W2, (w.alloc (.cells #[.bool n1, .slice A l.length c] 24)).alloc (.cells #[.bool false, .slice none 0 0] 24) = W2 := ⟨_, rfl⟩
  have hb : Below w.heap.size w W2 := by rw [← hW2]; exact hb2 _ _
  have B1 : IntBox W2 w.heap.size n1 A c l := ⟨by rw [← hW2]; exact (two_old w _ _ rfl).h, h1.on hb, hc1⟩
  have hR : Blk W2 (w.heap.size + 1) #[.bool false, .slice none 0 0] 24 := ⟨by rw [← hW2]; exact two_blk w _ _⟩
  have hof := ROf_calls 1 W2 (by decide) (by decide)
  have Hsz := Lib.hid hsz
  clear hsz
  go_enter Tryd.func74, Tryd.ntmps74
  go_wp2_with (go_at_call 40; refine hof.mono ?_; rintro e w3 ⟨s3, A3, c3, l3, rfl, z3, n3, r3, b3⟩)
  clear hW2 hof
  have hb34 : Below w3.heap.size w3 (w3.alloc (.cells #[.bool s3, .slice A3 l3.length c3] 24)) := (Below.refl _ _).alloc (Nat.le_refl _) _
  have H0 : HoldsZ (w3.alloc (.cells #[.bool s3, .slice A3 l3.length c3] 24)) w3.heap.size s3 A3 c3 l3 (z ^ 0) := ⟨⟨World.alloc_heap_new w3 _⟩, by rw [Int.pow_zero]; exact z3, r3.on hb34, n3⟩
  have bb4 := b3.trans (hb34.mono b3.size)
  obtain ⟨g, hg⟩ : ∃ g, w3.heap.size = g := ⟨_, rfl⟩
  have hgs : W2.heap.size ≤ g := by rw [← hg]; exact b3.size
  rw [hg] at H0 ⊢
  generalize (w3.alloc (.cells #[.bool s3, .slice A3 l3.length c3] 24)) = W4 at *
  clear hg hb34 b3 r3
  go_loopw [6] (fun i W => ∃ (k : Nat) (s : Bool) (A' : Option Addr) (c' : Nat) (l' : List Nat), i = .int .i64 (k : Int) ∧ k ≤ m ∧ HoldsZ W g s A' c' l' (z ^ k) ∧ Below W2.heap.size W2 W) (fun i _ => m - (intOf i).toNat)
  case atStart => exact ⟨0, s3, A3, c3, l3, rfl, Nat.zero_le _, H0, bb4⟩
  case round =>
    clear H0 bb4
    obtain ⟨k, s, A', c', l', rfl, hk, hH, hbl⟩ := hrel
    have x0 := cell_at (B1.on hbl).blk 0 _ rfl
    have x1 := cell_at (B1.on hbl).blk 1 _ rfl
    have y0 := cell_at hH.blk.h 0 _ rfl
    have y1 := cell_at hH.blk.h 1 _ rfl
    have u0 := frozen_at hH.blk.h 0
    have u1 := frozen_at hH.blk.h 1
    have hl' : l'.length ≤ 32768 := by rw [hH.isz.abs]; exact Hsz.out k hk
    by_cases hkm : k < m
    · have htm := Times_calls s n1 A' A c' c l' l wr hH.rd (B1.on hbl).rd hH.cap hc1 (by omega) (by omega)
      rw [hH.isz.toZ, k1.toZ, ← Int.pow_succ] at htm
      have Hr := Lib.hid hH
      clear hH hl'
      go_wp2_with (go_at_call 30; refine htm.mono ?_; rintro e w5 ⟨s5, A5, c5, l5, rfl, z5, n5, r5, b5⟩; have hq := Hr.out.blk.on b5; have v0 := cell_at hq.h 0 _ rfl; have v1 := cell_at hq.h 1 _ rfl; have v2 := frozen_at hq.h 0; have v3 := frozen_at hq.h 1)
      refine ⟨⟨k + 1, s5, A5, c5, l5, rfl, by omega, holds_set hq (by simp) (by simp) z5 r5 n5, ((hbl.trans (b5.mono hbl.size)).setCell hgs _).setCell hgs _⟩, by simp only [intOf]; omega⟩
    · obtain rfl : k = m := by omega
      have hq := hR.on hbl
      have v0 := cell_at hq.h 0 _ rfl
      have v1 := cell_at hq.h 1 _ rfl
      have v2 := frozen_at hq.h 0
      have v3 := frozen_at hq.h 1
      have Hr := Lib.hid hH
      clear hH hl' hkm
      go_wp2_with fail
      exact ret_cell rfl rfl rfl (set_blk (set_blk hq.h 0 _) 1 _) ⟨s, A', c', l', rfl, Hr.out.isz, Hr.out.cap, rd_sets Hr.out.rd hq _ _, ((hb.trans (hbl.mono hb.size)).setCell (by dsimp only; omega) _).setCell (by dsimp only; omega) _⟩

end Nm
end Go.Proofs.YtlhmbbpkhahbeaaDoor
namespace Go.Proofs.YtlhmbbpkhahbeaaDoor
namespace Nm
open Go.RowKit Go.Shelf Go.BigFrame
attribute [local go_sem] Oper.semAt_some

set_option maxRecDepth 100000 in
set_option maxHeartbeats 4000000 in
theorem above_calls (A1 A2 : Option Addr) (c1 c2 : Nat) (l1 l2 : List Nat) (r a m : Nat) (w : World) (h1 : Rd w A1 l1) (h2 : Rd w A2 l2) (hc1 : l1.length ≤ c1) (hc2 : l2.length ≤ c2) (k1 : IsZ false l1 (r : Int)) (n2 : Bool) (k2 : Canon l2) (hv2 : val l2 = a) (hm1 : 1 ≤ m) (hm : m ≤ 100) (hs1 : l1.length ≤ 32768) (hs2 : l2.length ≤ 32768) :
    Calls Tryd.prog 72 #[iv false A1 l1.length c1, .int .i64 (m : Int), iv n2 A2 l2.length c2] w fun e w' => e = .returned (.bool (decide (a < r ^ m))) ∧ Below w.heap.size w w' := by
  have hb2 : ∀ a b, Below w.heap.size w ((w.alloc a).alloc b) := fun a b => ((Below.refl _ w).alloc (Nat.le_refl _) _).alloc (by simp) _
  obtain ⟨W2, hW2⟩ : ∃ W2, (w.alloc (.cells #[.bool false, .slice A1 l1.length c1] 24)).alloc (.cells #[.bool n2, .slice A2 l2.length c2] 24) = W2 := ⟨_, rfl⟩
  have hb : Below w.heap.size w W2 := by rw [← hW2]; exact hb2 _ _
  have B1 : IntBox W2 w.heap.size false A1 c1 l1 := ⟨by rw [← hW2]; exact (two_old w _ _ rfl).h, h1.on hb, hc1⟩
  have B2 : IntBox W2 (w.heap.size + 1) n2 A2 c2 l2 := ⟨by rw [← hW2]; exact two_blk w _ _, h2.on hb, hc2⟩
  have hof := ROf_calls 1 W2 (by decide) (by decide)
  obtain ⟨F, hF⟩ : ∃ F, decide (a < r ^ m) = F := ⟨_, rfl⟩
  rw [hF]
  have HF := Lib.hid hF
  have Hv2 := Lib.hid hv2
  have hla : (lim a).length ≤ 32768 := by rw [← hv2, lim_val k2]; exact hs2
  have Hla := Lib.hid hla
  clear hF hv2 hla
  go_enter Tryd.func72, Tryd.ntmps72
  go_wp2_with (go_at_call 40; refine hof.mono ?_; rintro e w3 ⟨s3, A3, c3, l3, rfl, z3, n3, r3, b3⟩)
  clear hW2 hof
  have hb34 : Below w3.heap.size w3 (w3.alloc (.cells #[.bool s3, .slice A3 l3.length c3] 24)) := (Below.refl _ _).alloc (Nat.le_refl _) _
  have H0 : HoldsZ (w3.alloc (.cells #[.bool s3, .slice A3 l3.length c3] 24)) w3.heap.size s3 A3 c3 l3 ((r : Int) ^ 0) := ⟨⟨World.alloc_heap_new w3 _⟩, by rw [Int.pow_zero]; exact z3, r3.on hb34, n3⟩
  have bb4 := b3.trans (hb34.mono b3.size)
  obtain ⟨g, hg⟩ : ∃ g, w3.heap.size = g := ⟨_, rfl⟩
  have hgs : W2.heap.size ≤ g := by rw [← hg]; exact b3.size
  rw [hg] at H0 ⊢
  generalize (w3.alloc (.cells #[.bool s3, .slice A3 l3.length c3] 24)) = W4 at *
  clear hg hb34 b3 r3
  go_loopw [8] (fun i W => ∃ (k : Nat) (s : Bool) (A' : Option Addr) (c' : Nat) (l' : List Nat), i = .int .i64 (k : Int) ∧ k ≤ m ∧ HoldsZ W g s A' c' l' ((r : Int) ^ k) ∧ Hid (k = 0 ∨ r ^ k ≤ a) ∧ Below W2.heap.size W2 W) (fun i _ => m - (intOf i).toNat)
  case atStart => exact ⟨0, s3, A3, c3, l3, rfl, Nat.zero_le _, H0, .inl rfl, bb4⟩
  case round =>
    clear H0 bb4
    obtain ⟨k, s, A', c', l', rfl, hk, hH, hle, hbl⟩ := hrel
    have x0 := cell_at (B1.on hbl).blk 0 _ rfl
    have x1 := cell_at (B1.on hbl).blk 1 _ rfl
    have y0 := cell_at hH.blk.h 0 _ rfl
    have y1 := cell_at hH.blk.h 1 _ rfl
    have u0 := frozen_at hH.blk.h 0
    have u1 := frozen_at hH.blk.h 1
    have hpz : ∀ i : Nat, ((r : Int) ^ i).natAbs = r ^ i := fun i => by rw [← Int.natCast_pow, Int.natAbs_natCast]
    have hl' : l'.length ≤ 32768 := by
      rw [hH.isz.abs, hpz]
      rcases hle.out with h | h
      · rw [h, Nat.pow_zero, one_word (by decide) (by decide)]; simp
      · exact Nat.le_trans (length_mono h) Hla.out
    by_cases hkm : k < m
    · have htm := Times_calls s false A' A1 c' c1 l' l1 wr hH.rd (B1.on hbl).rd hH.cap hc1 (by omega) (by omega)
      rw [hH.isz.toZ, k1.toZ, ← Int.pow_succ] at htm
      have Hr := Lib.hid hH
      have Hpz := Lib.hid hpz
      clear hH hl' hpz
      by_cases hgt : a < r ^ (k + 1)
      · have hFt : F = true := by
          rw [← HF.out]
          refine decide_eq_true (Nat.lt_of_lt_of_le hgt (Nat.pow_le_pow_right ?_ hkm))
          rcases Nat.eq_zero_or_pos r with h | h
          · rw [h, Nat.zero_pow (by omega)] at hgt; omega
          · exact h
        have hcz : cmpZ ((r ^ (k + 1) : Nat) : Int) (a : Int) = 1 := by unfold cmpZ; rw [if_neg (by omega), if_pos (by omega)]
        have Hcz := Lib.hid hcz
        have HFt := Lib.hid hFt
        clear hFt hcz hgt
        go_wp2_with first
          | (go_at_call 30; refine htm.mono ?_; rintro e w5 ⟨s5, A5, c5, l5, rfl, z5, n5, r5, b5⟩; have hq := Hr.out.blk.on b5; have v0 := cell_at hq.h 0 _ rfl; have v1 := cell_at hq.h 1 _ rfl; have v2 := frozen_at hq.h 0; have v3 := frozen_at hq.h 1; have bb5 := ((hbl.trans (b5.mono hbl.size)).setCell hgs (.bool s5) (p := ⟨g, 0, none⟩)).setCell (p := ⟨g, 1, none⟩) hgs (.slice A5 l5.length c5); have hS := holds_set hq (by simp) (by simp) z5 r5 n5; have p0 := cell_at hS.blk.h 1 _ rfl; have p1 := cell_at (B2.on bb5).blk 1 _ rfl; have hlg := larger_calls A5 A2 c5 c2 l5 l2 _ hS.rd (B2.on bb5).rd n5 hc2 z5.canon k2; rw [z5.val, Hpz.out, Hv2.out, Hcz.out] at hlg)
          | (go_at_call 73; refine hlg.mono ?_; rintro e w6 ⟨rfl, nn, rfl⟩)
        go_ret
        exact ⟨by rw [HFt.out]; rfl, below_drewN (hb.trans (bb5.mono hb.size)) _⟩
      · have hcz : cmpZ ((r ^ (k + 1) : Nat) : Int) (a : Int) ≤ 0 := by unfold cmpZ; split <;> (try split) <;> omega
        obtain ⟨cz, hcz2⟩ : ∃ cz, cmpZ ((r ^ (k + 1) : Nat) : Int) (a : Int) = cz := ⟨_, rfl⟩
        rw [hcz2] at hcz
        have Hcz := Lib.hid hcz2
        have hczn : ¬ (0 : Int) < cz := by omega
        have Hgt := Lib.hid hgt
        clear hcz2 hgt hcz
        go_wp2_with first
          | (go_at_call 30; refine htm.mono ?_; rintro e w5 ⟨s5, A5, c5, l5, rfl, z5, n5, r5, b5⟩; have hq := Hr.out.blk.on b5; have v0 := cell_at hq.h 0 _ rfl; have v1 := cell_at hq.h 1 _ rfl; have v2 := frozen_at hq.h 0; have v3 := frozen_at hq.h 1; have bb5 := ((hbl.trans (b5.mono hbl.size)).setCell hgs (.bool s5) (p := ⟨g, 0, none⟩)).setCell (p := ⟨g, 1, none⟩) hgs (.slice A5 l5.length c5); have hS := holds_set hq (by simp) (by simp) z5 r5 n5; have p0 := cell_at hS.blk.h 1 _ rfl; have p1 := cell_at (B2.on bb5).blk 1 _ rfl; have hlg := larger_calls A5 A2 c5 c2 l5 l2 _ hS.rd (B2.on bb5).rd n5 hc2 z5.canon k2; rw [z5.val, Hpz.out, Hv2.out, Hcz.out] at hlg)
          | (go_at_call 73; refine hlg.mono ?_; rintro e w6 ⟨rfl, nn, rfl⟩)
        refine ⟨⟨k + 1, s5, A5, c5, l5, rfl, by omega, ⟨⟨hS.blk.h⟩, hS.isz, hS.rd.on (below_drewN (Below.refl _ _) _), hS.cap⟩, .inr (by have := Hgt.out; omega), below_drewN bb5 _⟩, by simp only [intOf]; omega⟩
    · obtain rfl : k = m := by omega
      have hFf : F = false := by
        rw [← HF.out]
        refine decide_eq_false ?_
        rcases hle.out with h | h
        · omega
        · omega
      have HFf := Lib.hid hFf
      clear hFf hH hl' hkm
      go_wp2_with fail
      go_ret
      exact ⟨by rw [HFf.out]; rfl, hb.trans (hbl.mono hb.size)⟩

end Nm
end Go.Proofs.YtlhmbbpkhahbeaaDoor
namespace Go.Proofs.YtlhmbbpkhahbeaaDoor
namespace Nm
open Go.RowKit Go.Shelf Go.BigFrame

theorem val_set {l : List Nat} {j x p : Nat} (hj : j < l.length) (hx : l.getD j 0 = x) : val (l.set j (x + p)) = val l + BB ^ j * p := by
  induction l generalizing j with
  | nil => exact absurd hj (by simp)
  | cons y t ih =>
    cases j with
    | zero =>
      have hx' : y = x := by simpa using hx
      show (x + p) + BB * val t = y + BB * val t + BB ^ 0 * p
      rw [hx']; simp; omega
    | succ j =>
      have := ih (j := j) (by simpa using hj) (by simpa using hx)
      show y + BB * val (t.set j (x + p)) = y + BB * val t + BB ^ (j + 1) * p
      rw [this, Nat.mul_add, Nat.pow_succ, Nat.mul_comm (BB ^ j) BB, Nat.mul_assoc]; omega

theorem word_room {l : List Nat} (hw : Words l) {k j i x Y : Nat} (hj : j = k / 32) (hi : i = k % 32) (hjl : j < l.length) (hx : l.getD j 0 = x) (hv : val l = 2 ^ (k + 1) * Y) : x + 2 ^ i < 4294967296 := by
  have h1 : val l / BB ^ j = 2 ^ (i + 1) * Y := by
    rw [hv, show (2 : Nat) ^ (k + 1) = BB ^ j * 2 ^ (i + 1) from by rw [show BB = 2 ^ 32 from rfl, ← Nat.pow_mul, ← Nat.pow_add]; congr 1; omega, Nat.mul_assoc, Nat.mul_div_cancel_left _ (Nat.pow_pos (by decide))]
  rw [val_div_pow hw] at h1
  have hd : l.drop j = x :: l.drop (j + 1) := by
    rw [List.drop_eq_getElem_cons hjl]
    rw [List.getD_eq_getElem?_getD, List.getElem?_eq_getElem hjl] at hx
    rw [show l[j] = x by simpa using hx]
  rw [hd] at h1
  have h2 : x + 4294967296 * val (l.drop (j + 1)) = 2 ^ (i + 1) * Y := h1
  have hxw : x < 4294967296 := by rw [← hx]; exact words_getD hw j
  have hi32 : i < 32 := by omega
  have e2 : 4294967296 = 2 ^ (i + 1) * 2 ^ (31 - i) := by
    rw [← Nat.pow_add, show i + 1 + (31 - i) = 32 by omega]
  have hdv : 2 ^ (i + 1) ∣ x := by
    have a1 : 2 ^ (i + 1) ∣ x + 4294967296 * val (l.drop (j + 1)) := ⟨Y, h2⟩
    have a2 : 2 ^ (i + 1) ∣ 4294967296 * val (l.drop (j + 1)) := Nat.dvd_trans ⟨2 ^ (31 - i), e2⟩ (Nat.dvd_mul_right _ _)
    exact (Nat.dvd_add_left a2).1 a1
  obtain ⟨z, hz⟩ := hdv
  have hlt : z < 2 ^ (31 - i) := by
    rw [hz, e2] at hxw
    exact Nat.lt_of_mul_lt_mul_left hxw
  have hle : 2 ^ (i + 1) * (z + 1) ≤ 2 ^ (i + 1) * 2 ^ (31 - i) := Nat.mul_le_mul_left _ hlt
  rw [← e2, Nat.mul_add, ← hz, Nat.pow_succ] at hle
  have := Nat.two_pow_pos i
  omega

theorem split_step {a b k d ρ : Nat} (hb : 0 < b) (hd : a / 2 ^ k % 2 = d) (hr : a / 2 ^ (k + 1) % b = ρ) :
    (b ≤ ρ + ρ + d → a / 2 ^ k % b = ρ + ρ + d - b ∧ a / 2 ^ k / b = 2 * (a / 2 ^ (k + 1) / b) + 1) ∧
    (ρ + ρ + d < b → a / 2 ^ k % b = ρ + ρ + d ∧ a / 2 ^ k / b = 2 * (a / 2 ^ (k + 1) / b)) := by
  have e : a / 2 ^ (k + 1) = a / 2 ^ k / 2 := by rw [Nat.pow_succ, Nat.div_div_eq_div_mul]
  rw [e] at hr ⊢
  generalize a / 2 ^ k = X at *
  have h1 := Nat.div_add_mod X 2
  have h2 := Nat.div_add_mod (X / 2) b
  have h3 := Nat.mod_lt (X / 2) hb
  rw [hr] at h2 h3
  rw [hd] at h1
  obtain ⟨q, hq⟩ : ∃ q, X / 2 / b = q := ⟨_, rfl⟩
  rw [hq] at h2 ⊢
  have hd2 : d < 2 := by rw [← hd]; exact Nat.mod_lt _ (by decide)
  constructor
  · intro h
    have hX : X = (ρ + ρ + d - b) + b * (2 * q + 1) := by
      have : b * (2 * q + 1) = 2 * (b * q) + b := by rw [Nat.mul_add, Nat.mul_one, Nat.mul_left_comm]
      omega
    constructor
    · rw [hX, Nat.add_mul_mod_self_left, Nat.mod_eq_of_lt (by omega)]
    · rw [hX, Nat.add_mul_div_left _ _ hb, Nat.div_eq_of_lt (by omega), Nat.zero_add]
  · intro h
    have hX : X = (ρ + ρ + d) + b * (2 * q) := by
      have : b * (2 * q) = 2 * (b * q) := Nat.mul_left_comm _ _ _
      omega
    constructor
    · rw [hX, Nat.add_mul_mod_self_left, Nat.mod_eq_of_lt (by omega)]
    · rw [hX, Nat.add_mul_div_left _ _ hb, Nat.div_eq_of_lt (by omega), Nat.zero_add]

end Nm
end Go.Proofs.YtlhmbbpkhahbeaaDoor
namespace Go.Proofs.YtlhmbbpkhahbeaaDoor
namespace Nm
open Go.RowKit Go.Shelf Go.BigFrame
attribute [local go_sem] Oper.semAt_some

/-- an Int that is handed back, in a block of its own -/
def RetZF (z : Int) (w : World) (e : Ending) (w' : World) : Prop :=
  ∃ s A c l, e = .returned (iv s A l.length c) ∧ IsZ s l z ∧ l.length ≤ c ∧ Rd w' A l ∧ Below w.heap.size w w' ∧ ∀ b o, A = some ⟨b, o, none⟩ → 0 < l.length → w.heap.size ≤ b

set_option maxRecDepth 100000 in
set_option maxHeartbeats 2000000 in
theorem made_fresh (neg : Bool) (A : Option Addr) (c : Nat) (l : List Nat) (w : World) (hA : Rd w A l) (hl : l.length ≤ c) :
    Calls Tryd.prog 70 #[.bool neg, .slice A l.length c] w (RetZF (if neg then -(val l : Int) else val l) w) := by
  have hfin := fun k hk ht => made_fin (neg := neg) (k := k) (l := l) hk ht
  generalize (if neg = true then -(val l : Int) else (val l : Int)) = z at *
  have hs := hA.small
  have hb : ∀ o, Below w.heap.size w (w.alloc o) := fun o => (Below.refl _ _).alloc (Nat.le_refl _) _
  obtain ⟨i0, hi, hz0, hz1, hz2⟩ := info_parts info_u32
  have hbt : Tryd.prog.underlying 22 = some (.slice 72) := by kernel_rfl
  obtain ⟨W, hW⟩ : ∃ W, w.alloc (.cells #[.bool false, .slice none 0 0] 24) = W := ⟨_, rfl⟩
  have hrw : Rd W A l := by rw [← hW]; exact hA.on (hb _)
  have hbk : Blk W w.heap.size #[.bool false, .slice none 0 0] 24 := ⟨by rw [← hW]; exact World.alloc_heap_new w _⟩
  have hbw : Below w.heap.size w W := by rw [← hW]; exact hb _
  have hsz : W.heap.size = w.heap.size + 1 := by rw [← hW]; simp
  have hbW : ∀ o, Below W.heap.size W (W.alloc o) := fun o => (Below.refl _ _).alloc (Nat.le_refl _) _
  go_enter Tryd.func70, Tryd.ntmps70
  have Hsz := Lib.hid hsz
  clear hsz
  go_wp2
  clear hW
  go_loop [5] (fun n => ∃ k : Nat, k ≤ l.length ∧ n = .int .i64 k ∧ Hid (∀ i, k ≤ i → l.getD i 0 = 0)) (fun n => (intOf n).toNat)
  case atStart => exact ⟨l.length, Nat.le_refl _, rfl, fun i hi => by rw [List.getD_eq_getElem?_getD, List.getElem?_eq_none (by omega)]; rfl⟩
  case round =>
    obtain ⟨k, hk, rfl, hz⟩ := hrel
    by_cases h0 : 0 < k
    · obtain ⟨b, o, x, rfl, hc, hx, hxb⟩ := hrw.get (k - 1) (by omega)
      by_cases hx0 : x = 0
      · subst hx0
        go_wp2
        go_round
        case rel => 
          refine ⟨k - 1, by omega, by go_num, fun i hi => ?_⟩
          by_cases e : i = k - 1
          · rw [e]; exact hx.out
          · exact hz.out i (by omega)
        case measure => simp [intOf]; omega
      · have hx1 : ((x : Int) == 0) = false := by simp; omega
        have htr := trim_eq_take hrw.words hk hz.out (.inr (by rw [hx.out]; exact hx0))
        have hf := hfin k hk htr
        have hlk : (l.take k).length = k := by rw [List.length_take]; omega
        have hown0 := own_empty (W.alloc (.cells #[] 72)) W.heap.size W.heap.size (World.alloc_heap_new W _) (Nat.le_refl _)
        have hlk0 : ((0 : Int) < (k : Int)) ↔ True := by rw [iff_true]; omega
        have hnw : ∀ j u, (wvals (l.take k))[j]? = some u → (W.alloc (.cells #[] 72)).cell? ((⟨b, o, none⟩ : Addr).add j) = some u := rd_news' ((hrw.take k).on (hbW _))
        have hwt := words_take hrw.words k
        have hwl : (wvals (l.take k)).length = k * 1 := by simp [wvals]; omega
        have Hwl := Lib.hid hwl
        have Hlk := Lib.hid hlk
        have Hf := Lib.hid hf
        rw [decide_eq_true (show (0 : Int) < (k : Int) by omega)] at hf
        clear hwl hlk hx0
        cases neg
        all_goals
          go_wp2_with first
            | (at_builtin; (refine wpList_append_own2 _ rfl _ _ 22 22 rfl W.heap.size 72 72 i0 (.int .u32 0) 1 4 hbt hbt hi hz0 hz1 hz2 rfl (by decide) _ _ _ rfl hown0 ⟨b, o, none⟩ k c (wvals (l.take k)) rfl Hwl.out hnw (wvals_one _) (by unfold maxLen; omega) (by omega) (by simp) ?_); intro v' w4 hown' hg4 _; obtain ⟨A', c', hv', hn', hc', hrd', hab⟩ := own_rd (l := l.take k) hown' hwt (by omega); subst hv'; have hb4 : Below W.heap.size W w4 := (hbW _).grown hg4 (by simp) (fun j e => by cases e; exact Nat.le_refl _); have hq := hbk.on hb4; have x0 := cell_at hq.h 0 _ rfl; have x1 := cell_at hq.h 1 _ rfl; have y0 := frozen_at hq.h 0; have y1 := frozen_at hq.h 1)
          refine ret_cell rfl rfl rfl (set_blk (set_blk hq.h 0 _) 1 _) ⟨_, A', c', l.take k, ?_, hf, ?_, rd_sets hrd' hq _ _, ((hbw.trans (hb4.mono hbw.size)).setCell (Nat.le_refl _) _).setCell (Nat.le_refl _) _, fun b o e _ => by have := hab b o e; have := Hsz.out; omega⟩
          · rw [Hlk.out]; simp
          · rw [Hlk.out]; omega
    · obtain rfl : k = 0 := by omega
      have hf := hfin 0 hk (trim_eq_take hrw.words hk hz.out (.inl rfl))
      rw [List.take_zero] at hf
      have hx0 : ∀ o, (W.alloc o).cell? ⟨w.heap.size, 0, none⟩ = some (.bool false) := fun o => cell_at (hbk.on (hbW o)).h 0 _ rfl
      have hx1 : ∀ o, (W.alloc o).cell? ⟨w.heap.size, 1, none⟩ = some (.slice none 0 0) := fun o => cell_at (hbk.on (hbW o)).h 1 _ rfl
      have hy0 : ∀ o, (W.alloc o).frozen? ⟨w.heap.size, 0, none⟩ = false := fun o => frozen_at (hbk.on (hbW o)).h 0
      have hy1 : ∀ o, (W.alloc o).frozen? ⟨w.heap.size, 1, none⟩ = false := fun o => frozen_at (hbk.on (hbW o)).h 1
      cases A <;> cases neg
      all_goals
        go_wp2
        refine ret_cell rfl rfl rfl (set_blk (set_blk (hbk.on (hbW _)).h 0 _) 1 _) ⟨_, _, _, [], rfl, hf, Nat.zero_le _, Rd.nil _ _, ((hbw.trans ((hbW _).mono hbw.size)).setCell (Nat.le_refl _) _).setCell (Nat.le_refl _) _, fun b o e h => absurd h (by simp)⟩

end Nm
end Go.Proofs.YtlhmbbpkhahbeaaDoor
namespace Go.Proofs.YtlhmbbpkhahbeaaDoor
namespace Nm
open Go.RowKit Go.Shelf Go.BigFrame
attribute [local go_sem] Oper.semAt_some

set_option maxRecDepth 100000 in
set_option maxHeartbeats 8000000 in
theorem split_one (A1 A2 : Option Addr) (c1 c2 y : Nat) (l1 l2 : List Nat) (w : World) (h1 : Rd w A1 l1) (h2 : Rd w A2 l2) (hc1 : l1.length ≤ c1) (hc2 : l2.length ≤ c2) (hl2 : l2 = [y]) (hy : 0 < y) (hs1 : l1.length ≤ 65536) :
    Calls Tryd.prog 108 #[.slice A1 l1.length c1, .slice A2 l2.length c2] w (RetQR ((val l1 / y : Nat) : Int) ((val l1 % y : Nat) : Int) w) := by
  subst hl2
  have hyb : y < 4294967296 := h2.words y (by simp)
  obtain ⟨W1, hW1⟩ : ∃ W1, w.alloc (.cells #[.bool false, .slice none 0 0, .bool false, .slice none 0 0] 32) = W1 := ⟨_, rfl⟩
  have hb1 : Below w.heap.size w W1 := by rw [← hW1]; exact (Below.refl _ w).alloc (Nat.le_refl _) _
  have hR : Blk W1 w.heap.size #[.bool false, .slice none 0 0, .bool false, .slice none 0 0] 32 := ⟨by rw [← hW1]; exact World.alloc_heap_new w _⟩
  have r2 := h2.on hb1
  obtain ⟨b, o, y', rfl, hcy, hy', _⟩ := r2.get 0 (by simp)
  obtain rfl : y' = y := by have := hy'.out; simpa using this.symm
  have hsh := short_calls A1 c1 y' l1 W1 (h1.on hb1) hc1 hy hyb (by omega)
  obtain ⟨Q, hQ⟩ : ∃ Q : Int, ((val l1 / y' : Nat) : Int) = Q := ⟨_, rfl⟩
  obtain ⟨R, hRr⟩ : ∃ R : Int, ((val l1 % y' : Nat) : Int) = R := ⟨_, rfl⟩
  rw [hQ, hRr] at hsh
  rw [hQ, hRr]
  clear hQ hRr
  rw [Nat.add_zero] at hcy
  go_enter Tryd.func108, Tryd.ntmps108
  go_wp2_with (go_at_call 85; refine hsh.mono ?_; rintro e w3 ⟨s3, A3, c3, l3, s4, A4, c4, l4, rfl, z3, z4, n3, n4, f3, f4, b3⟩; have hq := hR.on b3; have e0 := cell_at hq.h 0 _ rfl; have e1 := cell_at hq.h 1 _ rfl; have e2 := cell_at hq.h 2 _ rfl; have e3 := cell_at hq.h 3 _ rfl; have u0 := frozen_at hq.h 0; have u1 := frozen_at hq.h 1; have u2 := frozen_at hq.h 2; have u3 := frozen_at hq.h 3)
  have nw1 := f3.ne hq.h (by intro i x h; rcases i with _ | _ | _ | _ | i <;> simp at h)
  have nw2 := f4.ne hq.h (by intro i x h; rcases i with _ | _ | _ | _ | i <;> simp at h)
  have bw := hb1.trans (b3.mono hb1.size)
  exact ret_cellS rfl Tryd.underlying32 parts_size rfl rfl (set4 hq.h _ _ _ _) rfl ⟨s3, A3, c3, l3, s4, A4, c4, l4, rfl, z3, z4, n3, n4, (((f3.setNe nw1).setNe nw1).setNe nw1).setNe nw1, (((f4.setNe nw2).setNe nw2).setNe nw2).setNe nw2, (((bw.setCell (Nat.le_refl _) _).setCell (Nat.le_refl _) _).setCell (Nat.le_refl _) _).setCell (Nat.le_refl _) _⟩

theorem arr_on {w W : World} {g : Nat} {l : List Nat} (h : Arr w g l) (hb : Below w.heap.size w W) : Arr W g l := arr_below h hb (arr_lt h)

set_option maxRecDepth 100000 in
set_option maxHeartbeats 16000000 in
theorem split_many (A1 A2 : Option Addr) (c1 c2 : Nat) (l1 l2 : List Nat) (w : World) (h1 : Rd w A1 l1) (h2 : Rd w A2 l2) (hc1 : l1.length ≤ c1) (hc2 : l2.length ≤ c2) (k2 : Canon l2) (hp : 0 < val l2) (hne : l2.length ≠ 1) (hs1 : l1.length ≤ 65536) (hs2 : l2.length ≤ 65536) :
    Calls Tryd.prog 108 #[.slice A1 l1.length c1, .slice A2 l2.length c2] w (RetQR ((val l1 / val l2 : Nat) : Int) ((val l1 % val l2 : Nat) : Int) w) := by
  have hnb : (l2.length == 1) = false := by rw [beq_eq_false_iff_ne]; exact hne
  have hni : ((l2.length : Int) == 1) = false := by rw [beq_eq_false_iff_ne]; omega
  obtain ⟨W1, hW1⟩ : ∃ W1, w.alloc (.cells #[.bool false, .slice none 0 0, .bool false, .slice none 0 0] 32) = W1 := ⟨_, rfl⟩
  have hb1 : Below w.heap.size w W1 := by rw [← hW1]; exact (Below.refl _ w).alloc (Nat.le_refl _) _
  have hR : Blk W1 w.heap.size #[.bool false, .slice none 0 0, .bool false, .slice none 0 0] 32 := ⟨by rw [← hW1]; exact World.alloc_heap_new w _⟩
  have hmk := make_u32 (l1.length : Int) (l1.length : Int) l1.length l1.length rfl rfl (by omega) (by omega) W1
  obtain ⟨g, hg⟩ : ∃ g, W1.heap.size = g := ⟨_, rfl⟩
  have hgs : g = w.heap.size + 1 := by rw [← hg, ← hW1]; simp
  have Hgs := Lib.hid hgs
  have Hg := Lib.hid hg
  have r1 := h1.on hb1
  have r2 := h2.on hb1
  obtain ⟨N, hN⟩ : ∃ N, 32 * l1.length = N := ⟨_, rfl⟩
  have hNi : (32 : Int) * (l1.length : Int) = (N : Int) := by omega
  have hN2 : N ≤ 2097152 := by omega
  have HN := Lib.hid hN
  have hlt : val l1 < 2 ^ N := by have := val_lt h1.words; rwa [pow_BB, hN] at this
  have Hlt := Lib.hid hlt
  have HE := Lib.hid (lim_val k2)
  obtain ⟨a, ha⟩ : ∃ a, val l1 = a := ⟨_, rfl⟩
  obtain ⟨b, hb⟩ : ∃ b, val l2 = b := ⟨_, rfl⟩
  have Ha := Lib.hid ha
  have Hb := Lib.hid hb
  rw [ha] at Hlt
  rw [hb] at hp HE
  rw [ha, hb]
  have hb4 : Below W1.heap.size W1 (W1.alloc (.cells (warr (List.replicate l1.length 0)) 72)) := (Below.refl _ _).alloc (Nat.le_refl _) _
  have har : Arr (W1.alloc (.cells (warr (List.replicate l1.length 0)) 72)) g (List.replicate l1.length 0) := by rw [← hg]; exact arr_new _ _
  obtain ⟨Qf, hQf⟩ : ∃ Q, a / b = Q := ⟨_, rfl⟩
  obtain ⟨Rf, hRf⟩ : ∃ Q, a % b = Q := ⟨_, rfl⟩
  have HQf := Lib.hid hQf
  have HRf := Lib.hid hRf
  rw [hQf, hRf]
  clear hgs hN hlt ha hb hQf hRf hne
  go_enter Tryd.func108, Tryd.ntmps108
  go_wp2_with fail
  clear hW1 hmk hg
  generalize (W1.alloc (.cells (warr (List.replicate l1.length 0)) 72)) = W2 at *
  go_loopw [6, 7] (fun r i W => ∃ (k ρ : Nat) (qs : List Nat) (A : Option Addr) (c : Nat), i = .int .i64 ((k : Int) - 1) ∧ r = .slice A (lim ρ).length c ∧ (lim ρ).length ≤ c ∧ Rd W A (lim ρ) ∧ ρ < b ∧ k ≤ N ∧ Hid (qs.length = l1.length) ∧ Words qs ∧ Arr W g qs ∧ Below W1.heap.size W1 W ∧ Hid (val qs = 2 ^ k * (a / 2 ^ k / b)) ∧ Hid (a / 2 ^ k % b = ρ)) (fun _ i _ => (intOf i + 1).toNat)
  case atStart =>
    have hz : a / 2 ^ N = 0 := Nat.div_eq_of_lt Hlt.out
    refine ⟨N, 0, List.replicate l1.length 0, none, 0, rfl, ?_, ?_, ?_, hp, Nat.le_refl _, by show _ = _; simp, words_replicate _, har, hb4, ?_, ?_⟩
    · rw [lim_zero]; rfl
    · rw [lim_zero]; exact Nat.le_refl _
    · rw [lim_zero]; exact Rd.nil _ _
    · show _ = _; rw [hz, val_replicate]; simp
    · show _ = _; rw [hz]; simp
  case round =>
    clear har hb4
    obtain ⟨k, ρ, qs, A, c, rfl, rfl, hcl, hrd, hρ, hkN, hql, hqw, harr, hbl, hqv, hρv⟩ := hrel
    have hlρ : (lim ρ).length ≤ 65536 := Nat.le_trans (length_mono (Nat.le_of_lt hρ)) (by rw [HE.out]; exact hs2)
    by_cases h0 : 0 < k
    · obtain ⟨k, rfl⟩ : ∃ j, k = j + 1 := ⟨k - 1, by omega⟩
      rw [show ((k + 1 : Nat) : Int) - 1 = (k : Int) by omega]
      obtain ⟨d, hd, hd2⟩ : ∃ d, a / 2 ^ k % 2 = d ∧ d < 2 := ⟨_, rfl, Nat.mod_lt _ (by decide)⟩
      have hst := split_step hp hd hρv.out
      have hsum := sum_calls A A c c (lim ρ) (lim ρ) wr hrd hrd hcl hcl (by omega) (by omega) (canon_lim _) (canon_lim _)
      rw [val_lim] at hsum
      have hbit : ∀ W, Below W1.heap.size W1 W → Calls Tryd.prog 116 #[.slice A1 l1.length c1, .int .i64 (k : Int)] W fun e w' => e = .returned (.int .u32 (d : Int)) ∧ Below W.heap.size W w' := fun W hW => (bit_calls A1 c1 k l1 W (r1.on hW) hc1 (by have := HN.out; omega) (by omega)).mono fun e w' h => by
        rw [Ha.out, hd] at h
        exact ⟨h.1, by rw [h.2]; exact below_drew (Below.refl _ _)⟩
      obtain ⟨S0, hS0⟩ : ∃ S0, ρ + ρ = S0 := ⟨_, rfl⟩
      rw [hS0] at hsum hst
      have hS0b : S0 < b + b := by omega
      have hbl2 : b < BB ^ l2.length := by rw [← Hb.out]; exact val_lt h2.words
      have hTl : ∀ T, T < b + b + 2 → (lim T).length ≤ 65537 := fun T hT => by
        have e : BB ^ l2.length * 4 ≤ BB ^ l2.length * BB := Nat.mul_le_mul_left _ (by decide)
        exact len_of_words (j := l2.length + 1) (by rw [Nat.pow_succ]; omega) (by omega)
      have Hst := Lib.hid hst
      have Hd := Lib.hid hd
      have HTl := Lib.hid hTl
      obtain ⟨j, j1, j2, j3⟩ : ∃ j : Nat, (k : Int) / 32 = (j : Int) ∧ Hid (j = k / 32) ∧ j < l1.length := ⟨k / 32, by omega, rfl, by have := HN.out; omega⟩
      obtain ⟨i, i1, i2, i3⟩ : ∃ i : Nat, (k : Int) % 32 = (i : Int) ∧ Hid (i = k % 32) ∧ i < 32 := ⟨k % 32, by omega, rfl, by omega⟩
      have j4 : (k : Int).tdiv 32 = (j : Int) := by rw [Int.tdiv_eq_ediv_of_nonneg (by omega)]; exact j1
      have i4 : (k : Int).tmod 32 = (i : Int) := by rw [Int.tmod_eq_emod_of_nonneg (by omega)]; exact i1
      obtain ⟨x, hx, hxb⟩ : ∃ x, Hid (qs.getD j 0 = x) ∧ x < 4294967296 := ⟨_, rfl, words_getD hqw j⟩
      have hjq : j < qs.length := by rw [hql.out]; exact j3
      have hroom := word_room hqw j2.out i2.out hjq hx.out hqv.out
      have hp2 : 2 ^ i < 4294967296 := Nat.lt_of_lt_of_le (Nat.pow_lt_pow_right (by decide) i3) (by decide)
      obtain ⟨P, hP⟩ : ∃ P : Nat, 2 ^ i = P := ⟨_, rfl⟩
      have hPz : ((2 : Int) ^ i) = (P : Int) := by rw [← hP]; simp
      rw [hP] at hp2 hroom
      have p1 : (2 : Int) ^ i % 4294967296 = (P : Int) := by rw [hPz]; omega
      obtain ⟨u, u1, u2, u3⟩ : ∃ u : Nat, (x : Int) + (P : Int) = (u : Int) ∧ Hid (u = x + P) ∧ u < 4294967296 := ⟨x + P, by omega, rfl, hroom⟩
      have hset : Hid (val (qs.set j u) = val qs + 2 ^ k) := by
        show _ = _
        rw [u2.out, val_set hjq hx.out, ← hP]
        congr 1
        rw [show BB = 2 ^ 32 from rfl, ← Nat.pow_mul, ← Nat.pow_add]
        congr 1
        have := j2.out; have := i2.out; omega
      have HS0 := Lib.hid hS0
      clear hst hd hTl hS0 hbl2 hP hPz hp2 hroom
      rcases (show d = 0 ∨ d = 1 by omega) with rfl | rfl
      · by_cases hge : b ≤ S0
        · -- d = 0, subtract
          have hTb : S0 < b + b + 2 := by omega
          have lT := HTl.out S0 hTb
          have hlg : ∀ W A c, Below W1.heap.size W1 W → Rd W A (lim S0) → (lim S0).length ≤ c → Calls Tryd.prog 73 #[.slice A (lim S0).length c, .slice A2 l2.length c2] W fun e w' => e = .returned (.int .i64 (cmpZ (S0 : Int) (b : Int))) ∧ Below W.heap.size W w' := fun W A c hW hr hc => (larger_calls A A2 c c2 (lim S0) l2 W hr (r2.on hW) hc hc2 (canon_lim _) k2).mono fun e w' h => by
            rw [val_lim, Hb.out] at h
            obtain ⟨h1, n, rfl⟩ := h
            exact ⟨h1, below_drewN (Below.refl _ _) _⟩
          have hcz : (0 : Int) ≤ cmpZ (S0 : Int) (b : Int) := by unfold cmpZ; split <;> (try split) <;> omega
          generalize cmpZ (S0 : Int) (b : Int) = cz at *
          have hls : ∀ W A c, Below W1.heap.size W1 W → Rd W A (lim S0) → (lim S0).length ≤ c → Calls Tryd.prog 79 #[.slice A (lim S0).length c, .slice A2 l2.length c2] W (RetL (S0 - b) (lim S0).length W) := fun W A c hW hr hc => by
            have := less_calls A A2 c c2 (lim S0) l2 W hr (r2.on hW) hc hc2 (by omega) (by have := length_mono hge; rwa [HE.out] at this) (by rw [val_lim, Hb.out]; exact hge)
            rwa [val_lim, Hb.out] at this
          have Hge := Lib.hid hge
          clear hge
          go_wp2_with first
            | (go_at_call_of 78 (Value.slice A (lim ρ).length c); refine hsum.mono ?_; rintro e w3 ⟨A3, c3, rfl, n3, f3, b3⟩; have bb3 := hbl.trans (b3.mono hbl.size))
            | (go_at_call 116; refine (hbit _ bb3).mono ?_; rintro e w4 ⟨rfl, b4⟩; have b34 := b3.trans (b4.mono b3.size); have bb4 := bb3.trans (b4.mono bb3.size); have f4 := f3.on b4)
            | (go_at_call 73; refine (hlg _ A3 c3 bb4 f4 n3).mono ?_; rintro e w6 ⟨rfl, b6⟩; have fT := f4.on b6; have bbT := bb4.trans (b6.mono bb4.size); have b36 := b34.trans (b6.mono b34.size))
            | (go_at_call 79; refine (hls _ A3 c3 bbT fT n3).mono ?_; rintro e w7 ⟨A7, c7, l7, rfl, v7, -, n7, f7, b7⟩; have bb7 := bbT.trans (b7.mono bbT.size); have V7 := Lib.hid v7; clear v7)
            | (go_at_call 70; refine (made_fresh false A7 c7 l7 _ f7 n7).mono ?_; rintro e w8 ⟨s8, A8, c8, l8, rfl, z8, n8, f8, b8, fr8⟩; have tg7 := arr_lt (arr_on harr (b36.trans (b7.mono b36.size))); have bb8 := bb7.trans (b8.mono bb7.size); have b89 := (Below.refl _ w8).alloc (Nat.le_refl _) (.cells #[.bool s8, .slice A8 l8.length c8] 24); have bb9 := bb8.trans (b89.mono bb8.size); have f9 := f8.on b89; have ar9 := (arr_on harr (b36.trans (((b7.trans (b8.mono b7.size)).trans (b89.mono (Nat.le_trans b7.size b8.size))).mono b36.size))); have g9 := arr_cell ar9 j hjq; rw [hx.out] at g9; have fz9 := arr_frozen ar9 j; have tg9 := arr_lt ar9)
          go_region
          go_wp2_with fail
          have hq := Hst.out.1 (by have := Hge.out; omega)
          have hl8 : l8 = lim (S0 - b) := by
            have := z8.abs
            rw [V7.out] at this
            simpa using this
          refine ⟨⟨k, S0 - b, qs.set j u, A8, c8, rfl, by rw [← hl8], by rw [← hl8]; exact n8, ?_, by have := Hge.out; have := HS0.out; omega, by omega, ?_, words_set hqw _ _ u3, ?_, below_drew (bb9.setCell (by have := Hg.out; dsimp only; omega) _), ?_, ?_⟩, by simp only [intOf]; omega⟩
          · rw [← hl8]
            exact (f9.setNe (fun bq oq e h => by have := fr8 bq oq e h; omega)).on (below_drew (Below.refl _ _))
          · show _ = _; rw [List.length_set]; exact hql.out
          · exact arr_set ar9 j u
          · show _ = _; rw [hset.out, hq.2, hqv.out, Nat.pow_succ]; rw [Nat.mul_add, Nat.mul_one, Nat.mul_assoc]
          · show _ = _; rw [hq.1, Nat.add_zero]
        · -- d = 0, keep
          have hTb : S0 < b + b + 2 := by omega
          have lT := HTl.out S0 hTb
          have hlg : ∀ W A c, Below W1.heap.size W1 W → Rd W A (lim S0) → (lim S0).length ≤ c → Calls Tryd.prog 73 #[.slice A (lim S0).length c, .slice A2 l2.length c2] W fun e w' => e = .returned (.int .i64 (cmpZ (S0 : Int) (b : Int))) ∧ Below W.heap.size W w' := fun W A c hW hr hc => (larger_calls A A2 c c2 (lim S0) l2 W hr (r2.on hW) hc hc2 (canon_lim _) k2).mono fun e w' h => by
            rw [val_lim, Hb.out] at h
            obtain ⟨h1, n, rfl⟩ := h
            exact ⟨h1, below_drewN (Below.refl _ _) _⟩
          have hcz : ¬ (0 : Int) ≤ cmpZ (S0 : Int) (b : Int) := by unfold cmpZ; rw [if_pos (by omega)]; decide
          generalize cmpZ (S0 : Int) (b : Int) = cz at *
          have Hge := Lib.hid hge
          clear hge
          go_wp2_with first
            | (go_at_call_of 78 (Value.slice A (lim ρ).length c); refine hsum.mono ?_; rintro e w3 ⟨A3, c3, rfl, n3, f3, b3⟩; have bb3 := hbl.trans (b3.mono hbl.size))
            | (go_at_call 116; refine (hbit _ bb3).mono ?_; rintro e w4 ⟨rfl, b4⟩; have b34 := b3.trans (b4.mono b3.size); have bb4 := bb3.trans (b4.mono bb3.size); have f4 := f3.on b4)
            | (go_at_call 73; refine (hlg _ A3 c3 bb4 f4 n3).mono ?_; rintro e w6 ⟨rfl, b6⟩; have fT := f4.on b6; have bbT := bb4.trans (b6.mono bb4.size); have b36 := b34.trans (b6.mono b34.size))
          have hq := Hst.out.2 (by have := Hge.out; omega)
          refine ⟨⟨k, S0, qs, A3, c3, rfl, rfl, n3, fT, by have := Hge.out; omega, by omega, hql, hqw, arr_on harr b36, bbT, ?_, ?_⟩, by simp only [intOf]; omega⟩
          · show _ = _; rw [hq.2, hqv.out, Nat.pow_succ, Nat.mul_assoc]
          · show _ = _; rw [hq.1, Nat.add_zero]
      · by_cases hge : b ≤ S0 + 1
        · -- d = 1, subtract
          obtain ⟨T, hT⟩ : ∃ T, S0 + 1 = T := ⟨_, rfl⟩
          have hsum2 : ∀ W A c g', Rd W A (lim S0) → (lim S0).length ≤ c → Rd W (some ⟨g', 0, none⟩) [1] → Calls Tryd.prog 78 #[.slice A (lim S0).length c, .slice (some ⟨g', 0, none⟩) 1 1] W (RetNat T W) := fun W A c g' hr hc hg => by
            have := sum_calls A (some ⟨g', 0, none⟩) c 1 (lim S0) [1] W hr hg hc (Nat.le_refl _) (by have := HTl.out S0 (by omega); omega) (by simp) (canon_lim _) (by rw [← one_word (n := 1) (by decide) (by decide)]; exact canon_lim _)
            rwa [val_lim, show val [1] = 1 from rfl, hT] at this
          have hTb : T < b + b + 2 := by omega
          rw [hT] at hge
          have HT := Lib.hid hT
          clear hT
          have lT := HTl.out T hTb
          have hlg : ∀ W A c, Below W1.heap.size W1 W → Rd W A (lim T) → (lim T).length ≤ c → Calls Tryd.prog 73 #[.slice A (lim T).length c, .slice A2 l2.length c2] W fun e w' => e = .returned (.int .i64 (cmpZ (T : Int) (b : Int))) ∧ Below W.heap.size W w' := fun W A c hW hr hc => (larger_calls A A2 c c2 (lim T) l2 W hr (r2.on hW) hc hc2 (canon_lim _) k2).mono fun e w' h => by
            rw [val_lim, Hb.out] at h
            obtain ⟨h1, n, rfl⟩ := h
            exact ⟨h1, below_drewN (Below.refl _ _) _⟩
          have hcz : (0 : Int) ≤ cmpZ (T : Int) (b : Int) := by unfold cmpZ; split <;> (try split) <;> omega
          generalize cmpZ (T : Int) (b : Int) = cz at *
          have hls : ∀ W A c, Below W1.heap.size W1 W → Rd W A (lim T) → (lim T).length ≤ c → Calls Tryd.prog 79 #[.slice A (lim T).length c, .slice A2 l2.length c2] W (RetL (T - b) (lim T).length W) := fun W A c hW hr hc => by
            have := less_calls A A2 c c2 (lim T) l2 W hr (r2.on hW) hc hc2 (by omega) (by have := length_mono hge; rwa [HE.out] at this) (by rw [val_lim, Hb.out]; exact hge)
            rwa [val_lim, Hb.out] at this
          have Hge := Lib.hid hge
          clear hge
          go_wp2_with first
            | (go_at_call 78; refine (hsum2 _ A3 c3 _ (f4.on ((Below.refl _ w4).alloc (Nat.le_refl _) _)) n3 (rd_one w4)).mono ?_; rintro e w5 ⟨A5, c5, rfl, n5, f5, b5⟩; have b45 := ((Below.refl _ w4).alloc (Nat.le_refl _) (.cells #[.int .u32 1] 72)).trans (b5.mono (by simp)); have b35 := b34.trans (b45.mono b34.size); have bb5 := bb4.trans (b45.mono bb4.size))
            | (go_at_call_of 78 (Value.slice A (lim ρ).length c); refine hsum.mono ?_; rintro e w3 ⟨A3, c3, rfl, n3, f3, b3⟩; have bb3 := hbl.trans (b3.mono hbl.size))
            | (go_at_call 116; refine (hbit _ bb3).mono ?_; rintro e w4 ⟨rfl, b4⟩; have b34 := b3.trans (b4.mono b3.size); have bb4 := bb3.trans (b4.mono bb3.size); have f4 := f3.on b4)
            | (go_at_call 73; refine (hlg _ A5 c5 bb5 f5 n5).mono ?_; rintro e w6 ⟨rfl, b6⟩; have fT := f5.on b6; have bbT := bb5.trans (b6.mono bb5.size); have b36 := b35.trans (b6.mono b35.size))
            | (go_at_call 79; refine (hls _ A5 c5 bbT fT n5).mono ?_; rintro e w7 ⟨A7, c7, l7, rfl, v7, -, n7, f7, b7⟩; have bb7 := bbT.trans (b7.mono bbT.size); have V7 := Lib.hid v7; clear v7)
            | (go_at_call 70; refine (made_fresh false A7 c7 l7 _ f7 n7).mono ?_; rintro e w8 ⟨s8, A8, c8, l8, rfl, z8, n8, f8, b8, fr8⟩; have tg7 := arr_lt (arr_on harr (b36.trans (b7.mono b36.size))); have bb8 := bb7.trans (b8.mono bb7.size); have b89 := (Below.refl _ w8).alloc (Nat.le_refl _) (.cells #[.bool s8, .slice A8 l8.length c8] 24); have bb9 := bb8.trans (b89.mono bb8.size); have f9 := f8.on b89; have ar9 := (arr_on harr (b36.trans (((b7.trans (b8.mono b7.size)).trans (b89.mono (Nat.le_trans b7.size b8.size))).mono b36.size))); have g9 := arr_cell ar9 j hjq; rw [hx.out] at g9; have fz9 := arr_frozen ar9 j; have tg9 := arr_lt ar9)
          go_region
          go_wp2_with fail
          have hq := Hst.out.1 (by have := Hge.out; have := HT.out; omega)
          have hl8 : l8 = lim (T - b) := by
            have := z8.abs
            rw [V7.out] at this
            simpa using this
          refine ⟨⟨k, T - b, qs.set j u, A8, c8, rfl, by rw [← hl8], by rw [← hl8]; exact n8, ?_, by have := Hge.out; have := HT.out; have := HS0.out; omega, by omega, ?_, words_set hqw _ _ u3, ?_, below_drew (bb9.setCell (by have := Hg.out; dsimp only; omega) _), ?_, ?_⟩, by simp only [intOf]; omega⟩
          · rw [← hl8]
            exact (f9.setNe (fun bq oq e h => by have := fr8 bq oq e h; omega)).on (below_drew (Below.refl _ _))
          · show _ = _; rw [List.length_set]; exact hql.out
          · exact arr_set ar9 j u
          · show _ = _; rw [hset.out, hq.2, hqv.out, Nat.pow_succ]; rw [Nat.mul_add, Nat.mul_one, Nat.mul_assoc]
          · show _ = _; rw [hq.1, HT.out]
        · -- d = 1, keep
          obtain ⟨T, hT⟩ : ∃ T, S0 + 1 = T := ⟨_, rfl⟩
          have hsum2 : ∀ W A c g', Rd W A (lim S0) → (lim S0).length ≤ c → Rd W (some ⟨g', 0, none⟩) [1] → Calls Tryd.prog 78 #[.slice A (lim S0).length c, .slice (some ⟨g', 0, none⟩) 1 1] W (RetNat T W) := fun W A c g' hr hc hg => by
            have := sum_calls A (some ⟨g', 0, none⟩) c 1 (lim S0) [1] W hr hg hc (Nat.le_refl _) (by have := HTl.out S0 (by omega); omega) (by simp) (canon_lim _) (by rw [← one_word (n := 1) (by decide) (by decide)]; exact canon_lim _)
            rwa [val_lim, show val [1] = 1 from rfl, hT] at this
          have hTb : T < b + b + 2 := by omega
          rw [hT] at hge
          have HT := Lib.hid hT
          clear hT
          have lT := HTl.out T hTb
          have hlg : ∀ W A c, Below W1.heap.size W1 W → Rd W A (lim T) → (lim T).length ≤ c → Calls Tryd.prog 73 #[.slice A (lim T).length c, .slice A2 l2.length c2] W fun e w' => e = .returned (.int .i64 (cmpZ (T : Int) (b : Int))) ∧ Below W.heap.size W w' := fun W A c hW hr hc => (larger_calls A A2 c c2 (lim T) l2 W hr (r2.on hW) hc hc2 (canon_lim _) k2).mono fun e w' h => by
            rw [val_lim, Hb.out] at h
            obtain ⟨h1, n, rfl⟩ := h
            exact ⟨h1, below_drewN (Below.refl _ _) _⟩
          have hcz : ¬ (0 : Int) ≤ cmpZ (T : Int) (b : Int) := by unfold cmpZ; rw [if_pos (by omega)]; decide
          generalize cmpZ (T : Int) (b : Int) = cz at *
          have Hge := Lib.hid hge
          clear hge
          go_wp2_with first
            | (go_at_call 78; refine (hsum2 _ A3 c3 _ (f4.on ((Below.refl _ w4).alloc (Nat.le_refl _) _)) n3 (rd_one w4)).mono ?_; rintro e w5 ⟨A5, c5, rfl, n5, f5, b5⟩; have b45 := ((Below.refl _ w4).alloc (Nat.le_refl _) (.cells #[.int .u32 1] 72)).trans (b5.mono (by simp)); have b35 := b34.trans (b45.mono b34.size); have bb5 := bb4.trans (b45.mono bb4.size))
            | (go_at_call_of 78 (Value.slice A (lim ρ).length c); refine hsum.mono ?_; rintro e w3 ⟨A3, c3, rfl, n3, f3, b3⟩; have bb3 := hbl.trans (b3.mono hbl.size))
            | (go_at_call 116; refine (hbit _ bb3).mono ?_; rintro e w4 ⟨rfl, b4⟩; have b34 := b3.trans (b4.mono b3.size); have bb4 := bb3.trans (b4.mono bb3.size); have f4 := f3.on b4)
            | (go_at_call 73; refine (hlg _ A5 c5 bb5 f5 n5).mono ?_; rintro e w6 ⟨rfl, b6⟩; have fT := f5.on b6; have bbT := bb5.trans (b6.mono bb5.size); have b36 := b35.trans (b6.mono b35.size))
          have hq := Hst.out.2 (by have := Hge.out; have := HT.out; omega)
          refine ⟨⟨k, T, qs, A5, c5, rfl, rfl, n5, fT, by have := Hge.out; omega, by omega, hql, hqw, arr_on harr b36, bbT, ?_, ?_⟩, by simp only [intOf]; omega⟩
          · show _ = _; rw [hq.2, hqv.out, Nat.pow_succ, Nat.mul_assoc]
          · show _ = _; rw [hq.1, HT.out]
    · obtain rfl : k = 0 := by omega
      have hq0 : val qs = Qf := by have := hqv.out; rw [Nat.pow_zero, Nat.div_one, Nat.one_mul, HQf.out] at this; exact this
      have hr0 : ρ = Rf := by have := hρv.out; rw [Nat.pow_zero, Nat.div_one, HRf.out] at this; exact this.symm
      have hqrd := arr_rd harr hqw (by rw [hql.out]; omega)
      have hm1 := made_calls false (some ⟨g, 0, none⟩) l1.length qs wr hqrd (by rw [hql.out]; exact Nat.le_refl _)
      rw [hq0, hql.out] at hm1
      simp only [Bool.false_eq_true, if_false] at hm1
      have hm2 : ∀ W, Rd W A (lim ρ) → Calls Tryd.prog 70 #[.bool false, .slice A (lim ρ).length c] W (RetZ (Rf : Int) W) := fun W h => by
        have := made_calls false A c (lim ρ) W h hcl
        have hz : (if false = true then -((val (lim ρ) : Nat) : Int) else ((val (lim ρ) : Nat) : Int)) = (Rf : Int) := by rw [val_lim, hr0]; rfl
        rwa [hz] at this
      clear hq0 hr0 h0
      go_wp2_with first
        | (go_at_call 70; have hmark := mk1; refine (hm2 _ (hrd.on b3)).mono ?_; rintro e w5 ⟨s5, A5, c5, l5, rfl, z5, n5, f5, b5⟩; have bb5 := (hbl.trans (b3.mono hbl.size)).trans (b5.mono (Nat.le_trans hbl.size b3.size)); have f3' := f3.on b5; have hq5 := hR.on bb5; have e0 := cell_at hq5.h 0 _ rfl; have e1 := cell_at hq5.h 1 _ rfl; have e2 := cell_at hq5.h 2 _ rfl; have e3 := cell_at hq5.h 3 _ rfl; have u0 := frozen_at hq5.h 0; have u1 := frozen_at hq5.h 1; have u2 := frozen_at hq5.h 2; have u3 := frozen_at hq5.h 3)
        | (go_at_call 70; refine hm1.mono ?_; rintro e w3 ⟨s3, A3, c3, l3, rfl, z3, n3, f3, b3⟩; have mk1 : True := trivial)
      have nw1 := f3'.ne hq5.h (by intro i x h; rcases i with _ | _ | _ | _ | i <;> simp at h)
      have nw2 := f5.ne hq5.h (by intro i x h; rcases i with _ | _ | _ | _ | i <;> simp at h)
      have bw := hb1.trans (bb5.mono hb1.size)
      exact ret_cellS rfl Tryd.underlying32 parts_size rfl rfl (set4 hq5.h _ _ _ _) rfl ⟨s3, A3, c3, l3, s5, A5, c5, l5, rfl, z3, z5, n3, n5, (((f3'.setNe nw1).setNe nw1).setNe nw1).setNe nw1, (((f5.setNe nw2).setNe nw2).setNe nw2).setNe nw2, (((bw.setCell (Nat.le_refl _) _).setCell (Nat.le_refl _) _).setCell (Nat.le_refl _) _).setCell (Nat.le_refl _) _⟩

theorem split_calls (A1 A2 : Option Addr) (c1 c2 : Nat) (l1 l2 : List Nat) (w : World) (h1 : Rd w A1 l1) (h2 : Rd w A2 l2) (hc1 : l1.length ≤ c1) (hc2 : l2.length ≤ c2) (k2 : Canon l2) (hp : 0 < val l2) (hs1 : l1.length ≤ 65536) (hs2 : l2.length ≤ 65536) :
    Calls Tryd.prog 108 #[.slice A1 l1.length c1, .slice A2 l2.length c2] w (RetQR ((val l1 / val l2 : Nat) : Int) ((val l1 % val l2 : Nat) : Int) w) := by
  by_cases h : l2.length = 1
  · obtain ⟨y, rfl⟩ := List.length_eq_one_iff.1 h
    have hv : val [y] = y := by show y + 4294967296 * 0 = y; omega
    rw [hv] at hp ⊢
    exact split_one A1 A2 c1 c2 y l1 [y] w h1 h2 hc1 hc2 rfl hp hs1
  · exact split_many A1 A2 c1 c2 l1 l2 w h1 h2 hc1 hc2 k2 hp h hs1 hs2

end Nm
end Go.Proofs.YtlhmbbpkhahbeaaDoor
namespace Go.Proofs.YtlhmbbpkhahbeaaDoor
namespace Nm
open Go.RowKit Go.Shelf Go.BigFrame
attribute [local go_sem] Oper.semAt_some

/-- a sign that is set where there are limbs -/
theorem isZ_sign {n : Nat} {s' : Bool} {l : List Nat} (h : IsZ s' l (n : Int)) : IsZ (decide (0 < l.length)) l (-(n : Int)) := by
  have e := h.abs
  rw [show (n : Int).natAbs = n by omega] at e
  have := isZ_of true n
  rw [← e] at this
  have hh : (true && n != 0) = decide (0 < l.length) := by
    rw [e]
    by_cases h0 : n = 0
    · subst h0; rw [lim_zero]; rfl
    · have := lim_length_pos (n := n) (by omega)
      rw [show (n != 0) = true by simpa using h0]
      exact (decide_eq_true (by omega)).symm
  rwa [hh] at this

theorem isZ_pos {s : Bool} {l : List Nat} {n : Nat} (h : IsZ s l (n : Int)) : IsZ false l (n : Int) := by
  have := h.sgn
  rw [decide_eq_false (show ¬ (n : Int) < 0 by omega)] at this
  exact this ▸ h

theorem fin4 {W : World} {B : Nat} {a0 a1 a2 a3 : Value} {t : TypeId} (h : W.heap[B]? = some (.cells #[a0, a1, a2, a3] t (0, 0))) (v0 v1 v2 v3 : Value) (o : Obj) :
    (((((W.setCell ⟨B, 0, none⟩ v0).setCell ⟨B, 1, none⟩ v1).setCell ⟨B, 2, none⟩ v2).setCell ⟨B, 3, none⟩ v3).alloc o).heap[B]? = some (.cells #[v0, v1, v2, v3] t (0, 0)) := by
  have h4 := set4 h v0 v1 v2 v3
  exact (Below.heap_alloc _ _ _ (Array.getElem?_eq_some_iff.1 h4).1).trans h4
theorem rd4 {W : World} {B : Nat} {a0 a1 a2 a3 : Value} {t : TypeId} (h : W.heap[B]? = some (.cells #[a0, a1, a2, a3] t (0, 0))) (n : ∀ (i : Nat) (x : Int), (#[a0, a1, a2, a3] : Array Value)[i]? = some (.int .u32 x) → False) {A : Option Addr} {l : List Nat} (hr : Rd W A l) (v0 v1 v2 v3 : Value) (o : Obj) :
    Rd (((((W.setCell ⟨B, 0, none⟩ v0).setCell ⟨B, 1, none⟩ v1).setCell ⟨B, 2, none⟩ v2).setCell ⟨B, 3, none⟩ v3).alloc o) A l := by
  have m := hr.ne h n
  exact ((((hr.setNe m).setNe m).setNe m).setNe m).on ((Below.refl _ _).alloc (Nat.le_refl _) _)
theorem two_below {w : World} (a b : Obj) : Below w.heap.size w ((w.alloc a).alloc b) := ((Below.refl _ w).alloc (Nat.le_refl _) _).alloc (by simp) _
theorem word_at (w : World) (a : Obj) : Rd ((w.alloc a).alloc (.cells #[.int .u32 1] 72)) (some ⟨w.heap.size + 1, 0, none⟩) [1] := by
  have := rd_word (w.alloc a) (n := 1) (by decide) (by decide)
  rw [one_word (by decide) (by decide), World.size_alloc] at this
  exact this
theorem isZ_m1 : IsZ true [1] (-1) := ⟨rfl, (one_word (by decide) (by decide)).symm⟩
theorem noword4 {v1 v2 v3 v4 : Value} (h1 : ∀ x : Int, v1 ≠ .int .u32 x) (h2 : ∀ x : Int, v2 ≠ .int .u32 x) (h3 : ∀ x : Int, v3 ≠ .int .u32 x) (h4 : ∀ x : Int, v4 ≠ .int .u32 x) : ∀ (i : Nat) (x : Int), (#[v1, v2, v3, v4] : Array Value)[i]? = some (.int .u32 x) → False := by
  intro i x h
  rcases i with _ | _ | _ | _ | i <;> simp at h
  · exact h1 x h
  · exact h2 x h
  · exact h3 x h
  · exact h4 x h

set_option maxRecDepth 100000 in
set_option maxHeartbeats 4000000 in
theorem Divide_Af (A1 A2 : Option Addr) (c1 c2 : Nat) (l1 l2 : List Nat) (Q R : Nat) (w : World) (h1 : Rd w A1 l1) (h2 : Rd w A2 l2) (hc1 : l1.length ≤ c1) (hc2 : l2.length ≤ c2) (k2 : Canon l2) (hp : 0 < val l2) (hs1 : l1.length ≤ 65535) (hs2 : l2.length ≤ 65535) (hQ : val l1 / val l2 = Q) (hR2 : val l1 % val l2 = R) :
    Calls Tryd.prog 62 #[iv false A1 l1.length c1, iv false A2 l2.length c2] w (RetQR (Q : Int) (R : Int) w) := by
  obtain ⟨W3, hW3, hb3, B1, B2, hR, hsz⟩ := boxes3 w false false A1 A2 c1 c2 l1 l2 h1 h2 hc1 hc2 #[.bool false, .slice none 0 0, .bool false, .slice none 0 0] 32
  have Hsz := Lib.hid hsz
  clear hsz
  have hsp := fun W (hW : Below W3.heap.size W3 W) => split_calls A1 A2 c1 c2 l1 l2 W (B1.rd.on hW) (B2.rd.on hW) hc1 hc2 k2 hp (by omega) (by omega)
  rw [hQ, hR2] at hsp
  have x0 := cell_at B1.blk 0 _ rfl
  have x1 := cell_at B1.blk 1 _ rfl
  have x2 := cell_at B2.blk 0 _ rfl
  have x3 := cell_at B2.blk 1 _ rfl
  clear hQ hR2 hp
  go_enter Tryd.func62, Tryd.ntmps62
  go_wp2_with (go_at_call 108; refine (hsp _ (Below.refl _ _)).mono ?_; rintro e w4 ⟨s4, A4, c4, l4, s5, A5, c5, l5, rfl, z4, z5, n4, n5, r4, r5, b4⟩; have i0 := cell_at (B1.on b4).blk 0 _ rfl; have i1 := cell_at (B1.on b4).blk 1 _ rfl; have i2 := cell_at (B2.on b4).blk 0 _ rfl; have i3 := cell_at (B2.on b4).blk 1 _ rfl; have hs4 := b4.size; have hs3 := Hsz.out; have lt0 : w.heap.size < w4.heap.size := (by omega); have lt1 : w.heap.size + 1 < w4.heap.size := (by omega); have lt2 : w.heap.size + 1 + 1 < w4.heap.size := (by omega); have en0 : ¬ w.heap.size = w4.heap.size := (by omega); have en1 : ¬ w.heap.size + 1 = w4.heap.size := (by omega); have en2 : ¬ w.heap.size + 1 + 1 = w4.heap.size := (by omega); clear hs3; have hq4 := hR.on b4; have z4' := isZ_pos z4; have z5' := isZ_pos z5; have e0 := cell_at hq4.h 0 _ rfl; have u0 := frozen_at hq4.h 0; have e1 := cell_at hq4.h 1 _ rfl; have u1 := frozen_at hq4.h 1; have e2 := cell_at hq4.h 2 _ rfl; have u2 := frozen_at hq4.h 2; have e3 := cell_at hq4.h 3 _ rfl; have u3 := frozen_at hq4.h 3)
  have hw4 := hb3.trans (b4.mono hb3.size)
  have nw := noword4 (v1 := .bool false) (v2 := .slice none 0 0) (v3 := .bool false) (v4 := .slice none 0 0) (by intro x h; cases h) (by intro x h; cases h) (by intro x h; cases h) (by intro x h; cases h)
  exact ret_cellS rfl Tryd.underlying32 parts_size rfl rfl (fin4 hq4.h _ _ _ _ _) rfl ⟨_, A4, c4, l4, _, A5, c5, l5, rfl, z4, z5', n4, n5, rd4 hq4.h nw r4 _ _ _ _ _, rd4 hq4.h nw r5 _ _ _ _ _, ((((hw4.setCell (by dsimp only; omega) _).setCell (by dsimp only; omega) _).setCell (by dsimp only; omega) _).setCell (by dsimp only; omega) _).alloc (by simp [World.setCell]; omega) _⟩

set_option maxRecDepth 100000 in
set_option maxHeartbeats 4000000 in
theorem Divide_At (A1 A2 : Option Addr) (c1 c2 : Nat) (l1 l2 : List Nat) (Q R : Nat) (w : World) (h1 : Rd w A1 l1) (h2 : Rd w A2 l2) (hc1 : l1.length ≤ c1) (hc2 : l2.length ≤ c2) (k2 : Canon l2) (hp : 0 < val l2) (hs1 : l1.length ≤ 65535) (hs2 : l2.length ≤ 65535) (hQ : val l1 / val l2 = Q) (hR2 : val l1 % val l2 = R) :
    Calls Tryd.prog 62 #[iv true A1 l1.length c1, iv true A2 l2.length c2] w (RetQR (Q : Int) (-(R : Int)) w) := by
  obtain ⟨W3, hW3, hb3, B1, B2, hR, hsz⟩ := boxes3 w true true A1 A2 c1 c2 l1 l2 h1 h2 hc1 hc2 #[.bool false, .slice none 0 0, .bool false, .slice none 0 0] 32
  have Hsz := Lib.hid hsz
  clear hsz
  have hsp := fun W (hW : Below W3.heap.size W3 W) => split_calls A1 A2 c1 c2 l1 l2 W (B1.rd.on hW) (B2.rd.on hW) hc1 hc2 k2 hp (by omega) (by omega)
  rw [hQ, hR2] at hsp
  have x0 := cell_at B1.blk 0 _ rfl
  have x1 := cell_at B1.blk 1 _ rfl
  have x2 := cell_at B2.blk 0 _ rfl
  have x3 := cell_at B2.blk 1 _ rfl
  clear hQ hR2 hp
  go_enter Tryd.func62, Tryd.ntmps62
  go_wp2_with (go_at_call 108; refine (hsp _ (Below.refl _ _)).mono ?_; rintro e w4 ⟨s4, A4, c4, l4, s5, A5, c5, l5, rfl, z4, z5, n4, n5, r4, r5, b4⟩; have i0 := cell_at (B1.on b4).blk 0 _ rfl; have i1 := cell_at (B1.on b4).blk 1 _ rfl; have i2 := cell_at (B2.on b4).blk 0 _ rfl; have i3 := cell_at (B2.on b4).blk 1 _ rfl; have hs4 := b4.size; have hs3 := Hsz.out; have lt0 : w.heap.size < w4.heap.size := (by omega); have lt1 : w.heap.size + 1 < w4.heap.size := (by omega); have lt2 : w.heap.size + 1 + 1 < w4.heap.size := (by omega); have en0 : ¬ w.heap.size = w4.heap.size := (by omega); have en1 : ¬ w.heap.size + 1 = w4.heap.size := (by omega); have en2 : ¬ w.heap.size + 1 + 1 = w4.heap.size := (by omega); clear hs3; have hq4 := hR.on b4; have z4' := isZ_pos z4; have z5' := isZ_pos z5; have e0 := cell_at hq4.h 0 _ rfl; have u0 := frozen_at hq4.h 0; have e1 := cell_at hq4.h 1 _ rfl; have u1 := frozen_at hq4.h 1; have e2 := cell_at hq4.h 2 _ rfl; have u2 := frozen_at hq4.h 2; have e3 := cell_at hq4.h 3 _ rfl; have u3 := frozen_at hq4.h 3)
  have hw4 := hb3.trans (b4.mono hb3.size)
  have nw := noword4 (v1 := .bool false) (v2 := .slice none 0 0) (v3 := .bool false) (v4 := .slice none 0 0) (by intro x h; cases h) (by intro x h; cases h) (by intro x h; cases h) (by intro x h; cases h)
  exact ret_cellS rfl Tryd.underlying32 parts_size rfl rfl (fin4 hq4.h _ _ _ _ _) rfl ⟨_, A4, c4, l4, _, A5, c5, l5, rfl, z4, isZ_sign z5, n4, n5, rd4 hq4.h nw r4 _ _ _ _ _, rd4 hq4.h nw r5 _ _ _ _ _, ((((hw4.setCell (by dsimp only; omega) _).setCell (by dsimp only; omega) _).setCell (by dsimp only; omega) _).setCell (by dsimp only; omega) _).alloc (by simp [World.setCell]; omega) _⟩

set_option maxRecDepth 100000 in
set_option maxHeartbeats 4000000 in
theorem Divide_Bf (A1 A2 : Option Addr) (c1 c2 : Nat) (l1 l2 : List Nat) (Q R : Nat) (w : World) (h1 : Rd w A1 l1) (h2 : Rd w A2 l2) (hc1 : l1.length ≤ c1) (hc2 : l2.length ≤ c2) (k2 : Canon l2) (hp : 0 < val l2) (hs1 : l1.length ≤ 65535) (hs2 : l2.length ≤ 65535) (hQ : val l1 / val l2 = Q) (hR2 : val l1 % val l2 = R) (hz : R = 0) :
    Calls Tryd.prog 62 #[iv false A1 l1.length c1, iv true A2 l2.length c2] w (RetQR (-(Q : Int)) ((0 : Nat) : Int) w) := by
  obtain ⟨W3, hW3, hb3, B1, B2, hR, hsz⟩ := boxes3 w false true A1 A2 c1 c2 l1 l2 h1 h2 hc1 hc2 #[.bool false, .slice none 0 0, .bool false, .slice none 0 0] 32
  have Hsz := Lib.hid hsz
  clear hsz
  have hsp := fun W (hW : Below W3.heap.size W3 W) => split_calls A1 A2 c1 c2 l1 l2 W (B1.rd.on hW) (B2.rd.on hW) hc1 hc2 k2 hp (by omega) (by omega)
  rw [hQ, hR2] at hsp
  have x0 := cell_at B1.blk 0 _ rfl
  have x1 := cell_at B1.blk 1 _ rfl
  have x2 := cell_at B2.blk 0 _ rfl
  have x3 := cell_at B2.blk 1 _ rfl
  subst hz
  clear hQ hR2 hp
  go_enter Tryd.func62, Tryd.ntmps62
  go_wp2_with (go_at_call 108; refine (hsp _ (Below.refl _ _)).mono ?_; rintro e w4 ⟨s4, A4, c4, l4, s5, A5, c5, l5, rfl, z4, z5, n4, n5, r4, r5, b4⟩; have i0 := cell_at (B1.on b4).blk 0 _ rfl; have i1 := cell_at (B1.on b4).blk 1 _ rfl; have i2 := cell_at (B2.on b4).blk 0 _ rfl; have i3 := cell_at (B2.on b4).blk 1 _ rfl; have hs4 := b4.size; have hs3 := Hsz.out; have lt0 : w.heap.size < w4.heap.size := (by omega); have lt1 : w.heap.size + 1 < w4.heap.size := (by omega); have lt2 : w.heap.size + 1 + 1 < w4.heap.size := (by omega); have en0 : ¬ w.heap.size = w4.heap.size := (by omega); have en1 : ¬ w.heap.size + 1 = w4.heap.size := (by omega); have en2 : ¬ w.heap.size + 1 + 1 = w4.heap.size := (by omega); clear hs3; have hq4 := hR.on b4; have z4' := isZ_pos z4; have z5' := isZ_pos z5; have h5 := z5.abs; have h50 : ¬ 0 < l5.length := (by rw [h5, show ((0 : Nat) : Int).natAbs = 0 from rfl, lim_zero]; exact Nat.lt_irrefl _); have h5i : ¬ (0 : Int) < (l5.length : Int) := (by omega); clear h5; have e0 := cell_at hq4.h 0 _ rfl; have u0 := frozen_at hq4.h 0; have e1 := cell_at hq4.h 1 _ rfl; have u1 := frozen_at hq4.h 1; have e2 := cell_at hq4.h 2 _ rfl; have u2 := frozen_at hq4.h 2; have e3 := cell_at hq4.h 3 _ rfl; have u3 := frozen_at hq4.h 3)
  have hw4 := hb3.trans (b4.mono hb3.size)
  have nw := noword4 (v1 := .bool false) (v2 := .slice none 0 0) (v3 := .bool false) (v4 := .slice none 0 0) (by intro x h; cases h) (by intro x h; cases h) (by intro x h; cases h) (by intro x h; cases h)
  exact ret_cellS rfl Tryd.underlying32 parts_size rfl rfl (fin4 hq4.h _ _ _ _ _) rfl ⟨_, A4, c4, l4, _, A5, c5, l5, rfl, isZ_sign z4, z5', n4, n5, rd4 hq4.h nw r4 _ _ _ _ _, rd4 hq4.h nw r5 _ _ _ _ _, ((((hw4.setCell (by dsimp only; omega) _).setCell (by dsimp only; omega) _).setCell (by dsimp only; omega) _).setCell (by dsimp only; omega) _).alloc (by simp [World.setCell]; omega) _⟩

set_option maxRecDepth 100000 in
set_option maxHeartbeats 4000000 in
theorem Divide_Bt (A1 A2 : Option Addr) (c1 c2 : Nat) (l1 l2 : List Nat) (Q R : Nat) (w : World) (h1 : Rd w A1 l1) (h2 : Rd w A2 l2) (hc1 : l1.length ≤ c1) (hc2 : l2.length ≤ c2) (k2 : Canon l2) (hp : 0 < val l2) (hs1 : l1.length ≤ 65535) (hs2 : l2.length ≤ 65535) (hQ : val l1 / val l2 = Q) (hR2 : val l1 % val l2 = R) (hz : R = 0) :
    Calls Tryd.prog 62 #[iv true A1 l1.length c1, iv false A2 l2.length c2] w (RetQR (-(Q : Int)) ((0 : Nat) : Int) w) := by
  obtain ⟨W3, hW3, hb3, B1, B2, hR, hsz⟩ := boxes3 w true false A1 A2 c1 c2 l1 l2 h1 h2 hc1 hc2 #[.bool false, .slice none 0 0, .bool false, .slice none 0 0] 32
  have Hsz := Lib.hid hsz
  clear hsz
  have hsp := fun W (hW : Below W3.heap.size W3 W) => split_calls A1 A2 c1 c2 l1 l2 W (B1.rd.on hW) (B2.rd.on hW) hc1 hc2 k2 hp (by omega) (by omega)
  rw [hQ, hR2] at hsp
  have x0 := cell_at B1.blk 0 _ rfl
  have x1 := cell_at B1.blk 1 _ rfl
  have x2 := cell_at B2.blk 0 _ rfl
  have x3 := cell_at B2.blk 1 _ rfl
  subst hz
  clear hQ hR2 hp
  go_enter Tryd.func62, Tryd.ntmps62
  go_wp2_with (go_at_call 108; refine (hsp _ (Below.refl _ _)).mono ?_; rintro e w4 ⟨s4, A4, c4, l4, s5, A5, c5, l5, rfl, z4, z5, n4, n5, r4, r5, b4⟩; have i0 := cell_at (B1.on b4).blk 0 _ rfl; have i1 := cell_at (B1.on b4).blk 1 _ rfl; have i2 := cell_at (B2.on b4).blk 0 _ rfl; have i3 := cell_at (B2.on b4).blk 1 _ rfl; have hs4 := b4.size; have hs3 := Hsz.out; have lt0 : w.heap.size < w4.heap.size := (by omega); have lt1 : w.heap.size + 1 < w4.heap.size := (by omega); have lt2 : w.heap.size + 1 + 1 < w4.heap.size := (by omega); have en0 : ¬ w.heap.size = w4.heap.size := (by omega); have en1 : ¬ w.heap.size + 1 = w4.heap.size := (by omega); have en2 : ¬ w.heap.size + 1 + 1 = w4.heap.size := (by omega); clear hs3; have hq4 := hR.on b4; have z4' := isZ_pos z4; have z5' := isZ_pos z5; have h5 := z5.abs; have h50 : ¬ 0 < l5.length := (by rw [h5, show ((0 : Nat) : Int).natAbs = 0 from rfl, lim_zero]; exact Nat.lt_irrefl _); have h5i : ¬ (0 : Int) < (l5.length : Int) := (by omega); clear h5; have e0 := cell_at hq4.h 0 _ rfl; have u0 := frozen_at hq4.h 0; have e1 := cell_at hq4.h 1 _ rfl; have u1 := frozen_at hq4.h 1; have e2 := cell_at hq4.h 2 _ rfl; have u2 := frozen_at hq4.h 2; have e3 := cell_at hq4.h 3 _ rfl; have u3 := frozen_at hq4.h 3)
  have hw4 := hb3.trans (b4.mono hb3.size)
  have nw := noword4 (v1 := .bool false) (v2 := .slice none 0 0) (v3 := .bool false) (v4 := .slice none 0 0) (by intro x h; cases h) (by intro x h; cases h) (by intro x h; cases h) (by intro x h; cases h)
  exact ret_cellS rfl Tryd.underlying32 parts_size rfl rfl (fin4 hq4.h _ _ _ _ _) rfl ⟨_, A4, c4, l4, _, A5, c5, l5, rfl, isZ_sign z4, z5', n4, n5, rd4 hq4.h nw r4 _ _ _ _ _, rd4 hq4.h nw r5 _ _ _ _ _, ((((hw4.setCell (by dsimp only; omega) _).setCell (by dsimp only; omega) _).setCell (by dsimp only; omega) _).setCell (by dsimp only; omega) _).alloc (by simp [World.setCell]; omega) _⟩

set_option maxRecDepth 100000 in
set_option maxHeartbeats 4000000 in
theorem Divide_Cf (A1 A2 : Option Addr) (c1 c2 : Nat) (l1 l2 : List Nat) (Q R : Nat) (w : World) (h1 : Rd w A1 l1) (h2 : Rd w A2 l2) (hc1 : l1.length ≤ c1) (hc2 : l2.length ≤ c2) (k2 : Canon l2) (hp : 0 < val l2) (hs1 : l1.length ≤ 65535) (hs2 : l2.length ≤ 65535) (hQ : val l1 / val l2 = Q) (hR2 : val l1 % val l2 = R) (hz : 0 < R) :
    Calls Tryd.prog 62 #[iv false A1 l1.length c1, iv true A2 l2.length c2] w (RetQR (-((Q : Int) + 1)) (if true then -((val l2 - R : Nat) : Int) else ((val l2 - R : Nat) : Int)) w) := by
  obtain ⟨W3, hW3, hb3, B1, B2, hR, hsz⟩ := boxes3 w false true A1 A2 c1 c2 l1 l2 h1 h2 hc1 hc2 #[.bool false, .slice none 0 0, .bool false, .slice none 0 0] 32
  have Hsz := Lib.hid hsz
  clear hsz
  have hsp := fun W (hW : Below W3.heap.size W3 W) => split_calls A1 A2 c1 c2 l1 l2 W (B1.rd.on hW) (B2.rd.on hW) hc1 hc2 k2 hp (by omega) (by omega)
  rw [hQ, hR2] at hsp
  have x0 := cell_at B1.blk 0 _ rfl
  have x1 := cell_at B1.blk 1 _ rfl
  have x2 := cell_at B2.blk 0 _ rfl
  have x3 := cell_at B2.blk 1 _ rfl
  have hRl : R < val l2 := by rw [← hR2]; exact Nat.mod_lt _ hp
  have hQl : (lim Q).length ≤ 65535 := Nat.le_trans (length_mono (show Q ≤ val l1 by rw [← hQ]; exact Nat.div_le_self _ _)) (Nat.le_trans (trim_length_le h1.words) hs1)
  clear hQ hR2 hp
  go_enter Tryd.func62, Tryd.ntmps62
  go_wp2_with first
    | (go_at_call 29; refine (Sum_calls (decide (0 < l4.length)) true A4 (some ⟨w4.heap.size + 1, 0, none⟩) c4 1 l4 [1] (-(Q : Int)) (-1) _ (r4.on (two_below _ _)) (word_at _ _) n4 (Nat.le_refl _) (isZ_sign z4) isZ_m1 (by omega) (by decide)).mono ?_; rintro e w6 ⟨s6, A6, c6, l6, rfl, z6, n6, r6, b6⟩; have b46 := (two_below (w := w4) (.cells #[.bool (decide (0 < l4.length)), .slice A4 l4.length c4, .bool true, .slice A5 l5.length c5] 32) (.cells #[.int .u32 1] 72)).trans (b6.mono (by simp; omega)); have hx6 := (b6.block w4.heap.size (by simp; omega)).trans (two_old w4 (.cells #[.bool (decide (0 < l4.length)), .slice A4 l4.length c4, .bool true, .slice A5 l5.length c5] 32) (.cells #[.int .u32 1] 72) rfl).h; have f0 := cell_at hx6 0 _ rfl; have v0 := frozen_at hx6 0; have f1 := cell_at hx6 1 _ rfl; have v1 := frozen_at hx6 1; have f2 := cell_at hx6 2 _ rfl; have v2 := frozen_at hx6 2; have f3 := cell_at hx6 3 _ rfl; have v3 := frozen_at hx6 3; have j2 := cell_at ((B2.on b4).on b46).blk 0 _ rfl; have j3 := cell_at ((B2.on b4).on b46).blk 1 _ rfl)
    | (go_at_call 108; refine (hsp _ (Below.refl _ _)).mono ?_; rintro e w4 ⟨s4, A4, c4, l4, s5, A5, c5, l5, rfl, z4, z5, n4, n5, r4, r5, b4⟩; have i0 := cell_at (B1.on b4).blk 0 _ rfl; have i1 := cell_at (B1.on b4).blk 1 _ rfl; have i2 := cell_at (B2.on b4).blk 0 _ rfl; have i3 := cell_at (B2.on b4).blk 1 _ rfl; have hs4 := b4.size; have hs3 := Hsz.out; have lt0 : w.heap.size < w4.heap.size := (by omega); have lt1 : w.heap.size + 1 < w4.heap.size := (by omega); have lt2 : w.heap.size + 1 + 1 < w4.heap.size := (by omega); have en0 : ¬ w.heap.size = w4.heap.size := (by omega); have en1 : ¬ w.heap.size + 1 = w4.heap.size := (by omega); have en2 : ¬ w.heap.size + 1 + 1 = w4.heap.size := (by omega); clear hs3; have hq4 := hR.on b4; have z4' := isZ_pos z4; have z5' := isZ_pos z5; have h5 := z5.abs; have h50 : 0 < l5.length := (by rw [h5]; exact lim_length_pos (by omega)); have h5i : (0 : Int) < (l5.length : Int) := (by omega); have h4 := z4.abs; have h4l : l4.length ≤ 65535 := (by rw [h4]; exact hQl); clear h5 h4; have e0 := cell_at hq4.h 0 _ rfl; have u0 := frozen_at hq4.h 0; have e1 := cell_at hq4.h 1 _ rfl; have u1 := frozen_at hq4.h 1; have e2 := cell_at hq4.h 2 _ rfl; have u2 := frozen_at hq4.h 2; have e3 := cell_at hq4.h 3 _ rfl; have u3 := frozen_at hq4.h 3)
  have nwx := noword4 (v1 := .bool (decide (0 < l4.length))) (v2 := .slice A4 l4.length c4) (v3 := .bool true) (v4 := .slice A5 l5.length c5) (by intro x h; cases h) (by intro x h; cases h) (by intro x h; cases h) (by intro x h; cases h)
  have r56 := r5.on b46
  have r26 := (B2.rd.on b4).on b46
  have m5 := r56.ne hx6 nwx
  have m2 := r26.ne hx6 nwx
  have m6 := r6.ne hx6 nwx
  obtain ⟨W7, hW7⟩ : ∃ W7, (w6.setCell ⟨w4.heap.size, 0, none⟩ (.bool s6)).setCell ⟨w4.heap.size, 1, none⟩ (.slice A6 l6.length c6) = W7 := ⟨_, rfl⟩
  have b47 : Below w4.heap.size w4 W7 := by rw [← hW7]; exact (b46.setCell (Nat.le_refl _) _).setCell (Nat.le_refl _) _
  have hx7 : W7.heap[w4.heap.size]? = some (.cells #[.bool s6, .slice A6 l6.length c6, .bool true, .slice A5 l5.length c5] 32 (0, 0)) := by rw [← hW7]; exact set_blk (set_blk hx6 0 _) 1 _
  have r57 : Rd W7 A5 l5 := by rw [← hW7]; exact (r56.setNe m5).setNe m5
  have r27 : Rd W7 A2 l2 := by rw [← hW7]; exact (r26.setNe m2).setNe m2
  have r67 : Rd W7 A6 l6 := by rw [← hW7]; exact (r6.setNe m6).setNe m6
  rw [hW7]
  clear hW7 j2 j3 i0 i1 i2 i3 e0 u0 e1 u1 e2 u2 e3 u3 f0 v0 f1 v1 f2 v2 f3 v3 x0 x1 x2 x3
  have hv5 : val l5 = R := by rw [z5'.val]; omega
  have hll : l5.length ≤ l2.length := by
    have := length_mono (show R ≤ val l2 by omega)
    rw [lim_val k2, ← hv5, lim_val z5'.canon] at this
    exact this
  have Hv5 := Lib.hid hv5
  have hls := less_calls A2 A5 c2 c5 l2 l5 W7 r27 r57 hc2 n5 (by omega) hll (by omega)
  rw [hv5] at hls
  have hRl' := Lib.hid hRl
  have hs7 := b47.size
  clear hv5 hll
  refine hls.mono ?_
  rintro e w8 ⟨A8, c8, l8, rfl, v8, -, n8, r8, b8⟩
  have V8 := Lib.hid v8
  clear v8
  have b78 : Below w4.heap.size w4 w8 := b47.trans (b8.mono hs7)
  have hmd := made_calls false A8 c8 l8 w8 r8 n8
  rw [V8.out] at hmd
  simp only [Bool.false_eq_true, if_false] at hmd
  go_wp2_with (go_at_call 70; refine hmd.mono ?_; rintro e w9 ⟨s9, A9, c9, l9, rfl, z9, n9, r9, b9⟩; have b49 : Below w4.heap.size w4 w9 := b78.trans (b9.mono (Nat.le_trans hs7 b8.size)); have hx9 := ((b8.trans (b9.mono b8.size)).block w4.heap.size (Array.getElem?_eq_some_iff.1 hx7).1).trans hx7; have f0 := cell_at hx9 0 _ rfl; have v0 := frozen_at hx9 0; have f1 := cell_at hx9 1 _ rfl; have v1 := frozen_at hx9 1; have f2 := cell_at hx9 2 _ rfl; have v2 := frozen_at hx9 2; have f3 := cell_at hx9 3 _ rfl; have v3 := frozen_at hx9 3; have j2 := cell_at ((B2.on b4).on b49).blk 0 _ rfl; have j3 := cell_at ((B2.on b4).on b49).blk 1 _ rfl; have hq9 := hq4.on b49; have e0 := cell_at hq9.h 0 _ rfl; have u0 := frozen_at hq9.h 0; have e1 := cell_at hq9.h 1 _ rfl; have u1 := frozen_at hq9.h 1; have e2 := cell_at hq9.h 2 _ rfl; have u2 := frozen_at hq9.h 2; have e3 := cell_at hq9.h 3 _ rfl; have u3 := frozen_at hq9.h 3; have hs9 := b49.size; have gt0 : w4.heap.size < w9.heap.size := (Array.getElem?_eq_some_iff.1 hx9).1; have gt1 : w.heap.size + 1 < w9.heap.size := (by omega); have gt2 : w.heap.size + 1 + 1 < w9.heap.size := (by omega); have gn1 : ¬ w.heap.size + 1 = w9.heap.size := (by omega); have gn2 : ¬ w.heap.size + 1 + 1 = w9.heap.size := (by omega); have gn3 : ¬ w4.heap.size = w9.heap.size := (by omega); have gn4 : ¬ w4.heap.size = w.heap.size + 1 := (by omega); have gn5 : ¬ w4.heap.size = w.heap.size + 1 + 1 := (by omega); have gn6 : ¬ w9.heap.size = w4.heap.size := (by omega))
  have r69 := (r67.on b8).on b9
  have nw9 := noword4 (v1 := .bool s6) (v2 := .slice A6 l6.length c6) (v3 := .bool true) (v4 := .slice A5 l5.length c5) (by intro x h; cases h) (by intro x h; cases h) (by intro x h; cases h) (by intro x h; cases h)
  have m9 := r9.ne hx9 nw9
  have m69 := r69.ne hx9 nw9
  have nw := noword4 (v1 := .bool false) (v2 := .slice none 0 0) (v3 := .bool false) (v4 := .slice none 0 0) (by intro x h; cases h) (by intro x h; cases h) (by intro x h; cases h) (by intro x h; cases h)
  obtain ⟨W10, hW10⟩ : ∃ W10, (w9.setCell ⟨w4.heap.size, 2, none⟩ (.bool true)).setCell ⟨w4.heap.size, 3, none⟩ (.slice A9 l9.length c9) = W10 := ⟨_, rfl⟩
  have hq10 : W10.heap[w.heap.size + 1 + 1]? = some (.cells #[.bool false, .slice none 0 0, .bool false, .slice none 0 0] 32 (0, 0)) := by rw [← hW10]; exact (Below.heap_setCell _ _ _ _ (by dsimp only; omega)).trans ((Below.heap_setCell _ _ _ _ (by dsimp only; omega)).trans hq9.h)
  have r610 : Rd W10 A6 l6 := by rw [← hW10]; exact (r69.setNe m69).setNe m69
  have r910 : Rd W10 A9 l9 := by rw [← hW10]; exact (r9.setNe m9).setNe m9
  have bw : Below w.heap.size w W10 := by rw [← hW10]; exact ((((hb3.trans (b4.mono hb3.size)).trans (b49.mono (by omega))).setCell (by dsimp only; omega) _).setCell (by dsimp only; omega) _)
  have bs := bw.size
  have hs10 : w.heap.size ≤ W10.heap.size := bw.size
  rw [hW10]
  have zz6 : IsZ s6 l6 (-((Q : Int) + 1)) := z6.cast (by omega)
  have z9' := isZ_sign z9
  have h9l : 0 < l9.length := by
    rw [z9.abs]
    refine lim_length_pos ?_
    have := hRl'.out
    omega
  rw [decide_eq_true h9l] at z9'
  exact ret_cellS rfl Tryd.underlying32 parts_size rfl rfl (fin4 hq10 _ _ _ _ _) rfl ⟨_, A6, c6, l6, _, A9, c9, l9, rfl, zz6, z9', n6, n9, rd4 hq10 nw r610 _ _ _ _ _, rd4 hq10 nw r910 _ _ _ _ _, ((((bw.setCell (by dsimp only; omega) _).setCell (by dsimp only; omega) _).setCell (by dsimp only; omega) _).setCell (by dsimp only; omega) _).alloc (by simp [World.setCell]; omega) _⟩

set_option maxRecDepth 100000 in
set_option maxHeartbeats 4000000 in
theorem Divide_Ct (A1 A2 : Option Addr) (c1 c2 : Nat) (l1 l2 : List Nat) (Q R : Nat) (w : World) (h1 : Rd w A1 l1) (h2 : Rd w A2 l2) (hc1 : l1.length ≤ c1) (hc2 : l2.length ≤ c2) (k2 : Canon l2) (hp : 0 < val l2) (hs1 : l1.length ≤ 65535) (hs2 : l2.length ≤ 65535) (hQ : val l1 / val l2 = Q) (hR2 : val l1 % val l2 = R) (hz : 0 < R) :
    Calls Tryd.prog 62 #[iv true A1 l1.length c1, iv false A2 l2.length c2] w (RetQR (-((Q : Int) + 1)) (if false then -((val l2 - R : Nat) : Int) else ((val l2 - R : Nat) : Int)) w) := by
  obtain ⟨W3, hW3, hb3, B1, B2, hR, hsz⟩ := boxes3 w true false A1 A2 c1 c2 l1 l2 h1 h2 hc1 hc2 #[.bool false, .slice none 0 0, .bool false, .slice none 0 0] 32
  have Hsz := Lib.hid hsz
  clear hsz
  have hsp := fun W (hW : Below W3.heap.size W3 W) => split_calls A1 A2 c1 c2 l1 l2 W (B1.rd.on hW) (B2.rd.on hW) hc1 hc2 k2 hp (by omega) (by omega)
  rw [hQ, hR2] at hsp
  have x0 := cell_at B1.blk 0 _ rfl
  have x1 := cell_at B1.blk 1 _ rfl
  have x2 := cell_at B2.blk 0 _ rfl
  have x3 := cell_at B2.blk 1 _ rfl
  have hRl : R < val l2 := by rw [← hR2]; exact Nat.mod_lt _ hp
  have hQl : (lim Q).length ≤ 65535 := Nat.le_trans (length_mono (show Q ≤ val l1 by rw [← hQ]; exact Nat.div_le_self _ _)) (Nat.le_trans (trim_length_le h1.words) hs1)
  clear hQ hR2 hp
  go_enter Tryd.func62, Tryd.ntmps62
  go_wp2_with first
    | (go_at_call 29; refine (Sum_calls (decide (0 < l4.length)) true A4 (some ⟨w4.heap.size + 1, 0, none⟩) c4 1 l4 [1] (-(Q : Int)) (-1) _ (r4.on (two_below _ _)) (word_at _ _) n4 (Nat.le_refl _) (isZ_sign z4) isZ_m1 (by omega) (by decide)).mono ?_; rintro e w6 ⟨s6, A6, c6, l6, rfl, z6, n6, r6, b6⟩; have b46 := (two_below (w := w4) (.cells #[.bool (decide (0 < l4.length)), .slice A4 l4.length c4, .bool false, .slice A5 l5.length c5] 32) (.cells #[.int .u32 1] 72)).trans (b6.mono (by simp; omega)); have hx6 := (b6.block w4.heap.size (by simp; omega)).trans (two_old w4 (.cells #[.bool (decide (0 < l4.length)), .slice A4 l4.length c4, .bool false, .slice A5 l5.length c5] 32) (.cells #[.int .u32 1] 72) rfl).h; have f0 := cell_at hx6 0 _ rfl; have v0 := frozen_at hx6 0; have f1 := cell_at hx6 1 _ rfl; have v1 := frozen_at hx6 1; have f2 := cell_at hx6 2 _ rfl; have v2 := frozen_at hx6 2; have f3 := cell_at hx6 3 _ rfl; have v3 := frozen_at hx6 3; have j2 := cell_at ((B2.on b4).on b46).blk 0 _ rfl; have j3 := cell_at ((B2.on b4).on b46).blk 1 _ rfl)
    | (go_at_call 108; refine (hsp _ (Below.refl _ _)).mono ?_; rintro e w4 ⟨s4, A4, c4, l4, s5, A5, c5, l5, rfl, z4, z5, n4, n5, r4, r5, b4⟩; have i0 := cell_at (B1.on b4).blk 0 _ rfl; have i1 := cell_at (B1.on b4).blk 1 _ rfl; have i2 := cell_at (B2.on b4).blk 0 _ rfl; have i3 := cell_at (B2.on b4).blk 1 _ rfl; have hs4 := b4.size; have hs3 := Hsz.out; have lt0 : w.heap.size < w4.heap.size := (by omega); have lt1 : w.heap.size + 1 < w4.heap.size := (by omega); have lt2 : w.heap.size + 1 + 1 < w4.heap.size := (by omega); have en0 : ¬ w.heap.size = w4.heap.size := (by omega); have en1 : ¬ w.heap.size + 1 = w4.heap.size := (by omega); have en2 : ¬ w.heap.size + 1 + 1 = w4.heap.size := (by omega); clear hs3; have hq4 := hR.on b4; have z4' := isZ_pos z4; have z5' := isZ_pos z5; have h5 := z5.abs; have h50 : 0 < l5.length := (by rw [h5]; exact lim_length_pos (by omega)); have h5i : (0 : Int) < (l5.length : Int) := (by omega); have h4 := z4.abs; have h4l : l4.length ≤ 65535 := (by rw [h4]; exact hQl); clear h5 h4; have e0 := cell_at hq4.h 0 _ rfl; have u0 := frozen_at hq4.h 0; have e1 := cell_at hq4.h 1 _ rfl; have u1 := frozen_at hq4.h 1; have e2 := cell_at hq4.h 2 _ rfl; have u2 := frozen_at hq4.h 2; have e3 := cell_at hq4.h 3 _ rfl; have u3 := frozen_at hq4.h 3)
  have nwx := noword4 (v1 := .bool (decide (0 < l4.length))) (v2 := .slice A4 l4.length c4) (v3 := .bool false) (v4 := .slice A5 l5.length c5) (by intro x h; cases h) (by intro x h; cases h) (by intro x h; cases h) (by intro x h; cases h)
  have r56 := r5.on b46
  have r26 := (B2.rd.on b4).on b46
  have m5 := r56.ne hx6 nwx
  have m2 := r26.ne hx6 nwx
  have m6 := r6.ne hx6 nwx
  obtain ⟨W7, hW7⟩ : ∃ W7, (w6.setCell ⟨w4.heap.size, 0, none⟩ (.bool s6)).setCell ⟨w4.heap.size, 1, none⟩ (.slice A6 l6.length c6) = W7 := ⟨_, rfl⟩
  have b47 : Below w4.heap.size w4 W7 := by rw [← hW7]; exact (b46.setCell (Nat.le_refl _) _).setCell (Nat.le_refl _) _
  have hx7 : W7.heap[w4.heap.size]? = some (.cells #[.bool s6, .slice A6 l6.length c6, .bool false, .slice A5 l5.length c5] 32 (0, 0)) := by rw [← hW7]; exact set_blk (set_blk hx6 0 _) 1 _
  have r57 : Rd W7 A5 l5 := by rw [← hW7]; exact (r56.setNe m5).setNe m5
  have r27 : Rd W7 A2 l2 := by rw [← hW7]; exact (r26.setNe m2).setNe m2
  have r67 : Rd W7 A6 l6 := by rw [← hW7]; exact (r6.setNe m6).setNe m6
  rw [hW7]
  clear hW7 j2 j3 i0 i1 i2 i3 e0 u0 e1 u1 e2 u2 e3 u3 f0 v0 f1 v1 f2 v2 f3 v3 x0 x1 x2 x3
  have hv5 : val l5 = R := by rw [z5'.val]; omega
  have hll : l5.length ≤ l2.length := by
    have := length_mono (show R ≤ val l2 by omega)
    rw [lim_val k2, ← hv5, lim_val z5'.canon] at this
    exact this
  have Hv5 := Lib.hid hv5
  have hls := less_calls A2 A5 c2 c5 l2 l5 W7 r27 r57 hc2 n5 (by omega) hll (by omega)
  rw [hv5] at hls
  have hRl' := Lib.hid hRl
  have hs7 := b47.size
  clear hv5 hll
  refine hls.mono ?_
  rintro e w8 ⟨A8, c8, l8, rfl, v8, -, n8, r8, b8⟩
  have V8 := Lib.hid v8
  clear v8
  have b78 : Below w4.heap.size w4 w8 := b47.trans (b8.mono hs7)
  have hmd := made_calls false A8 c8 l8 w8 r8 n8
  rw [V8.out] at hmd
  simp only [Bool.false_eq_true, if_false] at hmd
  go_wp2_with (go_at_call 70; refine hmd.mono ?_; rintro e w9 ⟨s9, A9, c9, l9, rfl, z9, n9, r9, b9⟩; have b49 : Below w4.heap.size w4 w9 := b78.trans (b9.mono (Nat.le_trans hs7 b8.size)); have hx9 := ((b8.trans (b9.mono b8.size)).block w4.heap.size (Array.getElem?_eq_some_iff.1 hx7).1).trans hx7; have f0 := cell_at hx9 0 _ rfl; have v0 := frozen_at hx9 0; have f1 := cell_at hx9 1 _ rfl; have v1 := frozen_at hx9 1; have f2 := cell_at hx9 2 _ rfl; have v2 := frozen_at hx9 2; have f3 := cell_at hx9 3 _ rfl; have v3 := frozen_at hx9 3; have j2 := cell_at ((B2.on b4).on b49).blk 0 _ rfl; have j3 := cell_at ((B2.on b4).on b49).blk 1 _ rfl; have hq9 := hq4.on b49; have e0 := cell_at hq9.h 0 _ rfl; have u0 := frozen_at hq9.h 0; have e1 := cell_at hq9.h 1 _ rfl; have u1 := frozen_at hq9.h 1; have e2 := cell_at hq9.h 2 _ rfl; have u2 := frozen_at hq9.h 2; have e3 := cell_at hq9.h 3 _ rfl; have u3 := frozen_at hq9.h 3; have hs9 := b49.size; have gt0 : w4.heap.size < w9.heap.size := (Array.getElem?_eq_some_iff.1 hx9).1; have gt1 : w.heap.size + 1 < w9.heap.size := (by omega); have gt2 : w.heap.size + 1 + 1 < w9.heap.size := (by omega); have gn1 : ¬ w.heap.size + 1 = w9.heap.size := (by omega); have gn2 : ¬ w.heap.size + 1 + 1 = w9.heap.size := (by omega); have gn3 : ¬ w4.heap.size = w9.heap.size := (by omega); have gn4 : ¬ w4.heap.size = w.heap.size + 1 := (by omega); have gn5 : ¬ w4.heap.size = w.heap.size + 1 + 1 := (by omega); have gn6 : ¬ w9.heap.size = w4.heap.size := (by omega))
  have r69 := (r67.on b8).on b9
  have nw9 := noword4 (v1 := .bool s6) (v2 := .slice A6 l6.length c6) (v3 := .bool false) (v4 := .slice A5 l5.length c5) (by intro x h; cases h) (by intro x h; cases h) (by intro x h; cases h) (by intro x h; cases h)
  have m9 := r9.ne hx9 nw9
  have m69 := r69.ne hx9 nw9
  have nw := noword4 (v1 := .bool false) (v2 := .slice none 0 0) (v3 := .bool false) (v4 := .slice none 0 0) (by intro x h; cases h) (by intro x h; cases h) (by intro x h; cases h) (by intro x h; cases h)
  obtain ⟨W10, hW10⟩ : ∃ W10, (w9.setCell ⟨w4.heap.size, 2, none⟩ (.bool false)).setCell ⟨w4.heap.size, 3, none⟩ (.slice A9 l9.length c9) = W10 := ⟨_, rfl⟩
  have hq10 : W10.heap[w.heap.size + 1 + 1]? = some (.cells #[.bool false, .slice none 0 0, .bool false, .slice none 0 0] 32 (0, 0)) := by rw [← hW10]; exact (Below.heap_setCell _ _ _ _ (by dsimp only; omega)).trans ((Below.heap_setCell _ _ _ _ (by dsimp only; omega)).trans hq9.h)
  have r610 : Rd W10 A6 l6 := by rw [← hW10]; exact (r69.setNe m69).setNe m69
  have r910 : Rd W10 A9 l9 := by rw [← hW10]; exact (r9.setNe m9).setNe m9
  have bw : Below w.heap.size w W10 := by rw [← hW10]; exact ((((hb3.trans (b4.mono hb3.size)).trans (b49.mono (by omega))).setCell (by dsimp only; omega) _).setCell (by dsimp only; omega) _)
  have bs := bw.size
  have hs10 : w.heap.size ≤ W10.heap.size := bw.size
  rw [hW10]
  have zz6 : IsZ s6 l6 (-((Q : Int) + 1)) := z6.cast (by omega)
  have z9' := isZ_pos z9
  have h9l : 0 < l9.length := by
    rw [z9.abs]
    refine lim_length_pos ?_
    have := hRl'.out
    omega
  skip
  exact ret_cellS rfl Tryd.underlying32 parts_size rfl rfl (fin4 hq10 _ _ _ _ _) rfl ⟨_, A6, c6, l6, _, A9, c9, l9, rfl, zz6, z9', n6, n9, rd4 hq10 nw r610 _ _ _ _ _, rd4 hq10 nw r910 _ _ _ _ _, ((((bw.setCell (by dsimp only; omega) _).setCell (by dsimp only; omega) _).setCell (by dsimp only; omega) _).setCell (by dsimp only; omega) _).alloc (by simp [World.setCell]; omega) _⟩

theorem Divide_calls (n1 n2 : Bool) (A1 A2 : Option Addr) (c1 c2 : Nat) (l1 l2 : List Nat) (z1 z2 : Int) (w : World) (h1 : Rd w A1 l1) (h2 : Rd w A2 l2) (hc1 : l1.length ≤ c1) (hc2 : l2.length ≤ c2) (k1 : IsZ n1 l1 z1) (k2 : IsZ n2 l2 z2) (hp : z2 ≠ 0) (hs1 : l1.length ≤ 65535) (hs2 : l2.length ≤ 65535) :
    Calls Tryd.prog 62 #[iv n1 A1 l1.length c1, iv n2 A2 l2.length c2] w (RetQR (divZ z1 z2) (modZ z1 z2) w) := by
  have hp0 : 0 < val l2 := by rw [k2.val]; omega
  have e1 := k1.toZ
  have e2 := k2.toZ
  unfold toZ at e1 e2
  rw [← e1, ← e2]
  have hlt := Nat.mod_lt (val l1) hp0
  by_cases hn : n1 = n2
  · subst hn
    obtain ⟨hd, hm⟩ := div_same n1 (val l1) (val l2) hp0
    rw [hd, hm]
    cases n1
    · exact Divide_Af A1 A2 c1 c2 l1 l2 _ _ w h1 h2 hc1 hc2 k2.canon hp0 hs1 hs2 rfl rfl
    · exact Divide_At A1 A2 c1 c2 l1 l2 _ _ w h1 h2 hc1 hc2 k2.canon hp0 hs1 hs2 rfl rfl
  · obtain rfl : n2 = !n1 := by cases n1 <;> cases n2 <;> simp_all
    obtain ⟨hd, hm⟩ := div_other n1 (val l1) (val l2) hp0
    rw [hd, hm]
    by_cases h0 : val l1 % val l2 = 0
    · rw [if_pos h0, if_pos h0]
      cases n1
      · exact Divide_Bf A1 A2 c1 c2 l1 l2 _ _ w h1 h2 hc1 hc2 k2.canon hp0 hs1 hs2 rfl rfl h0
      · exact Divide_Bt A1 A2 c1 c2 l1 l2 _ _ w h1 h2 hc1 hc2 k2.canon hp0 hs1 hs2 rfl rfl h0
    · rw [if_neg h0, if_neg h0]
      cases n1
      · exact Divide_Cf A1 A2 c1 c2 l1 l2 _ _ w h1 h2 hc1 hc2 k2.canon hp0 hs1 hs2 rfl rfl (by omega)
      · exact Divide_Ct A1 A2 c1 c2 l1 l2 _ _ w h1 h2 hc1 hc2 k2.canon hp0 hs1 hs2 rfl rfl (by omega)

end Nm
end Go.Proofs.YtlhmbbpkhahbeaaDoor
namespace Go.Proofs.YtlhmbbpkhahbeaaDoor
namespace Nm
open Go.RowKit Go.Shelf Go.BigFrame
attribute [local go_sem] Oper.semAt_some

theorem divZ_le (a b : Int) : (divZ a b).natAbs ≤ a.natAbs := by
  unfold divZ
  split
  · exact Int.natAbs_ediv_le_natAbs a b
  · have := Int.natAbs_ediv_le_natAbs (-a) (-b)
    rwa [Int.natAbs_neg] at this

theorem rdivided_size : (Tryd.prog.info? 34).map (·.size) = some 5 := by kernel_rfl

theorem set5 {W : World} {B : Nat} {a0 a1 a2 a3 a4 : Value} {t : TypeId} (h : W.heap[B]? = some (.cells #[a0, a1, a2, a3, a4] t (0, 0))) (v0 v1 v2 v3 v4 : Value) :
    (((((W.setCell ⟨B, 0, none⟩ v0).setCell ⟨B, 1, none⟩ v1).setCell ⟨B, 2, none⟩ v2).setCell ⟨B, 3, none⟩ v3).setCell ⟨B, 4, none⟩ v4).heap[B]? = some (.cells #[v0, v1, v2, v3, v4] t (0, 0)) := by
  have h0 : (W.setCell ⟨B, 0, none⟩ v0).heap[B]? = some (.cells #[v0, a1, a2, a3, a4] t (0, 0)) := set_blk h 0 v0
  generalize W.setCell ⟨B, 0, none⟩ v0 = W at *
  have h1 : (W.setCell ⟨B, 1, none⟩ v1).heap[B]? = some (.cells #[v0, v1, a2, a3, a4] t (0, 0)) := set_blk h0 1 v1
  generalize W.setCell ⟨B, 1, none⟩ v1 = W at *
  have h2 : (W.setCell ⟨B, 2, none⟩ v2).heap[B]? = some (.cells #[v0, v1, v2, a3, a4] t (0, 0)) := set_blk h1 2 v2
  generalize W.setCell ⟨B, 2, none⟩ v2 = W at *
  have h3 : (W.setCell ⟨B, 3, none⟩ v3).heap[B]? = some (.cells #[v0, v1, v2, v3, a4] t (0, 0)) := set_blk h2 3 v3
  generalize W.setCell ⟨B, 3, none⟩ v3 = W at *
  exact set_blk h3 4 v4

/-- a quotient and a rest of the specification, or an error -/
def RetDvd (q r er : Int) (w : World) (e : Ending) (w' : World) : Prop :=
  ∃ s1 A1 c1 l1 s2 A2 c2 l2, e = .returned (.agg #[.bool s1, .slice A1 l1.length c1, .bool s2, .slice A2 l2.length c2, .int .i64 er]) ∧ IsZ s1 l1 q ∧ IsZ s2 l2 r ∧ l1.length ≤ c1 ∧ l2.length ≤ c2 ∧ Rd w' A1 l1 ∧ Rd w' A2 l2 ∧ Below w.heap.size w w'

set_option maxRecDepth 100000 in
set_option maxHeartbeats 4000000 in
theorem RDiv_calls (n1 n2 : Bool) (A1 A2 : Option Addr) (c1 c2 : Nat) (l1 l2 : List Nat) (w : World) (h1 : Rd w A1 l1) (h2 : Rd w A2 l2) (hc1 : l1.length ≤ c1) (hc2 : l2.length ≤ c2) :
    Calls Tryd.prog 19 #[iv n1 A1 l1.length c1, iv n2 A2 l2.length c2] w (RetDvd (divR n1 l1 n2 l2).1 (divR n1 l1 n2 l2).2.1 (divR n1 l1 n2 l2).2.2 w) := by
  obtain ⟨W3, hW3, hb3, B1, B2, hR, hsz⟩ := boxes3 w n1 n2 A1 A2 c1 c2 l1 l2 h1 h2 hc1 hc2 #[.bool false, .slice none 0 0, .bool false, .slice none 0 0, .int .i64 0] 34
  have Hsz := Lib.hid hsz
  clear hsz
  have hbo := both_calls n1 n2 A1 A2 c1 c2 l1 l2 W3 B1.rd B2.rd hc1 hc2
  have x0 := cell_at B1.blk 0 _ rfl
  have x1 := cell_at B1.blk 1 _ rfl
  have x2 := cell_at B2.blk 0 _ rfl
  have x3 := cell_at B2.blk 1 _ rfl
  unfold divR
  by_cases hok : (okI n1 l1 && okI n2 l2) = true
  · rw [if_pos hok]
    rw [hok] at hbo
    rw [Bool.and_eq_true] at hok
    have k1 := okI_isInt h1.words hok.1
    have k2 := okI_isInt h2.words hok.2
    by_cases h0 : l2.length = 0
    · rw [if_pos h0]
      have z1 : ((l2.length : Int) == 0) = true := by simpa using List.length_eq_zero_iff.1 h0
      have z2 : (l2.length == 0) = true := by simpa using List.length_eq_zero_iff.1 h0
      clear hok h0
      go_enter Tryd.func19, Tryd.ntmps19
      go_wp2_with first
        | (go_at_call 61; refine hbo.mono ?_; rintro e w4 ⟨rfl, b4⟩; have i0 := cell_at (B1.on b4).blk 0 _ rfl; have i1 := cell_at (B1.on b4).blk 1 _ rfl; have i2 := cell_at (B2.on b4).blk 0 _ rfl; have i3 := cell_at (B2.on b4).blk 1 _ rfl; have rq := hR.on b4; have e0 := cell_at rq.h 0 _ rfl; have u0 := frozen_at rq.h 0; have e1 := cell_at rq.h 1 _ rfl; have u1 := frozen_at rq.h 1; have e2 := cell_at rq.h 2 _ rfl; have u2 := frozen_at rq.h 2; have e3 := cell_at rq.h 3 _ rfl; have u3 := frozen_at rq.h 3; have e4 := cell_at rq.h 4 _ rfl; have u4 := frozen_at rq.h 4)
      exact ret_cellS rfl Tryd.underlying34 rdivided_size rfl rfl (set5 rq.h _ _ _ _ _) rfl ⟨false, none, 0, [], false, none, 0, [], rfl, isZ_zero, isZ_zero, Nat.le_refl _, Nat.le_refl _, Rd.nil _ _, Rd.nil _ _, ((((((hb3.trans (b4.mono hb3.size)).setCell (by dsimp only; omega) _).setCell (by dsimp only; omega) _).setCell (by dsimp only; omega) _).setCell (by dsimp only; omega) _).setCell (by dsimp only; omega) _)⟩
    · rw [if_neg h0]
      have q1 := k1.isZ
      have q2 := k2.isZ
      have s1 := k1.small
      have s2 := k2.small
      have hz2 : toZ n2 l2 ≠ 0 := by
        have hv : 0 < val l2 := val_pos_of_canon k2.canon (fun e => h0 (by rw [e]; rfl))
        unfold toZ
        split <;> omega
      have hsl : (lim (divZ (toZ n1 l1) (toZ n2 l2)).natAbs).length ≤ 300 := Nat.le_trans (length_mono (divZ_le _ _)) (by rw [← q1.abs]; exact s1)
      have hf := fun W (hW : Below W3.heap.size W3 W) => Divide_calls n1 n2 A1 A2 c1 c2 l1 l2 _ _ W (B1.rd.on hW) (B2.rd.on hW) hc1 hc2 q1 q2 hz2 (by omega) (by omega)
      generalize divZ (toZ n1 l1) (toZ n2 l2) = q at *
      generalize modZ (toZ n1 l1) (toZ n2 l2) = r at *
      have z1 : ((l2.length : Int) == 0) = false := by rw [beq_eq_false_iff_ne]; omega
      have z2 : (l2.length == 0) = false := by rw [beq_eq_false_iff_ne]; omega
      clear hok hz2
      go_enter Tryd.func19, Tryd.ntmps19
      go_wp2_with first
        | (go_at_call 61; refine hbo.mono ?_; rintro e w4 ⟨rfl, b4⟩; have i0 := cell_at (B1.on b4).blk 0 _ rfl; have i1 := cell_at (B1.on b4).blk 1 _ rfl; have i2 := cell_at (B2.on b4).blk 0 _ rfl; have i3 := cell_at (B2.on b4).blk 1 _ rfl)
        | (go_at_call 62; refine (hf _ b4).mono ?_; rintro e w5 ⟨s5, A5, c5, l5, s6, A6, c6, l6, rfl, z5, z6, n5, n6, r5, r6, b5⟩; have bb5 := b4.trans (b5.mono b4.size); have h5 := z5.abs; have h5l : l5.length ≤ 300 := (by rw [h5]; exact hsl); have h5i : ¬ (300 : Int) < (l5.length : Int) := (by omega); clear h5; have rq := hR.on bb5; have e0 := cell_at rq.h 0 _ rfl; have u0 := frozen_at rq.h 0; have e1 := cell_at rq.h 1 _ rfl; have u1 := frozen_at rq.h 1; have e2 := cell_at rq.h 2 _ rfl; have u2 := frozen_at rq.h 2; have e3 := cell_at rq.h 3 _ rfl; have u3 := frozen_at rq.h 3; have e4 := cell_at rq.h 4 _ rfl; have u4 := frozen_at rq.h 4; have hs3 := Hsz.out; have hs5 := bb5.size; have lt2 : w.heap.size + 1 + 1 < w5.heap.size := (by omega); have en2 : ¬ w.heap.size + 1 + 1 = w5.heap.size := (by omega); have en3 : ¬ w5.heap.size = w.heap.size + 1 + 1 := (by omega); clear hs3)
      have nw5 : ∀ (i : Nat) (x : Int), (#[.bool false, .slice none 0 0, .bool false, .slice none 0 0, .int .i64 0] : Array Value)[i]? = some (.int .u32 x) → False := by intro i x h; rcases i with _ | _ | _ | _ | _ | i <;> simp at h
      have m5 := r5.ne rq.h nw5
      have m6 := r6.ne rq.h nw5
      have h5' := set5 rq.h (.bool s5) (.slice A5 l5.length c5) (.bool s6) (.slice A6 l6.length c6) (.int .i64 0)
      have r5' := (((((r5.setNe (i := 0) (v := .bool s5) m5).setNe (i := 1) (v := .slice A5 l5.length c5) m5).setNe (i := 2) (v := .bool s6) m5).setNe (i := 3) (v := .slice A6 l6.length c6) m5).setNe (i := 4) (v := .int .i64 0) m5)
      have r6' := (((((r6.setNe (i := 0) (v := .bool s5) m6).setNe (i := 1) (v := .slice A5 l5.length c5) m6).setNe (i := 2) (v := .bool s6) m6).setNe (i := 3) (v := .slice A6 l6.length c6) m6).setNe (i := 4) (v := .int .i64 0) m6)
      exact ret_cellS rfl Tryd.underlying34 rdivided_size rfl rfl ((Below.heap_alloc _ _ _ (Array.getElem?_eq_some_iff.1 h5').1).trans h5') rfl ⟨s5, A5, c5, l5, s6, A6, c6, l6, rfl, z5, z6, n5, n6, r5'.on ((Below.refl _ _).alloc (Nat.le_refl _) _), r6'.on ((Below.refl _ _).alloc (Nat.le_refl _) _), ((((((hb3.trans (bb5.mono hb3.size)).setCell (by dsimp only; omega) _).setCell (by dsimp only; omega) _).setCell (by dsimp only; omega) _).setCell (by dsimp only; omega) _).setCell (by dsimp only; omega) _).alloc (by simp [World.setCell]; omega) _⟩
  · rw [if_neg hok]
    rw [show (okI n1 l1 && okI n2 l2) = false by simpa using hok] at hbo
    clear hok
    go_enter Tryd.func19, Tryd.ntmps19
    go_wp2_with (go_at_call 61; refine hbo.mono ?_; rintro e w4 ⟨rfl, b4⟩; have rq := hR.on b4; have e0 := cell_at rq.h 0 _ rfl; have u0 := frozen_at rq.h 0; have e1 := cell_at rq.h 1 _ rfl; have u1 := frozen_at rq.h 1; have e2 := cell_at rq.h 2 _ rfl; have u2 := frozen_at rq.h 2; have e3 := cell_at rq.h 3 _ rfl; have u3 := frozen_at rq.h 3; have e4 := cell_at rq.h 4 _ rfl; have u4 := frozen_at rq.h 4)
    exact ret_cellS rfl Tryd.underlying34 rdivided_size rfl rfl (set5 rq.h _ _ _ _ _) rfl ⟨false, none, 0, [], false, none, 0, [], rfl, isZ_zero, isZ_zero, Nat.le_refl _, Nat.le_refl _, Rd.nil _ _, Rd.nil _ _, ((((((hb3.trans (b4.mono hb3.size)).setCell (by dsimp only; omega) _).setCell (by dsimp only; omega) _).setCell (by dsimp only; omega) _).setCell (by dsimp only; omega) _).setCell (by dsimp only; omega) _)⟩

end Nm
end Go.Proofs.YtlhmbbpkhahbeaaDoor
