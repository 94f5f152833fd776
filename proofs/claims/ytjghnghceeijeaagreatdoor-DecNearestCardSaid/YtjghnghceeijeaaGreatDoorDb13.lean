/-
  Contracts of the walks below.
-/
import Derived.Test.YtjghnghceeijeaaGreatDoorDb11
import Derived.Test.YtjghnghceeijeaaGreatDoorDb12
set_option maxRecDepth 100000
set_option maxHeartbeats 4000000
set_option linter.unusedVariables false
set_option linter.unusedSimpArgs false
namespace Go.Proofs.YtjghnghceeijeaaGreatDoor
namespace Nm
open Go.RowKit Go.Shelf Go.BigFrame
attribute [local go_sem] Oper.semAt_some
theorem underl_u32 : Tryz.prog.underlying 22 = some (.slice 127) := by kernel_rfl
theorem make_u32 (L C : Int) (n m : Nat) (hL : L = (n : Int)) (hC : C = (m : Int)) (hnm : n ≤ m) (hm : m ≤ 35184372088832) (W : World) :
 (Instr.makeSlice 22 (.int .i64 L) (.int .i64 C)).run Tryz.prog W = .ok (.slice (some ⟨W.heap.size, 0, none⟩) n m) (W.alloc (.cells (warr (List.replicate m 0)) 127)) := by
 obtain ⟨i0, hi, hz0, hz1, hz2⟩ := info_parts info_u32
 subst hL hC
 have := run_make (P := Tryz.prog) W 22 127 i0 _ underl_u32 hi hz0 .i64 .i64 (n : Int) (m : Int) (by omega) (by omega) (by rw [hz2]; omega) (by omega)
 rw [this, hz1]
 simp [Value.cells, warr_made]
set_option maxHeartbeats 8000000 in
theorem Times_calls (n1 n2 : Bool) (A1 A2 : Option Addr) (c1 c2 : Nat) (l1 l2 : List Nat) (w : World) (h1 : Rd w A1 l1) (h2 : Rd w A2 l2) (hc1 : l1.length ≤ c1) (hc2 : l2.length ≤ c2) (hs1 : l1.length ≤ 65536) (hs2 : l2.length ≤ 65536) :
 Calls Tryz.prog 34 #[iv n1 A1 l1.length c1, iv n2 A2 l2.length c2] w (RetZ (toZ n1 l1 * toZ n2 l2) w) := by
 obtain ⟨W3, hW3, hb3, B1, B2, hR, hsz⟩ := boxes3 w n1 n2 A1 A2 c1 c2 l1 l2 h1 h2 hc1 hc2 #[.bool false, .slice none 0 0] 24
 have Hsz := Lib.hid hsz
 obtain ⟨N, hN⟩ : ∃ N, l1.length + l2.length = N := ⟨_, rfl⟩
 have hNc : (l1.length : Int) + (l2.length : Int) = (N : Int) := by omega
 have hN2 : N ≤ 131072 := by omega
 have hmk := make_u32 (N : Int) (N : Int) N N rfl rfl (Nat.le_refl _) (by omega) W3
 rw [toZ_mul, show (n1 != n2) = !(n1 == n2) from rfl]
 obtain ⟨x0, x1⟩ := cL2 B1.blk
 obtain ⟨x2, x3⟩ := cL2 B2.blk
 have r1 := B1.rd
 have r2 := B2.rd
 obtain ⟨g, hg⟩ : ∃ g, W3.heap.size = g := ⟨_, rfl⟩
 have hgs : g = w.heap.size + 3 := by rw [← hg]; exact hsz
 clear hsz
 generalize hs' : (n1 == n2) = s
 have hfin : (if (!s) = true then -((val l1 * val l2 : Nat) : Int) else ((val l1 * val l2 : Nat) : Int)) = (if (!s) = true then -((val l1 * val l2 : Nat) : Int) else ((val l1 * val l2 : Nat) : Int)) := rfl
 generalize hz : (if (!s) = true then -((val l1 * val l2 : Nat) : Int) else ((val l1 * val l2 : Nat) : Int)) = z at *
 have Hz := Lib.hid hz
 have HN := Lib.hid hN
 clear hz hfin hN
 have har0 : Arr (W3.alloc (.cells (warr (List.replicate N 0)) 127)) (g) ([] ++ List.replicate (l1.length - 0) 0 ++ List.replicate l2.length 0) := by
  rw [← hg, List.nil_append, List.replicate_append_replicate, show l1.length - 0 + l2.length = N by have := HN.out; omega]
  exact arr_new W3 _
 have hb4 : Below W3.heap.size W3 (W3.alloc (.cells (warr (List.replicate N 0)) 127)) := (Below.refl _ _).alloc (Nat.le_refl _) _
 have Hgs := Lib.hid hg
 have hmade := fun W A c l (h : Rd W A l) (hc : l.length ≤ c) => made_calls (!s) A c l W h hc
 clear hgs
 go_enter Tryz.func34, Tryz.ntmps34
 go_wp2_with fail
 clear hW3 hmk x0 x1 x2 x3 hg
 generalize (W3.alloc (.cells (warr (List.replicate N 0)) 127)) = W4 at *
 go_loopw [6] (fun i W => ∃ (k : Nat) (lo : List Nat), i = .int .i64 (k : Int) ∧ k ≤ l1.length ∧ Hid (lo.length = k + l2.length) ∧ Words lo ∧ Arr W (g) (lo ++ List.replicate (l1.length - k) 0) ∧ Below W3.heap.size W3 W ∧ Hid (val lo = val (l1.take k) * val l2)) (fun i _ => l1.length - (intOf i).toNat)
 case atStart =>
  refine ⟨0, List.replicate l2.length 0, rfl, Nat.zero_le _, by show _ = _; simp, words_replicate _, ?_, hb4, by simp [Hid, val, val_replicate]⟩
  rw [List.nil_append, List.replicate_append_replicate] at har0
  rw [List.replicate_append_replicate, Nat.add_comm]
  exact har0
 case round =>
  obtain ⟨k, lo, rfl, hk, hlo, low, ar, hbl, hval⟩ := hrel
  clear har0 hb4
  obtain ⟨x0, x1⟩ := cL2 (B1.on hbl).blk
  obtain ⟨x2, x3⟩ := cL2 (B2.on hbl).blk
  by_cases hkl : k < l1.length
  · have p1 : ((k : Int) < (l1.length : Int)) ↔ True := by rw [iff_true]; omega
    obtain ⟨ba, oa, x, hA1, hcx, hx, hxb⟩ := r1.get k hkl
    subst hA1
    have hlt1 := World.block_lt_of_cell? W3 _ hcx
    go_wp2_with fail
    obtain ⟨pre, hpre⟩ : ∃ pre, lo.take k = pre := ⟨_, rfl⟩
    obtain ⟨seg, hseg⟩ : ∃ seg, lo.drop k = seg := ⟨_, rfl⟩
    have hlo2 : lo = pre ++ seg := by rw [← hpre, ← hseg, List.take_append_drop]
    have hprel : pre.length = k := by rw [← hpre, List.length_take]; have := hlo.out; omega
    have hsegl : seg.length = l2.length := by rw [← hseg, List.length_drop]; have := hlo.out; omega
    obtain ⟨post, hpost, hpost'⟩ : ∃ post, List.replicate (l1.length - k) 0 = 0 :: post ∧ post = List.replicate (l1.length - (k + 1)) 0 := ⟨List.replicate (l1.length - (k + 1)) 0, by rw [show l1.length - k = (l1.length - (k + 1)) + 1 by omega]; rfl, rfl⟩
    have ar5 : Arr wr (g) (pre ++ (([] : List Nat) ++ seg.drop 0) ++ (0 :: post)) := by
     rw [List.nil_append, List.drop_zero, ← hlo2, ← hpost]; exact ar
    have wseg : Words seg := by rw [← hseg]; exact words_drop low k
    have wpre : Words pre := by rw [← hpre]; exact words_take low k
    have hvlo : val lo = val pre + BB ^ k * val seg := by rw [hlo2, val_append, hprel]
    have Hpost := Lib.hid hpost'
    have Hprel := Lib.hid hprel
    have Hsegl := Lib.hid hsegl
    have Hvlo := Lib.hid hvlo
    have Hwr := Lib.hid hbl
    obtain ⟨W0, hW0⟩ : ∃ W0, W0 = wr := ⟨wr, rfl⟩
    subst hW0
    clear hpost' hprel hsegl hvlo hlo2 hpre hseg hpost ar x0 x1 x2 x3
    go_loopw [7, 8] (fun cv jv W => ∃ (j cy : Nat) (os : List Nat), jv = .int .i64 (j : Int) ∧ cv = .int .u64 (cy : Int) ∧ j ≤ l2.length ∧ cy < 4294967296 ∧ Hid (os.length = j) ∧ Words os ∧ Arr W (g) (pre ++ (os ++ seg.drop j) ++ (0 :: post)) ∧ Below W3.heap.size W3 W ∧ Hid (val os + BB ^ j * cy = val (seg.take j) + x * val (l2.take j))) (fun _ j _ => l2.length - (intOf j).toNat)
    case atStart => exact ⟨0, 0, [], rfl, rfl, Nat.zero_le _, by omega, rfl, words_nil, ar5, hbl, by simp [Hid, val]⟩
    case round =>
     obtain ⟨j, cy, os, rfl, rfl, hj, hcy, hol, how, ar, hblj, hv⟩ := hrel
     clear ar5
     obtain ⟨x0, x1⟩ := cL2 (B1.on hblj).blk
     obtain ⟨x2, x3⟩ := cL2 (B2.on hblj).blk
     by_cases hjl : j < l2.length
     · have p2 : ((j : Int) < (l2.length : Int)) ↔ True := by rw [iff_true]; omega
       obtain ⟨bc, oc, y, hA2, hcy2, hy, hyb⟩ := r2.get j hjl
       subst hA2
       have hlt2 := World.block_lt_of_cell? W3 _ hcy2
       have gx := (hblj.cell (p := ⟨ba, oa + k, none⟩) hlt1).trans hcx
       have gy := (hblj.cell (p := ⟨bc, oc + j, none⟩) hlt2).trans hcy2
       obtain ⟨u, hu, hub⟩ : ∃ y, Hid (seg.getD j 0 = y) ∧ y < 4294967296 := ⟨_, rfl, words_getD wseg j⟩
       have g4 := arr_cell ar (k + j) (by have := hol.out; have := Hsegl.out; have := Hprel.out; simp; omega)
       have hsg := seg_get pre os seg (0 :: post) j j hol.out (Nat.le_refl _) (by have := Hsegl.out; omega)
       rw [Hprel.out] at hsg
       rw [hsg, hu.out] at g4
       clear hsg
       have f4 := arr_frozen ar (k + j)
       have tg := arr_lt ar
       obtain ⟨p, hp, hp2, hp3⟩ : ∃ p : Nat, (x : Int) * (y : Int) = (p : Int) ∧ p ≤ 18446744065119617025 ∧ Hid (p = x * y) := ⟨x * y, (Int.natCast_mul x y).symm, mul_words hxb hyb, rfl⟩
       obtain ⟨t, ht, ht2, ht3'⟩ : ∃ t : Nat, (p : Int) + (u : Int) + (cy : Int) = (t : Int) ∧ t < 18446744073709551616 ∧ Hid (t = cy + (p + u)) := ⟨cy + (p + u), by omega, by omega, rfl⟩
       obtain ⟨z', z1, z2, z3⟩ : ∃ z : Nat, (t : Int) % 4294967296 = (z : Int) ∧ Hid (z = t % BB) ∧ z < 4294967296 := ⟨t % 4294967296, by omega, rfl, by omega⟩
       obtain ⟨hi, hi1, hi2, hi3⟩ : ∃ q : Nat, (t : Int) / 4294967296 = (q : Int) ∧ Hid (q = t / BB) ∧ q < 4294967296 := ⟨t / 4294967296, by omega, rfl, by omega⟩
       have hset := Lib.hid (seg_set pre os seg (0 :: post) j z' hol.out (by have := Hsegl.out; omega))
       have hkj : k + j < N := by have := HN.out; omega
       go_wp2_with fail
       go_quiet (fail)
       go_wp2_with fail
       refine ⟨⟨j + 1, hi, os ++ [z'], rfl, rfl, by omega, hi3, by show _ = _; rw [List.length_append, hol.out]; rfl, words_append.2 ⟨how, fun u hu => by simp at hu; rw [hu]; exact z3⟩, ?_, (below_drewN hblj _).setCell (by have := Hgs.out; dsimp only; omega) _, ?_⟩, by simp only [intOf]; omega⟩
       · have := hset.out
         rw [Hprel.out] at this
         rw [← this]
         exact arr_set (arr_drewN ar _) _ _
       · show val (os ++ [z']) + BB ^ (j + 1) * hi = val (seg.take (j + 1)) + x * val (l2.take (j + 1))
         rw [val_take_succ seg j u hu.out, val_take_succ l2 j y hy.out, val_snoc, hol.out, Nat.pow_succ, hi2.out, z2.out]
         exact long_step (by rw [ht3'.out, hp3.out]) hv.out
     · obtain rfl : j = l2.length := by omega
       have p2 : ((l2.length : Int) < (l2.length : Int)) ↔ False := by simp
       rw [List.drop_of_length_le (Nat.le_of_eq Hsegl.out), List.append_nil] at ar
       have hlen1 : (pre ++ os).length = k + l2.length := by rw [List.length_append, Hprel.out, hol.out]
       have g4 := arr_cell ar (k + l2.length) (by rw [List.length_append, hlen1]; simp)
       have hsg : (pre ++ os ++ (0 :: post)).getD (k + l2.length) 0 = 0 := by
        rw [List.getD_eq_getElem?_getD, List.getElem?_append_right (by omega), hlen1, Nat.sub_self]; rfl
       rw [hsg] at g4
       have f4 := arr_frozen ar (k + l2.length)
       have tg := arr_lt ar
       have hcy' : (cy : Int) % 4294967296 = (cy : Int) := by omega
       have hkj : k + l2.length < N := by have := HN.out; omega
       have Hlen1 := Lib.hid hlen1
       clear hsg hlen1 hjl
       go_wp2_with fail
       refine ⟨⟨k + 1, pre ++ os ++ [cy], rfl, by omega, ?_, words_append.2 ⟨words_append.2 ⟨wpre, how⟩, fun u hu => by simp at hu; rw [hu]; exact hcy⟩, ?_, hblj.setCell (by have := Hgs.out; dsimp only; omega) _, ?_⟩, by simp only [intOf]; omega⟩
       · show (pre ++ os ++ [cy]).length = k + 1 + l2.length
         rw [List.length_append, Hlen1.out]; simp; omega
       · have e : (pre ++ os ++ (0 :: post)).set (k + l2.length) cy = pre ++ os ++ [cy] ++ List.replicate (l1.length - (k + 1)) 0 := by
          rw [List.set_append_right _ _ (by have := Hlen1.out; omega), Hlen1.out, Nat.sub_self, List.set_cons_zero, ← Hpost.out]
          simp
         rw [← e]
         exact arr_set ar (k + l2.length) cy
       · show val (pre ++ os ++ [cy]) = val (l1.take (k + 1)) * val l2
         have h := hv.out
         rw [List.take_of_length_le (Nat.le_of_eq Hsegl.out), List.take_of_length_le (Nat.le_refl l2.length)] at h
         rw [val_take_succ l1 k x hx.out, List.append_assoc, val_append, Hprel.out, val_snoc, hol.out, h, Nat.add_mul, Nat.mul_add, ← hval.out, Hvlo.out, Nat.mul_assoc, Nat.add_assoc]
  · obtain rfl : k = l1.length := by omega
    have p1 : ((l1.length : Int) < (l1.length : Int)) ↔ False := by simp
    rw [Nat.sub_self, List.replicate_zero, List.append_nil] at ar
    have hlen : lo.length = N := by rw [hlo.out, HN.out]
    have hrd := arr_rd ar low (by omega)
    have hv' : val lo = val l1 * val l2 := by
     have := hval.out
     rwa [List.take_of_length_le (Nat.le_refl _)] at this
    have hmd := hmade wr (some ⟨g, 0, none⟩) N lo hrd (by omega)
    rw [hlen, hv', Hz.out] at hmd
    clear hv' hval hlen hkl
    go_wp2_with (go_at_call 118; refine hmd.mono ?_; rintro e w5 ⟨s5, A5, c5, l5, rfl, z5, n5, r5, b5⟩; have bb5 := hbl.trans (b5.mono hbl.size); have hq5 := hR.on bb5; obtain ⟨z0, z1⟩ := cL2 hq5.h; obtain ⟨u0, u1⟩ := fZ2 hq5.h)
    exact ret_cell rfl rfl rfl (set_blk (set_blk hq5.h 0 _) 1 _) ⟨s5, A5, c5, l5, rfl, z5, n5, rd_sets r5 hq5 _ _, ((hb3.trans (bb5.mono hb3.size)).setCell (by dsimp only; omega) _).setCell (by dsimp only; omega) _⟩
def divZ (a b : Int) : Int := if 0 < b then a / b else (-a) / (-b)
def modZ (a b : Int) : Int := a - b * divZ a b
theorem neg_ediv_nat (m n : Nat) (hn : 0 < n) : (-(m : Int)) / (n : Int) = if m % n = 0 then -((m / n : Nat) : Int) else -((m / n + 1 : Nat) : Int) := by
 have h := Nat.div_add_mod m n
 have hlt := Nat.mod_lt m hn
 split
 · rename_i h0
   rw [h0, Nat.add_zero] at h
   refine ((Int.ediv_emod_unique (r := 0) (show (0 : Int) < (n : Int) by omega)).2 ⟨?_, Int.le_refl _, by omega⟩).1
   rw [Int.zero_add, Int.mul_neg, ← Int.natCast_mul, h]
 · rename_i h0
   refine ((Int.ediv_emod_unique (r := (n : Int) - ((m % n : Nat) : Int)) (show (0 : Int) < (n : Int) by omega)).2 ⟨?_, by omega, by omega⟩).1
   have h' : (n : Int) * ((m / n : Nat) : Int) + ((m % n : Nat) : Int) = (m : Int) := by rw [← Int.natCast_mul]; exact_mod_cast h
   rw [Int.natCast_add, Int.neg_add, Int.mul_add, Int.mul_neg]
   have e : (n : Int) * -((1 : Nat) : Int) = -(n : Int) := by simp
   rw [e]
   omega
theorem div_same (s : Bool) (m n : Nat) (hn : 0 < n) : divZ (if s then -(m : Int) else m) (if s then -(n : Int) else n) = ((m / n : Nat) : Int) ∧ modZ (if s then -(m : Int) else m) (if s then -(n : Int) else n) = if s then -((m % n : Nat) : Int) else ((m % n : Nat) : Int) := by
 have h := Nat.div_add_mod m n
 have h' : (n : Int) * ((m / n : Nat) : Int) + ((m % n : Nat) : Int) = (m : Int) := by rw [← Int.natCast_mul]; exact_mod_cast h
 have hd : divZ (if s then -(m : Int) else m) (if s then -(n : Int) else n) = ((m / n : Nat) : Int) := by
  unfold divZ
  cases s
  · simp [hn]
  · simp only [if_true]; rw [if_neg (by omega)]; simp
 refine ⟨hd, ?_⟩
 unfold modZ
 rw [hd]
 cases s
 · simp only [Bool.false_eq_true, if_false]; omega
 · simp only [if_true, Int.neg_mul]; omega
theorem div_other (s : Bool) (m n : Nat) (hn : 0 < n) : divZ (if s then -(m : Int) else m) (if !s then -(n : Int) else n) = (if m % n = 0 then -((m / n : Nat) : Int) else -((m / n + 1 : Nat) : Int)) ∧
 modZ (if s then -(m : Int) else m) (if !s then -(n : Int) else n) = if m % n = 0 then 0 else (if !s then -((n - m % n : Nat) : Int) else ((n - m % n : Nat) : Int)) := by
 have h := Nat.div_add_mod m n
 have hlt := Nat.mod_lt m hn
 have h' : (n : Int) * ((m / n : Nat) : Int) + ((m % n : Nat) : Int) = (m : Int) := by rw [← Int.natCast_mul]; exact_mod_cast h
 have hd : divZ (if s then -(m : Int) else m) (if !s then -(n : Int) else n) = (if m % n = 0 then -((m / n : Nat) : Int) else -((m / n + 1 : Nat) : Int)) := by
  rw [← neg_ediv_nat m n hn]
  unfold divZ
  cases s
  · simp only [Bool.false_eq_true, Bool.not_false, if_false, if_true]; rw [if_neg (by omega)]; simp
  · simp [hn]
 refine ⟨hd, ?_⟩
 unfold modZ
 rw [hd]
 have e1 : ∀ x : Int, (n : Int) * -((m / n + 1 : Nat) : Int) = -((n : Int) * ((m / n : Nat) : Int)) - n := fun _ => by
  rw [Int.natCast_add, Int.mul_neg, Int.mul_add]; simp; omega
 by_cases h0 : m % n = 0
 · rw [if_pos h0, if_pos h0]
   cases s
   · simp only [Bool.false_eq_true, if_false, Bool.not_false, if_true, Int.neg_mul_neg]; omega
   · simp only [Bool.false_eq_true, if_false, Bool.not_true, if_true, Int.mul_neg]; omega
 · rw [if_neg h0, if_neg h0]
   cases s
   · simp only [Bool.false_eq_true, if_false, Bool.not_false, if_true, Int.neg_mul, e1 0]; omega
   · simp only [Bool.false_eq_true, if_false, Bool.not_true, if_true, e1 0]; omega
def divR (n1 : Bool) (l1 : List Nat) (n2 : Bool) (l2 : List Nat) : Int × Int × Int :=
 if (okI n1 l1 && okI n2 l2) = true then (if l2.length = 0 then (0, 0, 20) else (divZ (toZ n1 l1) (toZ n2 l2), modZ (toZ n1 l1) (toZ n2 l2), 0)) else (0, 0, 1)
def RetQR (q r : Int) (w : World) (e : Ending) (w' : World) : Prop :=
 ∃ s1 A1 c1 l1 s2 A2 c2 l2, e = .returned (.agg #[.bool s1, .slice A1 l1.length c1, .bool s2, .slice A2 l2.length c2]) ∧ IsZ s1 l1 q ∧ IsZ s2 l2 r ∧ l1.length ≤ c1 ∧ l2.length ≤ c2 ∧ Rd w' A1 l1 ∧ Rd w' A2 l2 ∧ Below w.heap.size w w'
def PostQR (q r er : Int) (w : World) (e : Ending) (w' : World) : Prop :=
 (er = 0 → RetQR q r w e w') ∧ (er ≠ 0 → e = .panicked (wrong er) ∧ q = 0 ∧ r = 0 ∧ Below w.heap.size w w')
theorem whole_z (s : Bool) (n : Nat) (hn : (lim n).length ≤ 300) (A : Option Addr) (c : Nat) (w : World) (h : Rd w A (lim n)) (hc : (lim n).length ≤ c) :
 Calls Tryz.prog 147 #[.bool s, .slice A (lim n).length c] w (RetZ (if s then -(n : Int) else n) w) :=
 (whole_ok s A c (lim n) w h hc (by rw [val_lim]; exact hn)).mono fun e w' h => by
  rw [val_lim] at h
  exact h.z (isZ_of s n)
theorem add_one (A : Option Addr) (c q q1 g : Nat) (w : World) (e1 : q + 1 = q1) (h : Rd w A (lim q)) (hc : (lim q).length ≤ c) (hq : (lim q).length ≤ 1048576) (hg : Rd w (some ⟨g, 0, none⟩) [1]) :
 Calls Tryz.prog 160 #[.slice A (lim q).length c, .slice (some ⟨g, 0, none⟩) 1 1] w (RetNat q1 w) := by
 subst e1
 have := add_calls A (some ⟨g, 0, none⟩) c 1 (lim q) [1] w h hg hc (Nat.le_refl _) hq (by simp)
 rw [val_lim, show val [1] = 1 from rfl] at this
 exact this
theorem rd_one (w : World) : Rd (w.alloc (.cells #[.int .u32 1] 127)) (some ⟨w.heap.size, 0, none⟩) [1] := arr_rd (arr_new w [1]) (by intro u hu; simp at hu; rw [hu]; decide) (by simp)
theorem divided_size : (Tryz.prog.info? 227).map (·.size) = some 4 := by kernel_rfl
theorem set4 {W : World} {B : Nat} {a0 a1 a2 a3 : Value} {t : TypeId} (h : W.heap[B]? = some (.cells #[a0, a1, a2, a3] t (0, 0))) (v0 v1 v2 v3 : Value) :
 ((((W.setCell ⟨B, 0, none⟩ v0).setCell ⟨B, 1, none⟩ v1).setCell ⟨B, 2, none⟩ v2).setCell ⟨B, 3, none⟩ v3).heap[B]? = some (.cells #[v0, v1, v2, v3] t (0, 0)) := by
 have h0 : (W.setCell ⟨B, 0, none⟩ v0).heap[B]? = some (.cells #[v0, a1, a2, a3] t (0, 0)) := set_blk h 0 v0
 generalize W.setCell ⟨B, 0, none⟩ v0 = W at *
 have h1 : (W.setCell ⟨B, 1, none⟩ v1).heap[B]? = some (.cells #[v0, v1, a2, a3] t (0, 0)) := set_blk h0 1 v1
 generalize W.setCell ⟨B, 1, none⟩ v1 = W at *
 have h2 : (W.setCell ⟨B, 2, none⟩ v2).heap[B]? = some (.cells #[v0, v1, v2, a3] t (0, 0)) := set_blk h1 2 v2
 generalize W.setCell ⟨B, 2, none⟩ v2 = W at *
 exact set_blk h2 3 v3
theorem IsZ.cast {s : Bool} {l : List Nat} {z z' : Int} (h : IsZ s l z) (e : z = z') : IsZ s l z' := e ▸ h
theorem ret_cellS {fn : Func} {p : Tmp} {T : TypeId} {cur : Array Value} {n : Nat} {fs : Array Field} (h : fn.results = #[.cell p T]) (hu : Tryz.prog.underlying T = some (.struct fs)) (hi : (Tryz.prog.info? T).map (·.size) = some n)
 {a : Act} {w : World} {g : Nat} {R : Ending → World → Prop} (hd0 : a.defers = []) (hp : a.tmps.getD p undef = .pointer (some ⟨g, 0, none⟩))
 (hg : w.heap[g]? = some (.cells cur T (0, 0))) (hn : n = cur.size) (hR : R (.returned (.agg cur)) w) : bodyPost Tryz.prog fn R .ret a w :=
 bodyPost_ret (results_cell_row h _ _ g T cur (0, 0) _ hp hg hu rfl (hn ▸ hi)) hd0 hR
theorem div1_bad (g1 g2 : Nat) (n1 n2 : Bool) (A1 A2 : Option Addr) (c1 c2 : Nat) (l1 l2 : List Nat) (w : World) (h1 : IntBox w g1 n1 A1 c1 l1) (h2 : IntBox w g2 n2 A2 c2 l2) (hbad : (okI n1 l1 && okI n2 l2) = false) :
 Calls Tryz.prog 229 #[.pointer (some ⟨g1, 0, none⟩), .pointer (some ⟨g2, 0, none⟩)] w fun e w' => e = .panicked (wrong 1) ∧ Below w.heap.size w w' := by
 obtain ⟨x0, x1⟩ := cL2 h1.blk
 obtain ⟨y0, y1⟩ := cL2 h2.blk
 have t1 := (Array.getElem?_eq_some_iff.1 h1.blk).1
 have t2 := (Array.getElem?_eq_some_iff.1 h2.blk).1
 have hsm := h2.rd.small
 have hb2 : ∀ a b, Below w.heap.size w ((w.alloc a).alloc b) := fun a b => ((Below.refl _ w).alloc (Nat.le_refl _) _).alloc (by simp) _
 have hf := fun a => formed_two (w.heap.size + 1) n1 n2 A1 A2 c1 c2 l1 l2 _ (two_blk w a (.cells #[.bool n1, .slice A1 l1.length c1, .bool n2, .slice A2 l2.length c2] 24)) (h1.rd.on (hb2 _ _)) (h2.rd.on (hb2 _ _)) h1.cap h2.cap
 go_enter Tryz.func229, Tryz.ntmps229
 go_wp2_with (go_at_call 146; refine (hf _).mono ?_; rintro e w' ⟨-, hp, hbl⟩; cases hp hbad)
 exact ⟨rfl, rfl, (hb2 _ _).trans (hbl.mono (hb2 _ _).size)⟩
theorem div1_zero (g1 g2 : Nat) (n1 n2 : Bool) (A1 A2 : Option Addr) (c1 c2 : Nat) (l1 l2 : List Nat) (w : World) (h1 : IntBox w g1 n1 A1 c1 l1) (h2 : IntBox w g2 n2 A2 c2 l2) (hok : (okI n1 l1 && okI n2 l2) = true) (h0 : ¬ 0 < l2.length) :
 Calls Tryz.prog 229 #[.pointer (some ⟨g1, 0, none⟩), .pointer (some ⟨g2, 0, none⟩)] w fun e w' => e = .panicked (wrong 20) ∧ Below w.heap.size w w' := by
 obtain ⟨x0, x1⟩ := cL2 h1.blk
 obtain ⟨y0, y1⟩ := cL2 h2.blk
 have t1 := (Array.getElem?_eq_some_iff.1 h1.blk).1
 have t2 := (Array.getElem?_eq_some_iff.1 h2.blk).1
 have hsm := h2.rd.small
 have hb2 : ∀ a b, Below w.heap.size w ((w.alloc a).alloc b) := fun a b => ((Below.refl _ w).alloc (Nat.le_refl _) _).alloc (by simp) _
 have hf := fun a => formed_two (w.heap.size + 1) n1 n2 A1 A2 c1 c2 l1 l2 _ (two_blk w a (.cells #[.bool n1, .slice A1 l1.length c1, .bool n2, .slice A2 l2.length c2] 24)) (h1.rd.on (hb2 _ _)) (h2.rd.on (hb2 _ _)) h1.cap h2.cap
 go_enter Tryz.func229, Tryz.ntmps229
 go_wp2_with first
  | (go_at_call 146; refine (hf _).mono ?_; rintro e w' ⟨hp, -, hbl⟩; cases hp hok; have hb3 := (hb2 _ _).trans (hbl.mono (hb2 _ _).size); obtain ⟨p0, p1⟩ := cL2 (h1.on hb3).blk; obtain ⟨p2, p3⟩ := cL2 (h2.on hb3).blk)
  | (go_at_call 152; refine (must_no 20 _).mono ?_; rintro e w5 ⟨rfl, rfl⟩)
 exact ⟨rfl, rfl, hb3⟩
theorem div1_A (g1 g2 : Nat) (n1 n2 : Bool) (A1 A2 : Option Addr) (c1 c2 : Nat) (l1 l2 : List Nat) (w : World) (h1 : IntBox w g1 n1 A1 c1 l1) (h2 : IntBox w g2 n2 A2 c2 l2) (k1 : IsInt n1 l1) (k2 : IsInt n2 l2) (hok : (okI n1 l1 && okI n2 l2) = true) (hp0 : 0 < val l2) (Q R : Nat) (eQ : val l1 / val l2 = Q) (eR : val l1 % val l2 = R) (he : (n1 == n2) = true) (qz rz : Int) (eqz : Hid ((if false = true then -(Q : Int) else (Q : Int)) = qz)) (erz : Hid ((if n2 = true then -(R : Int) else (R : Int)) = rz)) :
 Calls Tryz.prog 229 #[.pointer (some ⟨g1, 0, none⟩), .pointer (some ⟨g2, 0, none⟩)] w (RetQR qz rz w) := by
 obtain ⟨x0, x1⟩ := cL2 h1.blk
 obtain ⟨y0, y1⟩ := cL2 h2.blk
 have t1 := (Array.getElem?_eq_some_iff.1 h1.blk).1
 have t2 := (Array.getElem?_eq_some_iff.1 h2.blk).1
 have hsm := h2.rd.small
 have hb2 : ∀ a b, Below w.heap.size w ((w.alloc a).alloc b) := fun a b => ((Below.refl _ w).alloc (Nat.le_refl _) _).alloc (by simp) _
 have hf := fun a => formed_two (w.heap.size + 1) n1 n2 A1 A2 c1 c2 l1 l2 _ (two_blk w a (.cells #[.bool n1, .slice A1 l1.length c1, .bool n2, .slice A2 l2.length c2] 24)) (h1.rd.on (hb2 _ _)) (h2.rd.on (hb2 _ _)) h1.cap h2.cap
 have hl2 := val_pos_length hp0
 have hdv := fun W (hW : Below w.heap.size w W) => div_calls A1 A2 c1 c2 l1 l2 W (h1.rd.on hW) (h2.rd.on hW) h1.cap h2.cap k1.canon k2.canon hp0 (by have := k1.small; omega)
 rw [eQ, eR] at hdv
 have hQl : (lim Q).length ≤ 300 := Nat.le_trans (length_mono (by rw [← eQ]; exact Nat.div_le_self _ _)) (by rw [lim_val k1.canon]; exact k1.small)
 have hRl : (lim R).length ≤ 300 := Nat.le_trans (length_mono (show R ≤ val l2 by rw [← eR]; exact Nat.le_of_lt (Nat.mod_lt _ hp0))) (by rw [lim_val k2.canon]; exact k2.small)
 have d1 : ¬ g1 = w.heap.size := by omega
 have d2 : ¬ g2 = w.heap.size := by omega
 have d3 : ¬ w.heap.size = g1 := by omega
 have d4 : ¬ w.heap.size = g2 := by omega
 have hQ2 := hQl
 have hR2 := hRl
 have hqx := two_old w (.cells #[.bool false, .slice none 0 0, .bool false, .slice none 0 0] 227) (.cells #[.bool n1, .slice A1 l1.length c1, .bool n2, .slice A2 l2.length c2] 24) rfl
 clear hp0 eQ eR
 go_enter Tryz.func229, Tryz.ntmps229
 go_wp2_with first
  | (go_at_call 146; refine (hf _).mono ?_; rintro e w' ⟨hp, -, hbl⟩; cases hp hok; have hb3 := (hb2 _ _).trans (hbl.mono (hb2 _ _).size); obtain ⟨p0, p1⟩ := cL2 (h1.on hb3).blk; obtain ⟨p2, p3⟩ := cL2 (h2.on hb3).blk)
  | (go_at_call 152; refine (must_ok 20 _).mono ?_; rintro e w4 ⟨rfl, rfl⟩; have hq1 := hqx.on hbl)
  | (go_at_call 206; refine (hdv _ hb3).mono ?_; rintro e w5 ⟨Aq, cq, Ar, cr, rfl, nq, nr, rq, rr, b5⟩; have hb5 := hb3.trans (b5.mono hb3.size); have hq5 := hq1.on b5; obtain ⟨u0, u1⟩ := cL2 (h1.on hb5).blk; obtain ⟨u2, u3⟩ := cL2 (h2.on hb5).blk)
 have ncq := nq
 have ncr := nr
 have hwq := fun W (hW : Below w5.heap.size w5 W) => whole_z false Q hQ2 Aq cq W (rq.on hW) ncq
 have hwr := fun W (hW : Below w5.heap.size w5 W) => whole_z n2 R hR2 Ar cr W (rr.on hW) ncr
 have hbb := hb5
 have hqb := hq5
 clear x0 x1 y0 y1
 go_region_held3 (fun w'' => w''.cell? ⟨g1, 0, none⟩ = some (.bool n1) ∧ w''.cell? ⟨g1, 1, none⟩ = some (.slice A1 l1.length c1) ∧ w''.cell? ⟨g2, 0, none⟩ = some (.bool n2) ∧ w''.cell? ⟨g2, 1, none⟩ = some (.slice A2 l2.length c2)) ((first | assumption | go_keep))
  ((first
   | (go_at_call_of 147 (Value.slice Ar (lim R).length cr); have hmark := mq; refine (hwr _ bbq).mono ?_; rintro e wy ⟨sy, Ay, cy, ly, rfl, zy, ny, ry, bY⟩; have bbr := bbq.trans (bY.mono bbq.size); have rx' := rx.on bY; obtain ⟨j0, j1⟩ := cL2 (h1.on (hbb.trans (bbr.mono hbb.size))).blk; obtain ⟨j2, j3⟩ := cL2 (h2.on (hbb.trans (bbr.mono hbb.size))).blk; have hqz := hqb.on bbr; have e0 := cell_at hqz.h 0 _ rfl; have ef0 := frozen_at hqz.h 0; have e1 := cell_at hqz.h 1 _ rfl; have ef1 := frozen_at hqz.h 1; have e2 := cell_at hqz.h 2 _ rfl; have ef2 := frozen_at hqz.h 2; have e3 := cell_at hqz.h 3 _ rfl; have ef3 := frozen_at hqz.h 3)
   | (go_at_call_of 147 (Value.slice Aq (lim Q).length cq); refine (hwq _ (below_drew (Below.refl _ _))).mono ?_; rintro e wx ⟨sx, Ax, cx, lx, rfl, zx, nx, rx, bx⟩; have mq : True := trivial; have bbq := (below_drew (Below.refl _ w5)).trans bx; obtain ⟨i0, i1⟩ := cL2 (h1.on (hbb.trans (bbq.mono hbb.size))).blk; obtain ⟨i2, i3⟩ := cL2 (h2.on (hbb.trans (bbq.mono hbb.size))).blk)))
 all_goals go_wp2_with fail
 · have n1 := rx'.ne hqz.h (by intro i x h; rcases i with _ | _ | _ | _ | i <;> simp at h)
   have n2 := ry.ne hqz.h (by intro i x h; rcases i with _ | _ | _ | _ | i <;> simp at h)
   exact ret_cellS rfl Tryz.underlying227 divided_size rfl rfl (set4 hqz.h _ _ _ _) rfl ⟨sx, Ax, cx, lx, sy, Ay, cy, ly, rfl, zx.cast eqz.out, zy.cast erz.out, nx, ny, (((rx'.setNe n1).setNe n1).setNe n1).setNe n1, (((ry.setNe n2).setNe n2).setNe n2).setNe n2, ((((hbb.trans (bbr.mono hbb.size)).setCell (Nat.le_refl _) _).setCell (Nat.le_refl _) _).setCell (Nat.le_refl _) _).setCell (Nat.le_refl _) _⟩
theorem div1_B (g1 g2 : Nat) (n1 n2 : Bool) (A1 A2 : Option Addr) (c1 c2 : Nat) (l1 l2 : List Nat) (w : World) (h1 : IntBox w g1 n1 A1 c1 l1) (h2 : IntBox w g2 n2 A2 c2 l2) (k1 : IsInt n1 l1) (k2 : IsInt n2 l2) (hok : (okI n1 l1 && okI n2 l2) = true) (hp0 : 0 < val l2) (Q R : Nat) (eQ : val l1 / val l2 = Q) (eR : val l1 % val l2 = R) (he : (n1 == n2) = false) (h0 : ¬ 0 < (lim R).length) (qz rz : Int) (eqz : Hid ((if true = true then -(Q : Int) else (Q : Int)) = qz)) (erz : Hid ((if n2 = true then -(R : Int) else (R : Int)) = rz)) :
 Calls Tryz.prog 229 #[.pointer (some ⟨g1, 0, none⟩), .pointer (some ⟨g2, 0, none⟩)] w (RetQR qz rz w) := by
 obtain ⟨x0, x1⟩ := cL2 h1.blk
 obtain ⟨y0, y1⟩ := cL2 h2.blk
 have t1 := (Array.getElem?_eq_some_iff.1 h1.blk).1
 have t2 := (Array.getElem?_eq_some_iff.1 h2.blk).1
 have hsm := h2.rd.small
 have hb2 : ∀ a b, Below w.heap.size w ((w.alloc a).alloc b) := fun a b => ((Below.refl _ w).alloc (Nat.le_refl _) _).alloc (by simp) _
 have hf := fun a => formed_two (w.heap.size + 1) n1 n2 A1 A2 c1 c2 l1 l2 _ (two_blk w a (.cells #[.bool n1, .slice A1 l1.length c1, .bool n2, .slice A2 l2.length c2] 24)) (h1.rd.on (hb2 _ _)) (h2.rd.on (hb2 _ _)) h1.cap h2.cap
 have hl2 := val_pos_length hp0
 have hdv := fun W (hW : Below w.heap.size w W) => div_calls A1 A2 c1 c2 l1 l2 W (h1.rd.on hW) (h2.rd.on hW) h1.cap h2.cap k1.canon k2.canon hp0 (by have := k1.small; omega)
 rw [eQ, eR] at hdv
 have hQl : (lim Q).length ≤ 300 := Nat.le_trans (length_mono (by rw [← eQ]; exact Nat.div_le_self _ _)) (by rw [lim_val k1.canon]; exact k1.small)
 have hRl : (lim R).length ≤ 300 := Nat.le_trans (length_mono (show R ≤ val l2 by rw [← eR]; exact Nat.le_of_lt (Nat.mod_lt _ hp0))) (by rw [lim_val k2.canon]; exact k2.small)
 have d1 : ¬ g1 = w.heap.size := by omega
 have d2 : ¬ g2 = w.heap.size := by omega
 have d3 : ¬ w.heap.size = g1 := by omega
 have d4 : ¬ w.heap.size = g2 := by omega
 have hQ2 := hQl
 have hR2 := hRl
 have hqx := two_old w (.cells #[.bool false, .slice none 0 0, .bool false, .slice none 0 0] 227) (.cells #[.bool n1, .slice A1 l1.length c1, .bool n2, .slice A2 l2.length c2] 24) rfl
 clear hp0 eQ eR
 go_enter Tryz.func229, Tryz.ntmps229
 go_wp2_with first
  | (go_at_call 146; refine (hf _).mono ?_; rintro e w' ⟨hp, -, hbl⟩; cases hp hok; have hb3 := (hb2 _ _).trans (hbl.mono (hb2 _ _).size); obtain ⟨p0, p1⟩ := cL2 (h1.on hb3).blk; obtain ⟨p2, p3⟩ := cL2 (h2.on hb3).blk)
  | (go_at_call 152; refine (must_ok 20 _).mono ?_; rintro e w4 ⟨rfl, rfl⟩; have hq1 := hqx.on hbl)
  | (go_at_call 206; refine (hdv _ hb3).mono ?_; rintro e w5 ⟨Aq, cq, Ar, cr, rfl, nq, nr, rq, rr, b5⟩; have hb5 := hb3.trans (b5.mono hb3.size); have hq5 := hq1.on b5; obtain ⟨u0, u1⟩ := cL2 (h1.on hb5).blk; obtain ⟨u2, u3⟩ := cL2 (h2.on hb5).blk)
 have ncq := nq
 have ncr := nr
 have hwq := fun W (hW : Below w5.heap.size w5 W) => whole_z true Q hQ2 Aq cq W (rq.on hW) ncq
 have hwr := fun W (hW : Below w5.heap.size w5 W) => whole_z n2 R hR2 Ar cr W (rr.on hW) ncr
 have hbb := hb5
 have hqb := hq5
 clear x0 x1 y0 y1
 go_region_held3 (fun w'' => w''.cell? ⟨g1, 0, none⟩ = some (.bool n1) ∧ w''.cell? ⟨g1, 1, none⟩ = some (.slice A1 l1.length c1) ∧ w''.cell? ⟨g2, 0, none⟩ = some (.bool n2) ∧ w''.cell? ⟨g2, 1, none⟩ = some (.slice A2 l2.length c2)) ((first | assumption | go_keep))
  ((first
   | (go_at_call_of 147 (Value.slice Ar (lim R).length cr); have hmark := mq; refine (hwr _ bbq).mono ?_; rintro e wy ⟨sy, Ay, cy, ly, rfl, zy, ny, ry, bY⟩; have bbr := bbq.trans (bY.mono bbq.size); have rx' := rx.on bY; obtain ⟨j0, j1⟩ := cL2 (h1.on (hbb.trans (bbr.mono hbb.size))).blk; obtain ⟨j2, j3⟩ := cL2 (h2.on (hbb.trans (bbr.mono hbb.size))).blk; have hqz := hqb.on bbr; have e0 := cell_at hqz.h 0 _ rfl; have ef0 := frozen_at hqz.h 0; have e1 := cell_at hqz.h 1 _ rfl; have ef1 := frozen_at hqz.h 1; have e2 := cell_at hqz.h 2 _ rfl; have ef2 := frozen_at hqz.h 2; have e3 := cell_at hqz.h 3 _ rfl; have ef3 := frozen_at hqz.h 3)
   | (go_at_call_of 147 (Value.slice Aq (lim Q).length cq); refine (hwq _ (below_drew (Below.refl _ _))).mono ?_; rintro e wx ⟨sx, Ax, cx, lx, rfl, zx, nx, rx, bx⟩; have mq : True := trivial; have bbq := (below_drew (Below.refl _ w5)).trans bx; obtain ⟨i0, i1⟩ := cL2 (h1.on (hbb.trans (bbq.mono hbb.size))).blk; obtain ⟨i2, i3⟩ := cL2 (h2.on (hbb.trans (bbq.mono hbb.size))).blk)))
 all_goals go_wp2_with fail
 · have n1 := rx'.ne hqz.h (by intro i x h; rcases i with _ | _ | _ | _ | i <;> simp at h)
   have n2 := ry.ne hqz.h (by intro i x h; rcases i with _ | _ | _ | _ | i <;> simp at h)
   exact ret_cellS rfl Tryz.underlying227 divided_size rfl rfl (set4 hqz.h _ _ _ _) rfl ⟨sx, Ax, cx, lx, sy, Ay, cy, ly, rfl, zx.cast eqz.out, zy.cast erz.out, nx, ny, (((rx'.setNe n1).setNe n1).setNe n1).setNe n1, (((ry.setNe n2).setNe n2).setNe n2).setNe n2, ((((hbb.trans (bbr.mono hbb.size)).setCell (Nat.le_refl _) _).setCell (Nat.le_refl _) _).setCell (Nat.le_refl _) _).setCell (Nat.le_refl _) _⟩
theorem div1_C (g1 g2 : Nat) (n1 n2 : Bool) (A1 A2 : Option Addr) (c1 c2 : Nat) (l1 l2 : List Nat) (w : World) (h1 : IntBox w g1 n1 A1 c1 l1) (h2 : IntBox w g2 n2 A2 c2 l2) (k1 : IsInt n1 l1) (k2 : IsInt n2 l2) (hok : (okI n1 l1 && okI n2 l2) = true) (hp0 : 0 < val l2) (Q R : Nat) (eQ : val l1 / val l2 = Q) (eR : val l1 % val l2 = R) (he : (n1 == n2) = false) (h0 : 0 < (lim R).length) (qz rz : Int) (eqz : Hid ((if true = true then -((Q + 1 : Nat) : Int) else ((Q + 1 : Nat) : Int)) = qz)) (erz : Hid ((if n2 = true then -((val l2 - R : Nat) : Int) else ((val l2 - R : Nat) : Int)) = rz)) :
 Calls Tryz.prog 229 #[.pointer (some ⟨g1, 0, none⟩), .pointer (some ⟨g2, 0, none⟩)] w (RetQR qz rz w) := by
 obtain ⟨x0, x1⟩ := cL2 h1.blk
 obtain ⟨y0, y1⟩ := cL2 h2.blk
 have t1 := (Array.getElem?_eq_some_iff.1 h1.blk).1
 have t2 := (Array.getElem?_eq_some_iff.1 h2.blk).1
 have hsm := h2.rd.small
 have hb2 : ∀ a b, Below w.heap.size w ((w.alloc a).alloc b) := fun a b => ((Below.refl _ w).alloc (Nat.le_refl _) _).alloc (by simp) _
 have hf := fun a => formed_two (w.heap.size + 1) n1 n2 A1 A2 c1 c2 l1 l2 _ (two_blk w a (.cells #[.bool n1, .slice A1 l1.length c1, .bool n2, .slice A2 l2.length c2] 24)) (h1.rd.on (hb2 _ _)) (h2.rd.on (hb2 _ _)) h1.cap h2.cap
 have hl2 := val_pos_length hp0
 have hdv := fun W (hW : Below w.heap.size w W) => div_calls A1 A2 c1 c2 l1 l2 W (h1.rd.on hW) (h2.rd.on hW) h1.cap h2.cap k1.canon k2.canon hp0 (by have := k1.small; omega)
 rw [eQ, eR] at hdv
 have hQl : (lim Q).length ≤ 300 := Nat.le_trans (length_mono (by rw [← eQ]; exact Nat.div_le_self _ _)) (by rw [lim_val k1.canon]; exact k1.small)
 have hRl : (lim R).length ≤ 300 := Nat.le_trans (length_mono (show R ≤ val l2 by rw [← eR]; exact Nat.le_of_lt (Nat.mod_lt _ hp0))) (by rw [lim_val k2.canon]; exact k2.small)
 have d1 : ¬ g1 = w.heap.size := by omega
 have d2 : ¬ g2 = w.heap.size := by omega
 have d3 : ¬ w.heap.size = g1 := by omega
 have d4 : ¬ w.heap.size = g2 := by omega
 have hR0 : 0 < R := by
  rcases Nat.eq_zero_or_pos R with h | h
  · rw [h, lim_zero] at h0; exact absurd h0 (by simp)
  · exact h
 have hQ2 : (lim (Q + 1)).length ≤ 300 := by
  refine Nat.le_trans (length_mono (show Q + 1 ≤ val l1 from ?_)) (by rw [lim_val k1.canon]; exact k1.small)
  have h1 := Nat.div_add_mod (val l1) (val l2)
  rw [eQ, eR] at h1
  have h2 : R < val l2 := by rw [← eR]; exact Nat.mod_lt _ hp0
  have h3 : Q * 2 ≤ val l2 * Q := by rw [Nat.mul_comm]; exact Nat.mul_le_mul_right _ (by omega)
  omega
 have hRle : R ≤ val l2 := by rw [← eR]; exact Nat.le_of_lt (Nat.mod_lt _ hp0)
 have hR2 : (lim (val l2 - R)).length ≤ 300 := Nat.le_trans (length_mono (show val l2 - R ≤ val l2 by omega)) (by rw [lim_val k2.canon]; exact k2.small)
 have hsub := fun W (hW : Below w.heap.size w W) A c (h : Rd W A (lim R)) (hc : (lim R).length ≤ c) => sub_calls A2 A c2 c l2 (lim R) W (h2.rd.on hW) h h2.cap hc (by rw [val_lim]; exact hRle) (by have := length_mono hRle; rwa [lim_val k2.canon] at this) (by have := k2.small; omega)
 simp only [val_lim] at hsub
 generalize val l2 - R = R2 at *
 obtain ⟨Q1, hQ1⟩ : ∃ Q1, Q + 1 = Q1 := ⟨_, rfl⟩
 rw [hQ1] at hQ2 eqz
 have HQ1 := Lib.hid hQ1
 clear hQ1
 have hqx := two_old w (.cells #[.bool false, .slice none 0 0, .bool false, .slice none 0 0] 227) (.cells #[.bool n1, .slice A1 l1.length c1, .bool n2, .slice A2 l2.length c2] 24) rfl
 clear hp0 eQ eR
 go_enter Tryz.func229, Tryz.ntmps229
 go_wp2_with first
  | (go_at_call 146; refine (hf _).mono ?_; rintro e w' ⟨hp, -, hbl⟩; cases hp hok; have hb3 := (hb2 _ _).trans (hbl.mono (hb2 _ _).size); obtain ⟨p0, p1⟩ := cL2 (h1.on hb3).blk; obtain ⟨p2, p3⟩ := cL2 (h2.on hb3).blk)
  | (go_at_call 152; refine (must_ok 20 _).mono ?_; rintro e w4 ⟨rfl, rfl⟩; have hq1 := hqx.on hbl)
  | (go_at_call 206; refine (hdv _ hb3).mono ?_; rintro e w5 ⟨Aq, cq, Ar, cr, rfl, nq, nr, rq, rr, b5⟩; have hb5 := hb3.trans (b5.mono hb3.size); have hq5 := hq1.on b5; obtain ⟨u0, u1⟩ := cL2 (h1.on hb5).blk; obtain ⟨u2, u3⟩ := cL2 (h2.on hb5).blk)
  | (go_at_call 160; refine (add_one Aq cq Q Q1 _ _ HQ1.out (rq.on ((Below.refl _ w5).alloc (Nat.le_refl _) _)) nq (by omega) (rd_one w5)).mono ?_; rintro e w6 ⟨Aq6, cq6, rfl, nq6, rq6, b6⟩; have b56 := ((Below.refl _ w5).alloc (Nat.le_refl _) (.cells #[.int .u32 1] 127)).trans (b6.mono (by simp)); have hb6 := hb5.trans (b56.mono hb5.size); have hq6 := hq5.on b56; obtain ⟨v0, v1⟩ := cL2 (h1.on hb6).blk; obtain ⟨v2, v3⟩ := cL2 (h2.on hb6).blk)
  | (go_at_call 201; refine (hsub _ hb6 Ar cr (rr.on b56) nr).mono ?_; rintro e w7 ⟨Ar7, cr7, rfl, nr7, rr7, b7⟩; have hb7 := hb6.trans (b7.mono hb6.size); have rq7 := rq6.on b7; have hq7 := hq6.on b7; obtain ⟨m0, m1⟩ := cL2 (h1.on hb7).blk; obtain ⟨m2, m3⟩ := cL2 (h2.on hb7).blk)
 have ncq := nq6
 have ncr := nr7
 have hwq := fun W (hW : Below w7.heap.size w7 W) => whole_z true Q1 hQ2 Aq6 cq6 W (rq7.on hW) ncq
 have hwr := fun W (hW : Below w7.heap.size w7 W) => whole_z n2 R2 hR2 Ar7 cr7 W (rr7.on hW) ncr
 have hbb := hb7
 have hqb := hq7
 clear x0 x1 y0 y1
 go_region_held3 (fun w'' => w''.cell? ⟨g1, 0, none⟩ = some (.bool n1) ∧ w''.cell? ⟨g1, 1, none⟩ = some (.slice A1 l1.length c1) ∧ w''.cell? ⟨g2, 0, none⟩ = some (.bool n2) ∧ w''.cell? ⟨g2, 1, none⟩ = some (.slice A2 l2.length c2)) ((first | assumption | go_keep))
  ((first
   | (go_at_call_of 147 (Value.slice Ar7 (lim R2).length cr7); have hmark := mq; refine (hwr _ bbq).mono ?_; rintro e wy ⟨sy, Ay, cy, ly, rfl, zy, ny, ry, bY⟩; have bbr := bbq.trans (bY.mono bbq.size); have rx' := rx.on bY; obtain ⟨j0, j1⟩ := cL2 (h1.on (hbb.trans (bbr.mono hbb.size))).blk; obtain ⟨j2, j3⟩ := cL2 (h2.on (hbb.trans (bbr.mono hbb.size))).blk; have hqz := hqb.on bbr; have e0 := cell_at hqz.h 0 _ rfl; have ef0 := frozen_at hqz.h 0; have e1 := cell_at hqz.h 1 _ rfl; have ef1 := frozen_at hqz.h 1; have e2 := cell_at hqz.h 2 _ rfl; have ef2 := frozen_at hqz.h 2; have e3 := cell_at hqz.h 3 _ rfl; have ef3 := frozen_at hqz.h 3)
   | (go_at_call_of 147 (Value.slice Aq6 (lim Q1).length cq6); refine (hwq _ (below_drew (Below.refl _ _))).mono ?_; rintro e wx ⟨sx, Ax, cx, lx, rfl, zx, nx, rx, bx⟩; have mq : True := trivial; have bbq := (below_drew (Below.refl _ w7)).trans bx; obtain ⟨i0, i1⟩ := cL2 (h1.on (hbb.trans (bbq.mono hbb.size))).blk; obtain ⟨i2, i3⟩ := cL2 (h2.on (hbb.trans (bbq.mono hbb.size))).blk)))
 all_goals go_wp2_with fail
 · have n1 := rx'.ne hqz.h (by intro i x h; rcases i with _ | _ | _ | _ | i <;> simp at h)
   have n2 := ry.ne hqz.h (by intro i x h; rcases i with _ | _ | _ | _ | i <;> simp at h)
   exact ret_cellS rfl Tryz.underlying227 divided_size rfl rfl (set4 hqz.h _ _ _ _) rfl ⟨sx, Ax, cx, lx, sy, Ay, cy, ly, rfl, zx.cast eqz.out, zy.cast erz.out, nx, ny, (((rx'.setNe n1).setNe n1).setNe n1).setNe n1, (((ry.setNe n2).setNe n2).setNe n2).setNe n2, ((((hbb.trans (bbr.mono hbb.size)).setCell (Nat.le_refl _) _).setCell (Nat.le_refl _) _).setCell (Nat.le_refl _) _).setCell (Nat.le_refl _) _⟩
theorem div1_calls (g1 g2 : Nat) (n1 n2 : Bool) (A1 A2 : Option Addr) (c1 c2 : Nat) (l1 l2 : List Nat) (w : World) (h1 : IntBox w g1 n1 A1 c1 l1) (h2 : IntBox w g2 n2 A2 c2 l2) :
 Calls Tryz.prog 229 #[.pointer (some ⟨g1, 0, none⟩), .pointer (some ⟨g2, 0, none⟩)] w (PostQR (divR n1 l1 n2 l2).1 (divR n1 l1 n2 l2).2.1 (divR n1 l1 n2 l2).2.2 w) := by
 unfold divR
 by_cases hok : (okI n1 l1 && okI n2 l2) = true
 · rw [if_pos hok]
   have hok' := hok
   rw [Bool.and_eq_true] at hok'
   have k1 := okI_isInt h1.rd.words hok'.1
   have k2 := okI_isInt h2.rd.words hok'.2
   by_cases h0 : l2.length = 0
   · rw [if_pos h0]
     exact (div1_zero g1 g2 n1 n2 A1 A2 c1 c2 l1 l2 w h1 h2 hok (by omega)).mono fun e w' h => ⟨fun h => absurd h (by decide), fun _ => ⟨h.1, rfl, rfl, h.2⟩⟩
   · rw [if_neg h0]
     have hp : 0 < val l2 := val_pos_of_canon k2.canon (fun e => h0 (by rw [e]; rfl))
     by_cases hn : n1 = n2
     · have hd := div_same n2 (val l1) (val l2) hp
       have e1 : toZ n1 l1 = if n2 then -(val l1 : Int) else val l1 := by rw [hn]; rfl
       have e2 : toZ n2 l2 = if n2 then -(val l2 : Int) else val l2 := rfl
       rw [← e1, ← e2] at hd
       exact (div1_A g1 g2 n1 n2 A1 A2 c1 c2 l1 l2 w h1 h2 k1 k2 hok hp _ _ rfl rfl (by rw [hn]; simp) _ _ hd.1.symm hd.2.symm).mono fun e w' h => ⟨fun _ => h, fun h => absurd rfl h⟩
     · have hn2 : n2 = !n1 := by cases n1 <;> cases n2 <;> simp_all
       have hd := div_other n1 (val l1) (val l2) hp
       have e1 : toZ n1 l1 = if n1 then -(val l1 : Int) else val l1 := rfl
       have e2 : toZ n2 l2 = if !n1 then -(val l2 : Int) else val l2 := by rw [hn2]; rfl
       rw [← e1, ← e2] at hd
       have hbe : (n1 == n2) = false := by rw [beq_eq_false_iff_ne]; exact hn
       by_cases hr : val l1 % val l2 = 0
       · rw [if_pos hr, if_pos hr] at hd
         refine (div1_B g1 g2 n1 n2 A1 A2 c1 c2 l1 l2 w h1 h2 k1 k2 hok hp _ _ rfl rfl hbe (by rw [hr, lim_zero]; simp) _ _ hd.1.symm (?_ : _ = _)).mono fun e w' h => ⟨fun _ => h, fun h => absurd rfl h⟩
         rw [hd.2, hr]; split <;> rfl
       · rw [if_neg hr, if_neg hr] at hd
         refine (div1_C g1 g2 n1 n2 A1 A2 c1 c2 l1 l2 w h1 h2 k1 k2 hok hp _ _ rfl rfl hbe (lim_length_pos (Nat.pos_of_ne_zero hr)) _ _ hd.1.symm (?_ : _ = _)).mono fun e w' h => ⟨fun _ => h, fun h => absurd rfl h⟩
         rw [hd.2, hn2]
 · rw [if_neg hok]
   exact (div1_bad g1 g2 n1 n2 A1 A2 c1 c2 l1 l2 w h1 h2 (by simpa using hok)).mono fun e w' h => ⟨fun h => absurd h (by decide), fun _ => ⟨h.1, rfl, rfl, h.2⟩⟩
theorem divR_zero (n1 : Bool) (l1 : List Nat) (n2 : Bool) (l2 : List Nat) : (divR n1 l1 n2 l2).2.2 ≠ 0 → (divR n1 l1 n2 l2).1 = 0 ∧ (divR n1 l1 n2 l2).2.1 = 0 := by
 unfold divR
 split
 · split <;> simp
 · simp
def RetQRE (q r er : Int) (w : World) (e : Ending) (w' : World) : Prop :=
 ∃ s1 A1 c1 l1 s2 A2 c2 l2, e = .returned (.tuple #[iv s1 A1 l1.length c1, iv s2 A2 l2.length c2, .int .i64 er]) ∧ IsZ s1 l1 q ∧ IsZ s2 l2 r ∧ l1.length ≤ c1 ∧ l2.length ≤ c2 ∧ Rd w' A1 l1 ∧ Rd w' A2 l2 ∧ Below w.heap.size w w'
end Nm
end Go.Proofs.YtjghnghceeijeaaGreatDoor
