/-
  Contracts of the walks below.
-/
import Derived.Test.YtjghnghceeijeaaGreatDoorDb16
import Derived.Laws.IdiomStrings
set_option maxRecDepth 100000
set_option maxHeartbeats 4000000
set_option linter.unusedVariables false
set_option linter.unusedSimpArgs false
namespace Go.Proofs.YtjghnghceeijeaaGreatDoor
namespace Nm
open Go.RowKit Go.Shelf Go.BigFrame
attribute [local go_sem] Oper.semAt_some
def Typd (base : Nat) (W : World) (A : Option Addr) : Prop := ∀ b o, A = some ⟨b, o, none⟩ → b < base ∨ ∃ cur, W.heap[b]? = some (.cells cur 127 (0, 0))
def Ret2T (n : Nat) (m : Nat) (w : World) (e : Ending) (w' : World) : Prop :=
 ∃ A c, e = .returned (.tuple #[.slice A (lim n).length c, .int .u32 (m : Int)]) ∧ (lim n).length ≤ c ∧ Rd w' A (lim n) ∧ Typd 0 w' A ∧ Below w.heap.size w w'
theorem Typd.mono {n m : Nat} {W : World} {A : Option Addr} (h : Typd n W A) (hm : n ≤ m) : Typd m W A := fun b o e => (h b o e).imp (fun h => by omega) id
theorem Typd.lower {m : Nat} {W : World} {A : Option Addr} (h : Typd 0 W A) : Typd m W A := h.mono (Nat.zero_le _)
theorem small_typed (A : Option Addr) (c b : Nat) (l : List Nat) (w : World) (h1 : Rd w A l) (_hc1 : l.length ≤ c) (hb0 : 0 < b) (hb : b < 4294967296) (hsm : l.length ≤ 1048576) :
 Calls Tryz.prog 173 #[.slice A l.length c, .int .u32 (b : Int)] w (Ret2T (val l / b) (val l % b) w) := by
 have hs1 := h1.small
 have hmk := make_nat (l.length : Int) (l.length : Int) l.length l.length rfl rfl (by omega) (by omega)
 go_enter Tryz.func173, Tryz.ntmps173
 go_wp2
 clear hmk
 go_loopw [7, 8] (fun r i W => ∃ (k rest : Nat) (qs : List Nat), k ≤ l.length ∧ rest < b ∧ r = .int .u64 (rest : Int) ∧ i = .int .i64 ((k : Int) - 1) ∧ Hid (qs.length + k = l.length) ∧ Words qs ∧ Arr W w.heap.size (List.replicate k 0 ++ qs) ∧ Below w.heap.size w W ∧ Hid (val (l.drop k) = b * val qs + rest)) (fun _ i _ => (intOf i + 1).toNat)
 case atStart => exact ⟨l.length, 0, [], Nat.le_refl _, hb0, rfl, rfl, Nat.zero_add _, words_nil, by rw [List.append_nil]; exact arr_new _ _, (Below.refl _ _).alloc (Nat.le_refl _) _, by simp [Hid, val]⟩
 case round =>
  obtain ⟨k, rest, qs, hk, hrb, rfl, rfl, hql, hqw, harr, hbl, hval⟩ := hrel
  rename_i wr
  by_cases h0 : 0 < k
  · obtain ⟨k, rfl⟩ : ∃ j, k = j + 1 := ⟨k - 1, by omega⟩
    obtain ⟨bb, o, x, rfl, hcx, hx, hxb⟩ := h1.get k (by omega)
    have hbb := World.block_lt_of_cell? w _ hcx
    replace hcx := (hbl.cell (p := ⟨bb, o + k, none⟩) hbb).trans hcx
    obtain ⟨u, g4⟩ : ∃ u : Nat, wr.cell? ⟨w.heap.size, k, none⟩ = some (.int .u32 (u : Int)) := ⟨_, arr_cell harr k (by simp; omega)⟩
    have f4 := arr_frozen harr k
    rw [show ((k + 1 : Nat) : Int) - 1 = (k : Int) by omega]
    clear h0
    obtain ⟨t, t1, t2, t3⟩ : ∃ t : Nat, bits .or .u64 ((rest : Int) * 4294967296) (x : Int) = (t : Int) ∧ Hid (t = rest * BB + x) ∧ t < 18446744073709551616 := by
     have e : (rest : Int) * 4294967296 = ((rest * 4294967296 : Nat) : Int) := by simp
     refine ⟨rest * BB + x, ?_, rfl, by show rest * 4294967296 + x < 18446744073709551616; omega⟩
     rw [e]
     exact or_u64' x (rest * 4294967296) 32 hxb (by show rest * 4294967296 % 4294967296 = 0; omega) (by omega) (by omega)
    obtain ⟨z, z1, z2, z3⟩ : ∃ z : Nat, (t : Int) / (b : Int) = (z : Int) ∧ Hid (z = (rest * BB + x) / b) ∧ z < 4294967296 := ⟨t / b, by simp, by rw [← t2.out]; rfl, by rw [t2.out]; exact small_bound hrb hxb⟩
    obtain ⟨r, r1, r2, r3⟩ : ∃ r : Nat, (t : Int) % (b : Int) = (r : Int) ∧ Hid (r = (rest * BB + x) % b) ∧ r < b := ⟨t % b, by simp, by rw [← t2.out]; rfl, Nat.mod_lt _ hb0⟩
    go_wp2
    rw [r1]
    refine ⟨⟨k, r, z :: qs, by omega, r3, rfl, rfl, by have := hql.out; show (z :: qs).length + k = l.length; simp; omega, words_cons.2 ⟨z3, hqw⟩, ?_, hbl.setCell (Nat.le_refl _) _, small_step (by omega) hx.out hval.out z2.out r2.out⟩, by simp [intOf]⟩
    rw [← set_front]
    exact arr_set harr k z
  · obtain rfl : k = 0 := by omega
    have hlen : qs.length = l.length := by have := hql.out; omega
    have hrd := arr_rd (by simpa using harr : Arr wr w.heap.size qs) hqw (by omega)
    have hv : val l = b * val qs + rest := by have := hval.out; rwa [List.drop_zero] at this
    have hq : val qs = val l / b := by rw [hv, Nat.add_comm, Nat.add_mul_div_left _ _ hb0, Nat.div_eq_of_lt hrb, Nat.zero_add]
    have hr : rest = val l % b := by rw [hv, Nat.mul_add_mod, Nat.mod_eq_of_lt hrb]
    have ht := trim_calls (some ⟨w.heap.size, 0, none⟩) l.length qs wr hrd (by omega)
    have hval' : trim qs = lim (val l / b) := by unfold trim; rw [hq]
    have hrd2 := hrd.trim
    have hty : Typd 0 wr (some ⟨w.heap.size, 0, none⟩) := fun b o e => by
     cases e
     obtain ⟨cur, hc, -⟩ := harr
     exact .inr ⟨cur, hc⟩
    have htl := trim_length_le hqw
    rw [hval'] at hrd2 htl ht
    rw [hlen] at ht htl
    clear hval hv hq hval' hlen harr
    have Hr := Lib.hid hr
    clear hr
    go_wp2_with (go_at_call 164; refine ht.mono ?_; rintro e w' ⟨rfl, rfl⟩)
    go_ret2
    refine ⟨_, _, ?_, htl, hrd2, hty, hbl⟩
    rw [← Hr.out]
    rfl
def bvals (l : List Nat) : List Value := l.map fun (n : Nat) => Value.int .u8 (n : Int)
theorem bvals_append (l m : List Nat) : bvals (l ++ m) = bvals l ++ bvals m := List.map_append
def RdB (W : World) (g : Nat) (l : List Nat) : Prop := ∀ i, i < l.length → W.cell? ⟨g, i, none⟩ = some (.int .u8 ((l.getD i 0 : Nat) : Int)) ∧ W.frozen? ⟨g, i, none⟩ = false
theorem own_bytes {w : World} {base n : Nat} {v : Value} {l : List Nat} (h : w.ownsRow base 5 1 v n (bvals l)) (hp : 0 < l.length) :
 ∃ g c, v = .slice (some ⟨g, 0, none⟩) l.length c ∧ n = l.length ∧ n ≤ c ∧ base ≤ g ∧ g < w.heap.size ∧ RdB w g l := by
 have hl : l.length = n := by simpa [bvals] using h.1
 rcases h.2 with ⟨rfl, rfl⟩ | ⟨g, cap, cur, rfl, hb, hg, hk, hm, hcs, ht⟩
 · omega
 · refine ⟨g, cap, by rw [hl], hl.symm, hk, hb, (Array.getElem?_eq_some_iff.1 hg).1, fun i hi => ⟨?_, by simp [World.frozen?, hg]⟩⟩
   have h1 : (cur.toList.take n)[i]? = some (.int .u8 ((l.getD i 0 : Nat) : Int)) := by
    rw [show n = n * 1 by omega, ht]; simp [bvals, hi, List.getD_eq_getElem?_getD]
   rw [List.getElem?_take_of_lt (by omega)] at h1
   simp only [World.cell?, hg, Option.isSome_none, Bool.false_eq_true, if_false]
   simpa using h1
theorem RdB.set {W : World} {g : Nat} {l : List Nat} (h : RdB W g l) (i x : Nat) (hi : i < l.length) : RdB (W.setCell ⟨g, i, none⟩ (.int .u8 (x : Int))) g (l.set i x) := by
 intro k hk
 rw [List.length_set] at hk
 obtain ⟨h1, h2⟩ := h k hk
 refine ⟨?_, by rw [World.frozen?_setCell]; exact h2⟩
 by_cases e : i = k
 · subst e
   rw [List.getD_eq_getElem?_getD, List.getElem?_set_self hi]
   exact World.cell?_setCell_same W _ _ h1
 · rw [List.getD_eq_getElem?_getD, List.getElem?_set_ne e, ← List.getD_eq_getElem?_getD]
   exact (World.cell?_setCell_other W _ _ _ (by intro e'; cases e'; exact e rfl)).trans h1
theorem RdB.drewN {W : World} {g : Nat} {l : List Nat} (h : RdB W g l) (n : Nat) : RdB (W.drewN n) g l := fun i hi => h i hi
theorem RdB.drew {W : World} {g : Nat} {l : List Nat} (h : RdB W g l) : RdB W.drew g l := fun i hi => h i hi
theorem getD_set (l : List Nat) (i k x : Nat) (hi : i < l.length) : (l.set i x).getD k 0 = if i = k then x else l.getD k 0 := by
 split
 · rename_i e; subst e; rw [List.getD_eq_getElem?_getD, List.getElem?_set_self hi]; rfl
 · rename_i e; rw [List.getD_eq_getElem?_getD, List.getElem?_set_ne e, ← List.getD_eq_getElem?_getD]
theorem reverse_of {l dk : List Nat} (h : dk.length = l.length) (hd : ∀ k, k < l.length → dk.getD k 0 = l.getD (l.length - 1 - k) 0) : dk = l.reverse := by
 apply List.ext_getElem
 · simpa using h
 · intro k h1 h2
   have := hd k (by omega)
   rw [List.getD_eq_getElem?_getD, List.getD_eq_getElem?_getD, List.getElem?_eq_getElem h1, List.getElem?_eq_getElem (by omega)] at this
   rw [List.getElem_reverse]
   simpa using this
theorem rev_calls (g c n0 : Nat) (l : List Nat) (w : World) (h : RdB w g l) (hn : n0 ≤ g) (hsm : l.length ≤ 1048576) :
 Calls Tryz.prog 174 #[.slice (some ⟨g, 0, none⟩) l.length c] w fun e w' => e = .returned (.tuple #[]) ∧ RdB w' g l.reverse ∧ Below n0 w w' := by
 go_enter Tryz.func174, Tryz.ntmps174
 go_wp2
 go_loopw [2, 3] (fun iv jv W => ∃ (i : Nat) (dk : List Nat), iv = .int .i64 (i : Int) ∧ jv = .int .i64 ((l.length : Int) - 1 - i) ∧ 2 * i ≤ l.length + 1 ∧ RdB W g dk ∧ Hid (dk.length = l.length) ∧ Hid (∀ k, k < l.length → dk.getD k 0 = if k < i ∨ l.length - 1 - k < i then l.getD (l.length - 1 - k) 0 else l.getD k 0) ∧ Below n0 w W) (fun i _ _ => l.length + 1 - (intOf i).toNat)
 case atStart => exact ⟨0, l, rfl, by simp, by omega, h, rfl, fun k hk => by simp, Below.refl _ _⟩
 case round =>
  obtain ⟨i, dk, rfl, rfl, hi, hr, hdl, hd, hbl⟩ := hrel
  by_cases hlt : i + i + 1 < l.length
  · obtain ⟨j, hj⟩ : ∃ j, l.length - 1 - i = j := ⟨_, rfl⟩
    have hj2 : (l.length : Int) - 1 - (i : Int) = (j : Int) := by omega
    have hij : i < j := by omega
    have hjl : j < l.length := by omega
    obtain ⟨ci, fi⟩ := hr i (by rw [hdl.out]; omega)
    obtain ⟨cj, fj⟩ := hr j (by rw [hdl.out]; omega)
    rw [hj2]
    obtain ⟨x, hx⟩ : ∃ x, dk.getD i 0 = x := ⟨_, rfl⟩
    obtain ⟨y, hy⟩ : ∃ y, dk.getD j 0 = y := ⟨_, rfl⟩
    rw [hx] at ci
    rw [hy] at cj
    have Hx := Lib.hid hx
    have Hy := Lib.hid hy
    have Hj := Lib.hid hj
    have ne1 : ¬ i = j := by omega
    have hi2 : 2 * (i + 1) ≤ l.length + 1 := by omega
    have ne2 : ¬ j = i := by omega
    clear hx hy hj hj2 hlt
    go_wp2_with fail
    go_region
    go_wp2
    refine ⟨⟨i + 1, (dk.set i y).set j x, by simp, ?_, by omega, ?_, ?_, ?_, ((hbl.setCell hn _).setCell hn _).drew⟩, by simp [intOf]; omega⟩
    · have := Hj.out
      congr 1
      omega
    · exact ((hr.set i y (by rw [hdl.out]; omega)).set j x (by rw [List.length_set, hdl.out]; omega)).drew
    · show _ = _
      rw [List.length_set, List.length_set]; exact hdl.out
    · intro k hk
      have hj := Hj.out
      have hd' := hd.out
      have e1 := hd' i (by omega)
      have e2 := hd' j hjl
      rw [Hx.out, if_neg (by omega)] at e1
      rw [Hy.out, if_neg (by omega)] at e2
      rw [getD_set _ _ _ _ (by rw [List.length_set, hdl.out]; omega), getD_set _ _ _ _ (by rw [hdl.out]; omega), hd' k hk]
      by_cases h1 : j = k
      · rw [if_pos h1, if_pos (by omega), e1]; congr 1; omega
      · rw [if_neg h1]
        by_cases h2 : i = k
        · rw [if_pos h2, if_pos (by omega), e2]; congr 1; omega
        · rw [if_neg h2]
          by_cases h3 : k < i ∨ l.length - 1 - k < i
          · rw [if_pos h3, if_pos (by omega)]
          · rw [if_neg h3, if_neg (by omega)]
  · have hnl : ¬ (i : Int) < (l.length : Int) - 1 - (i : Int) := by omega
    go_wp2
    go_end0
    refine ⟨rfl, ?_, hbl⟩
    rw [← reverse_of hdl.out (fun k hk => ?_)]
    · exact hr
    · rw [hd.out k hk]
      by_cases h1 : k < i ∨ l.length - 1 - k < i
      · rw [if_pos h1]
      · rw [if_neg h1]; congr 1; omega
theorem isZ_sign {n : Nat} {s' : Bool} {l : List Nat} (h : IsZ s' l (n : Int)) : IsZ (decide (0 < l.length)) l (-(n : Int)) := by
 have e := h.abs
 rw [show (n : Int).natAbs = n by omega] at e
 have := isZ_of true n
 rw [← e] at this
 have hh : (true && n != 0) = decide (0 < l.length) := by
  rw [e]
  by_cases h0 : n = 0
  · subst h0; rw [lim_zero]; rfl
  · have := lim_length_pos (n := n) (by omega)
    rw [show (n != 0) = true by simpa using h0]
    exact (decide_eq_true (by omega)).symm
 rwa [hh] at this
theorem isZ_pos {s : Bool} {l : List Nat} {n : Nat} (h : IsZ s l (n : Int)) : IsZ false l (n : Int) := by
 have := h.sgn
 rw [decide_eq_false (show ¬ (n : Int) < 0 by omega)] at this
 exact this ▸ h
theorem fin4 {W : World} {B : Nat} {a0 a1 a2 a3 : Value} {t : TypeId} (h : W.heap[B]? = some (.cells #[a0, a1, a2, a3] t (0, 0))) (v0 v1 v2 v3 : Value) (o : Obj) :
 (((((W.setCell ⟨B, 0, none⟩ v0).setCell ⟨B, 1, none⟩ v1).setCell ⟨B, 2, none⟩ v2).setCell ⟨B, 3, none⟩ v3).alloc o).heap[B]? = some (.cells #[v0, v1, v2, v3] t (0, 0)) := by
 have h4 := set4 h v0 v1 v2 v3
 exact (Below.heap_alloc _ _ _ (Array.getElem?_eq_some_iff.1 h4).1).trans h4
theorem rd4 {W : World} {B : Nat} {a0 a1 a2 a3 : Value} {t : TypeId} (h : W.heap[B]? = some (.cells #[a0, a1, a2, a3] t (0, 0))) (n : ∀ (i : Nat) (x : Int), (#[a0, a1, a2, a3] : Array Value)[i]? = some (.int .u32 x) → False) {A : Option Addr} {l : List Nat} (hr : Rd W A l) (v0 v1 v2 v3 : Value) (o : Obj) :
 Rd (((((W.setCell ⟨B, 0, none⟩ v0).setCell ⟨B, 1, none⟩ v1).setCell ⟨B, 2, none⟩ v2).setCell ⟨B, 3, none⟩ v3).alloc o) A l := by
 have m := hr.ne h n
 exact ((((hr.setNe m).setNe m).setNe m).setNe m).on ((Below.refl _ _).alloc (Nat.le_refl _) _)
theorem two_below {w : World} (a b : Obj) : Below w.heap.size w ((w.alloc a).alloc b) := ((Below.refl _ w).alloc (Nat.le_refl _) _).alloc (by simp) _
theorem word_at (w : World) (a : Obj) : Rd ((w.alloc a).alloc (.cells #[.int .u32 1] 127)) (some ⟨w.heap.size + 1, 0, none⟩) [1] := by
 have := rd_word (w.alloc a) (n := 1) (by decide) (by decide)
 rw [one_word (by decide) (by decide), World.size_alloc] at this
 exact this
theorem isZ_m1 : IsZ true [1] (-1) := ⟨rfl, (one_word (by decide) (by decide)).symm⟩
theorem noword4 {v1 v2 v3 v4 : Value} (h1 : ∀ x : Int, v1 ≠ .int .u32 x) (h2 : ∀ x : Int, v2 ≠ .int .u32 x) (h3 : ∀ x : Int, v3 ≠ .int .u32 x) (h4 : ∀ x : Int, v4 ≠ .int .u32 x) : ∀ (i : Nat) (x : Int), (#[v1, v2, v3, v4] : Array Value)[i]? = some (.int .u32 x) → False := by
 intro i x h
 rcases i with _ | _ | _ | _ | i <;> simp at h
 · exact h1 x h
 · exact h2 x h
 · exact h3 x h
 · exact h4 x h
theorem Divide_Af (A1 A2 : Option Addr) (c1 c2 : Nat) (l1 l2 : List Nat) (Q R : Nat) (w : World) (h1 : Rd w A1 l1) (h2 : Rd w A2 l2) (hc1 : l1.length ≤ c1) (hc2 : l2.length ≤ c2) (k2 : Canon l2) (hp : 0 < val l2) (hs1 : l1.length ≤ 65535) (hs2 : l2.length ≤ 65535) (hQ : val l1 / val l2 = Q) (hR2 : val l1 % val l2 = R) :
 Calls Tryz.prog 103 #[iv false A1 l1.length c1, iv false A2 l2.length c2] w (RetQR (Q : Int) (R : Int) w) := by
 obtain ⟨W3, hW3, hb3, B1, B2, hR, hsz⟩ := boxes3 w false false A1 A2 c1 c2 l1 l2 h1 h2 hc1 hc2 #[.bool false, .slice none 0 0, .bool false, .slice none 0 0] 111
 have Hsz := Lib.hid hsz
 clear hsz
 have hsp := fun W (hW : Below W3.heap.size W3 W) => split_calls A1 A2 c1 c2 l1 l2 W (B1.rd.on hW) (B2.rd.on hW) hc1 hc2 k2 hp (by omega) (by omega)
 rw [hQ, hR2] at hsp
 obtain ⟨x0, x1⟩ := cL2 B1.blk
 obtain ⟨x2, x3⟩ := cL2 B2.blk
 clear hQ hR2 hp
 go_enter Tryz.func103, Tryz.ntmps103
 go_wp2_with (go_at_call 181; refine (hsp _ (Below.refl _ _)).mono ?_; rintro e w4 ⟨s4, A4, c4, l4, s5, A5, c5, l5, rfl, z4, z5, n4, n5, r4, r5, b4⟩; obtain ⟨i0, i1⟩ := cL2 (B1.on b4).blk; obtain ⟨i2, i3⟩ := cL2 (B2.on b4).blk; have hs4 := b4.size; have hs3 := Hsz.out; have lt0 : w.heap.size < w4.heap.size := (by omega); have lt1 : w.heap.size + 1 < w4.heap.size := (by omega); have lt2 : w.heap.size + 1 + 1 < w4.heap.size := (by omega); have en0 : ¬ w.heap.size = w4.heap.size := (by omega); have en1 : ¬ w.heap.size + 1 = w4.heap.size := (by omega); have en2 : ¬ w.heap.size + 1 + 1 = w4.heap.size := (by omega); clear hs3; have hq4 := hR.on b4; have z4' := isZ_pos z4; have z5' := isZ_pos z5; have e0 := cell_at hq4.h 0 _ rfl; have u0 := frozen_at hq4.h 0; have e1 := cell_at hq4.h 1 _ rfl; have u1 := frozen_at hq4.h 1; have e2 := cell_at hq4.h 2 _ rfl; have u2 := frozen_at hq4.h 2; have e3 := cell_at hq4.h 3 _ rfl; have u3 := frozen_at hq4.h 3)
 have hw4 := hb3.trans (b4.mono hb3.size)
 have nw := noword4 (v1 := .bool false) (v2 := .slice none 0 0) (v3 := .bool false) (v4 := .slice none 0 0) (by intro x h; cases h) (by intro x h; cases h) (by intro x h; cases h) (by intro x h; cases h)
 exact ret_cellS rfl Tryz.underlying111 parts_size rfl rfl (fin4 hq4.h _ _ _ _ _) rfl ⟨_, A4, c4, l4, _, A5, c5, l5, rfl, z4, z5', n4, n5, rd4 hq4.h nw r4 _ _ _ _ _, rd4 hq4.h nw r5 _ _ _ _ _, ((((hw4.setCell (by dsimp only; omega) _).setCell (by dsimp only; omega) _).setCell (by dsimp only; omega) _).setCell (by dsimp only; omega) _).alloc (by simp [World.setCell]; omega) _⟩
theorem Divide_At (A1 A2 : Option Addr) (c1 c2 : Nat) (l1 l2 : List Nat) (Q R : Nat) (w : World) (h1 : Rd w A1 l1) (h2 : Rd w A2 l2) (hc1 : l1.length ≤ c1) (hc2 : l2.length ≤ c2) (k2 : Canon l2) (hp : 0 < val l2) (hs1 : l1.length ≤ 65535) (hs2 : l2.length ≤ 65535) (hQ : val l1 / val l2 = Q) (hR2 : val l1 % val l2 = R) :
 Calls Tryz.prog 103 #[iv true A1 l1.length c1, iv true A2 l2.length c2] w (RetQR (Q : Int) (-(R : Int)) w) := by
 obtain ⟨W3, hW3, hb3, B1, B2, hR, hsz⟩ := boxes3 w true true A1 A2 c1 c2 l1 l2 h1 h2 hc1 hc2 #[.bool false, .slice none 0 0, .bool false, .slice none 0 0] 111
 have Hsz := Lib.hid hsz
 clear hsz
 have hsp := fun W (hW : Below W3.heap.size W3 W) => split_calls A1 A2 c1 c2 l1 l2 W (B1.rd.on hW) (B2.rd.on hW) hc1 hc2 k2 hp (by omega) (by omega)
 rw [hQ, hR2] at hsp
 obtain ⟨x0, x1⟩ := cL2 B1.blk
 obtain ⟨x2, x3⟩ := cL2 B2.blk
 clear hQ hR2 hp
 go_enter Tryz.func103, Tryz.ntmps103
 go_wp2_with (go_at_call 181; refine (hsp _ (Below.refl _ _)).mono ?_; rintro e w4 ⟨s4, A4, c4, l4, s5, A5, c5, l5, rfl, z4, z5, n4, n5, r4, r5, b4⟩; obtain ⟨i0, i1⟩ := cL2 (B1.on b4).blk; obtain ⟨i2, i3⟩ := cL2 (B2.on b4).blk; have hs4 := b4.size; have hs3 := Hsz.out; have lt0 : w.heap.size < w4.heap.size := (by omega); have lt1 : w.heap.size + 1 < w4.heap.size := (by omega); have lt2 : w.heap.size + 1 + 1 < w4.heap.size := (by omega); have en0 : ¬ w.heap.size = w4.heap.size := (by omega); have en1 : ¬ w.heap.size + 1 = w4.heap.size := (by omega); have en2 : ¬ w.heap.size + 1 + 1 = w4.heap.size := (by omega); clear hs3; have hq4 := hR.on b4; have z4' := isZ_pos z4; have z5' := isZ_pos z5; have e0 := cell_at hq4.h 0 _ rfl; have u0 := frozen_at hq4.h 0; have e1 := cell_at hq4.h 1 _ rfl; have u1 := frozen_at hq4.h 1; have e2 := cell_at hq4.h 2 _ rfl; have u2 := frozen_at hq4.h 2; have e3 := cell_at hq4.h 3 _ rfl; have u3 := frozen_at hq4.h 3)
 have hw4 := hb3.trans (b4.mono hb3.size)
 have nw := noword4 (v1 := .bool false) (v2 := .slice none 0 0) (v3 := .bool false) (v4 := .slice none 0 0) (by intro x h; cases h) (by intro x h; cases h) (by intro x h; cases h) (by intro x h; cases h)
 exact ret_cellS rfl Tryz.underlying111 parts_size rfl rfl (fin4 hq4.h _ _ _ _ _) rfl ⟨_, A4, c4, l4, _, A5, c5, l5, rfl, z4, isZ_sign z5, n4, n5, rd4 hq4.h nw r4 _ _ _ _ _, rd4 hq4.h nw r5 _ _ _ _ _, ((((hw4.setCell (by dsimp only; omega) _).setCell (by dsimp only; omega) _).setCell (by dsimp only; omega) _).setCell (by dsimp only; omega) _).alloc (by simp [World.setCell]; omega) _⟩
theorem Divide_Bf (A1 A2 : Option Addr) (c1 c2 : Nat) (l1 l2 : List Nat) (Q R : Nat) (w : World) (h1 : Rd w A1 l1) (h2 : Rd w A2 l2) (hc1 : l1.length ≤ c1) (hc2 : l2.length ≤ c2) (k2 : Canon l2) (hp : 0 < val l2) (hs1 : l1.length ≤ 65535) (hs2 : l2.length ≤ 65535) (hQ : val l1 / val l2 = Q) (hR2 : val l1 % val l2 = R) (hz : R = 0) :
 Calls Tryz.prog 103 #[iv false A1 l1.length c1, iv true A2 l2.length c2] w (RetQR (-(Q : Int)) ((0 : Nat) : Int) w) := by
 obtain ⟨W3, hW3, hb3, B1, B2, hR, hsz⟩ := boxes3 w false true A1 A2 c1 c2 l1 l2 h1 h2 hc1 hc2 #[.bool false, .slice none 0 0, .bool false, .slice none 0 0] 111
 have Hsz := Lib.hid hsz
 clear hsz
 have hsp := fun W (hW : Below W3.heap.size W3 W) => split_calls A1 A2 c1 c2 l1 l2 W (B1.rd.on hW) (B2.rd.on hW) hc1 hc2 k2 hp (by omega) (by omega)
 rw [hQ, hR2] at hsp
 obtain ⟨x0, x1⟩ := cL2 B1.blk
 obtain ⟨x2, x3⟩ := cL2 B2.blk
 subst hz
 clear hQ hR2 hp
 go_enter Tryz.func103, Tryz.ntmps103
 go_wp2_with (go_at_call 181; refine (hsp _ (Below.refl _ _)).mono ?_; rintro e w4 ⟨s4, A4, c4, l4, s5, A5, c5, l5, rfl, z4, z5, n4, n5, r4, r5, b4⟩; obtain ⟨i0, i1⟩ := cL2 (B1.on b4).blk; obtain ⟨i2, i3⟩ := cL2 (B2.on b4).blk; have hs4 := b4.size; have hs3 := Hsz.out; have lt0 : w.heap.size < w4.heap.size := (by omega); have lt1 : w.heap.size + 1 < w4.heap.size := (by omega); have lt2 : w.heap.size + 1 + 1 < w4.heap.size := (by omega); have en0 : ¬ w.heap.size = w4.heap.size := (by omega); have en1 : ¬ w.heap.size + 1 = w4.heap.size := (by omega); have en2 : ¬ w.heap.size + 1 + 1 = w4.heap.size := (by omega); clear hs3; have hq4 := hR.on b4; have z4' := isZ_pos z4; have z5' := isZ_pos z5; have h5 := z5.abs; have h50 : ¬ 0 < l5.length := (by rw [h5, show ((0 : Nat) : Int).natAbs = 0 from rfl, lim_zero]; exact Nat.lt_irrefl _); have h5i : ¬ (0 : Int) < (l5.length : Int) := (by omega); clear h5; have e0 := cell_at hq4.h 0 _ rfl; have u0 := frozen_at hq4.h 0; have e1 := cell_at hq4.h 1 _ rfl; have u1 := frozen_at hq4.h 1; have e2 := cell_at hq4.h 2 _ rfl; have u2 := frozen_at hq4.h 2; have e3 := cell_at hq4.h 3 _ rfl; have u3 := frozen_at hq4.h 3)
 have hw4 := hb3.trans (b4.mono hb3.size)
 have nw := noword4 (v1 := .bool false) (v2 := .slice none 0 0) (v3 := .bool false) (v4 := .slice none 0 0) (by intro x h; cases h) (by intro x h; cases h) (by intro x h; cases h) (by intro x h; cases h)
 exact ret_cellS rfl Tryz.underlying111 parts_size rfl rfl (fin4 hq4.h _ _ _ _ _) rfl ⟨_, A4, c4, l4, _, A5, c5, l5, rfl, isZ_sign z4, z5', n4, n5, rd4 hq4.h nw r4 _ _ _ _ _, rd4 hq4.h nw r5 _ _ _ _ _, ((((hw4.setCell (by dsimp only; omega) _).setCell (by dsimp only; omega) _).setCell (by dsimp only; omega) _).setCell (by dsimp only; omega) _).alloc (by simp [World.setCell]; omega) _⟩
theorem Divide_Bt (A1 A2 : Option Addr) (c1 c2 : Nat) (l1 l2 : List Nat) (Q R : Nat) (w : World) (h1 : Rd w A1 l1) (h2 : Rd w A2 l2) (hc1 : l1.length ≤ c1) (hc2 : l2.length ≤ c2) (k2 : Canon l2) (hp : 0 < val l2) (hs1 : l1.length ≤ 65535) (hs2 : l2.length ≤ 65535) (hQ : val l1 / val l2 = Q) (hR2 : val l1 % val l2 = R) (hz : R = 0) :
 Calls Tryz.prog 103 #[iv true A1 l1.length c1, iv false A2 l2.length c2] w (RetQR (-(Q : Int)) ((0 : Nat) : Int) w) := by
 obtain ⟨W3, hW3, hb3, B1, B2, hR, hsz⟩ := boxes3 w true false A1 A2 c1 c2 l1 l2 h1 h2 hc1 hc2 #[.bool false, .slice none 0 0, .bool false, .slice none 0 0] 111
 have Hsz := Lib.hid hsz
 clear hsz
 have hsp := fun W (hW : Below W3.heap.size W3 W) => split_calls A1 A2 c1 c2 l1 l2 W (B1.rd.on hW) (B2.rd.on hW) hc1 hc2 k2 hp (by omega) (by omega)
 rw [hQ, hR2] at hsp
 obtain ⟨x0, x1⟩ := cL2 B1.blk
 obtain ⟨x2, x3⟩ := cL2 B2.blk
 subst hz
 clear hQ hR2 hp
 go_enter Tryz.func103, Tryz.ntmps103
 go_wp2_with (go_at_call 181; refine (hsp _ (Below.refl _ _)).mono ?_; rintro e w4 ⟨s4, A4, c4, l4, s5, A5, c5, l5, rfl, z4, z5, n4, n5, r4, r5, b4⟩; obtain ⟨i0, i1⟩ := cL2 (B1.on b4).blk; obtain ⟨i2, i3⟩ := cL2 (B2.on b4).blk; have hs4 := b4.size; have hs3 := Hsz.out; have lt0 : w.heap.size < w4.heap.size := (by omega); have lt1 : w.heap.size + 1 < w4.heap.size := (by omega); have lt2 : w.heap.size + 1 + 1 < w4.heap.size := (by omega); have en0 : ¬ w.heap.size = w4.heap.size := (by omega); have en1 : ¬ w.heap.size + 1 = w4.heap.size := (by omega); have en2 : ¬ w.heap.size + 1 + 1 = w4.heap.size := (by omega); clear hs3; have hq4 := hR.on b4; have z4' := isZ_pos z4; have z5' := isZ_pos z5; have h5 := z5.abs; have h50 : ¬ 0 < l5.length := (by rw [h5, show ((0 : Nat) : Int).natAbs = 0 from rfl, lim_zero]; exact Nat.lt_irrefl _); have h5i : ¬ (0 : Int) < (l5.length : Int) := (by omega); clear h5; have e0 := cell_at hq4.h 0 _ rfl; have u0 := frozen_at hq4.h 0; have e1 := cell_at hq4.h 1 _ rfl; have u1 := frozen_at hq4.h 1; have e2 := cell_at hq4.h 2 _ rfl; have u2 := frozen_at hq4.h 2; have e3 := cell_at hq4.h 3 _ rfl; have u3 := frozen_at hq4.h 3)
 have hw4 := hb3.trans (b4.mono hb3.size)
 have nw := noword4 (v1 := .bool false) (v2 := .slice none 0 0) (v3 := .bool false) (v4 := .slice none 0 0) (by intro x h; cases h) (by intro x h; cases h) (by intro x h; cases h) (by intro x h; cases h)
 exact ret_cellS rfl Tryz.underlying111 parts_size rfl rfl (fin4 hq4.h _ _ _ _ _) rfl ⟨_, A4, c4, l4, _, A5, c5, l5, rfl, isZ_sign z4, z5', n4, n5, rd4 hq4.h nw r4 _ _ _ _ _, rd4 hq4.h nw r5 _ _ _ _ _, ((((hw4.setCell (by dsimp only; omega) _).setCell (by dsimp only; omega) _).setCell (by dsimp only; omega) _).setCell (by dsimp only; omega) _).alloc (by simp [World.setCell]; omega) _⟩
theorem Divide_Cf (A1 A2 : Option Addr) (c1 c2 : Nat) (l1 l2 : List Nat) (Q R : Nat) (w : World) (h1 : Rd w A1 l1) (h2 : Rd w A2 l2) (hc1 : l1.length ≤ c1) (hc2 : l2.length ≤ c2) (k2 : Canon l2) (hp : 0 < val l2) (hs1 : l1.length ≤ 65535) (hs2 : l2.length ≤ 65535) (hQ : val l1 / val l2 = Q) (hR2 : val l1 % val l2 = R) (hz : 0 < R) :
 Calls Tryz.prog 103 #[iv false A1 l1.length c1, iv true A2 l2.length c2] w (RetQR (-((Q : Int) + 1)) (if true then -((val l2 - R : Nat) : Int) else ((val l2 - R : Nat) : Int)) w) := by
 obtain ⟨W3, hW3, hb3, B1, B2, hR, hsz⟩ := boxes3 w false true A1 A2 c1 c2 l1 l2 h1 h2 hc1 hc2 #[.bool false, .slice none 0 0, .bool false, .slice none 0 0] 111
 have Hsz := Lib.hid hsz
 clear hsz
 have hsp := fun W (hW : Below W3.heap.size W3 W) => split_calls A1 A2 c1 c2 l1 l2 W (B1.rd.on hW) (B2.rd.on hW) hc1 hc2 k2 hp (by omega) (by omega)
 rw [hQ, hR2] at hsp
 obtain ⟨x0, x1⟩ := cL2 B1.blk
 obtain ⟨x2, x3⟩ := cL2 B2.blk
 have hRl : R < val l2 := by rw [← hR2]; exact Nat.mod_lt _ hp
 have hQl : (lim Q).length ≤ 65535 := Nat.le_trans (length_mono (show Q ≤ val l1 by rw [← hQ]; exact Nat.div_le_self _ _)) (Nat.le_trans (trim_length_le h1.words) hs1)
 clear hQ hR2 hp
 go_enter Tryz.func103, Tryz.ntmps103
 go_wp2_with first
  | (go_at_call 46; refine (Sum_calls (decide (0 < l4.length)) true A4 (some ⟨w4.heap.size + 1, 0, none⟩) c4 1 l4 [1] (-(Q : Int)) (-1) _ (r4.on (two_below _ _)) (word_at _ _) n4 (Nat.le_refl _) (isZ_sign z4) isZ_m1 (by omega) (by decide)).mono ?_; rintro e w6 ⟨s6, A6, c6, l6, rfl, z6, n6, r6, b6⟩; have b46 := (two_below (w := w4) (.cells #[.bool (decide (0 < l4.length)), .slice A4 l4.length c4, .bool true, .slice A5 l5.length c5] 111) (.cells #[.int .u32 1] 127)).trans (b6.mono (by simp; omega)); have hx6 := (b6.block w4.heap.size (by simp; omega)).trans (two_old w4 (.cells #[.bool (decide (0 < l4.length)), .slice A4 l4.length c4, .bool true, .slice A5 l5.length c5] 111) (.cells #[.int .u32 1] 127) rfl).h; have f0 := cell_at hx6 0 _ rfl; have v0 := frozen_at hx6 0; have f1 := cell_at hx6 1 _ rfl; have v1 := frozen_at hx6 1; have f2 := cell_at hx6 2 _ rfl; have v2 := frozen_at hx6 2; have f3 := cell_at hx6 3 _ rfl; have v3 := frozen_at hx6 3; obtain ⟨j2, j3⟩ := cL2 ((B2.on b4).on b46).blk)
  | (go_at_call 181; refine (hsp _ (Below.refl _ _)).mono ?_; rintro e w4 ⟨s4, A4, c4, l4, s5, A5, c5, l5, rfl, z4, z5, n4, n5, r4, r5, b4⟩; obtain ⟨i0, i1⟩ := cL2 (B1.on b4).blk; obtain ⟨i2, i3⟩ := cL2 (B2.on b4).blk; have hs4 := b4.size; have hs3 := Hsz.out; have lt0 : w.heap.size < w4.heap.size := (by omega); have lt1 : w.heap.size + 1 < w4.heap.size := (by omega); have lt2 : w.heap.size + 1 + 1 < w4.heap.size := (by omega); have en0 : ¬ w.heap.size = w4.heap.size := (by omega); have en1 : ¬ w.heap.size + 1 = w4.heap.size := (by omega); have en2 : ¬ w.heap.size + 1 + 1 = w4.heap.size := (by omega); clear hs3; have hq4 := hR.on b4; have z4' := isZ_pos z4; have z5' := isZ_pos z5; have h5 := z5.abs; have h50 : 0 < l5.length := (by rw [h5]; exact lim_length_pos (by omega)); have h5i : (0 : Int) < (l5.length : Int) := (by omega); have h4 := z4.abs; have h4l : l4.length ≤ 65535 := (by rw [h4]; exact hQl); clear h5 h4; have e0 := cell_at hq4.h 0 _ rfl; have u0 := frozen_at hq4.h 0; have e1 := cell_at hq4.h 1 _ rfl; have u1 := frozen_at hq4.h 1; have e2 := cell_at hq4.h 2 _ rfl; have u2 := frozen_at hq4.h 2; have e3 := cell_at hq4.h 3 _ rfl; have u3 := frozen_at hq4.h 3)
 have nwx := noword4 (v1 := .bool (decide (0 < l4.length))) (v2 := .slice A4 l4.length c4) (v3 := .bool true) (v4 := .slice A5 l5.length c5) (by intro x h; cases h) (by intro x h; cases h) (by intro x h; cases h) (by intro x h; cases h)
 have r56 := r5.on b46
 have r26 := (B2.rd.on b4).on b46
 have m5 := r56.ne hx6 nwx
 have m2 := r26.ne hx6 nwx
 have m6 := r6.ne hx6 nwx
 obtain ⟨W7, hW7⟩ : ∃ W7, (w6.setCell ⟨w4.heap.size, 0, none⟩ (.bool s6)).setCell ⟨w4.heap.size, 1, none⟩ (.slice A6 l6.length c6) = W7 := ⟨_, rfl⟩
 have b47 : Below w4.heap.size w4 W7 := by rw [← hW7]; exact (b46.setCell (Nat.le_refl _) _).setCell (Nat.le_refl _) _
 have hx7 : W7.heap[w4.heap.size]? = some (.cells #[.bool s6, .slice A6 l6.length c6, .bool true, .slice A5 l5.length c5] 111 (0, 0)) := by rw [← hW7]; exact set_blk (set_blk hx6 0 _) 1 _
 have r57 : Rd W7 A5 l5 := by rw [← hW7]; exact (r56.setNe m5).setNe m5
 have r27 : Rd W7 A2 l2 := by rw [← hW7]; exact (r26.setNe m2).setNe m2
 have r67 : Rd W7 A6 l6 := by rw [← hW7]; exact (r6.setNe m6).setNe m6
 rw [hW7]
 clear hW7 j2 j3 i0 i1 i2 i3 e0 u0 e1 u1 e2 u2 e3 u3 f0 v0 f1 v1 f2 v2 f3 v3 x0 x1 x2 x3
 have hv5 : val l5 = R := by rw [z5'.val]; omega
 have hll : l5.length ≤ l2.length := by
  have := length_mono (show R ≤ val l2 by omega)
  rw [lim_val k2, ← hv5, lim_val z5'.canon] at this
  exact this
 have Hv5 := Lib.hid hv5
 have hls := less_calls A2 A5 c2 c5 l2 l5 W7 r27 r57 hc2 n5 (by omega) hll (by omega)
 rw [hv5] at hls
 have hRl' := Lib.hid hRl
 have hs7 := b47.size
 clear hv5 hll
 refine hls.mono ?_
 rintro e w8 ⟨A8, c8, l8, rfl, v8, -, n8, r8, b8⟩
 have V8 := Lib.hid v8
 clear v8
 have b78 : Below w4.heap.size w4 w8 := b47.trans (b8.mono hs7)
 have hmd := made_calls false A8 c8 l8 w8 r8 n8
 rw [V8.out] at hmd
 simp only [Bool.false_eq_true, if_false] at hmd
 go_wp2_with (go_at_call 118; refine hmd.mono ?_; rintro e w9 ⟨s9, A9, c9, l9, rfl, z9, n9, r9, b9⟩; have b49 : Below w4.heap.size w4 w9 := b78.trans (b9.mono (Nat.le_trans hs7 b8.size)); have hx9 := ((b8.trans (b9.mono b8.size)).block w4.heap.size (Array.getElem?_eq_some_iff.1 hx7).1).trans hx7; have f0 := cell_at hx9 0 _ rfl; have v0 := frozen_at hx9 0; have f1 := cell_at hx9 1 _ rfl; have v1 := frozen_at hx9 1; have f2 := cell_at hx9 2 _ rfl; have v2 := frozen_at hx9 2; have f3 := cell_at hx9 3 _ rfl; have v3 := frozen_at hx9 3; obtain ⟨j2, j3⟩ := cL2 ((B2.on b4).on b49).blk; have hq9 := hq4.on b49; have e0 := cell_at hq9.h 0 _ rfl; have u0 := frozen_at hq9.h 0; have e1 := cell_at hq9.h 1 _ rfl; have u1 := frozen_at hq9.h 1; have e2 := cell_at hq9.h 2 _ rfl; have u2 := frozen_at hq9.h 2; have e3 := cell_at hq9.h 3 _ rfl; have u3 := frozen_at hq9.h 3; have hs9 := b49.size; have gt0 : w4.heap.size < w9.heap.size := (Array.getElem?_eq_some_iff.1 hx9).1; have gt1 : w.heap.size + 1 < w9.heap.size := (by omega); have gt2 : w.heap.size + 1 + 1 < w9.heap.size := (by omega); have gn1 : ¬ w.heap.size + 1 = w9.heap.size := (by omega); have gn2 : ¬ w.heap.size + 1 + 1 = w9.heap.size := (by omega); have gn3 : ¬ w4.heap.size = w9.heap.size := (by omega); have gn4 : ¬ w4.heap.size = w.heap.size + 1 := (by omega); have gn5 : ¬ w4.heap.size = w.heap.size + 1 + 1 := (by omega); have gn6 : ¬ w9.heap.size = w4.heap.size := (by omega))
 have r69 := (r67.on b8).on b9
 have nw9 := noword4 (v1 := .bool s6) (v2 := .slice A6 l6.length c6) (v3 := .bool true) (v4 := .slice A5 l5.length c5) (by intro x h; cases h) (by intro x h; cases h) (by intro x h; cases h) (by intro x h; cases h)
 have m9 := r9.ne hx9 nw9
 have m69 := r69.ne hx9 nw9
 have nw := noword4 (v1 := .bool false) (v2 := .slice none 0 0) (v3 := .bool false) (v4 := .slice none 0 0) (by intro x h; cases h) (by intro x h; cases h) (by intro x h; cases h) (by intro x h; cases h)
 obtain ⟨W10, hW10⟩ : ∃ W10, (w9.setCell ⟨w4.heap.size, 2, none⟩ (.bool true)).setCell ⟨w4.heap.size, 3, none⟩ (.slice A9 l9.length c9) = W10 := ⟨_, rfl⟩
 have hq10 : W10.heap[w.heap.size + 1 + 1]? = some (.cells #[.bool false, .slice none 0 0, .bool false, .slice none 0 0] 111 (0, 0)) := by rw [← hW10]; exact (Below.heap_setCell _ _ _ _ (by dsimp only; omega)).trans ((Below.heap_setCell _ _ _ _ (by dsimp only; omega)).trans hq9.h)
 have r610 : Rd W10 A6 l6 := by rw [← hW10]; exact (r69.setNe m69).setNe m69
 have r910 : Rd W10 A9 l9 := by rw [← hW10]; exact (r9.setNe m9).setNe m9
 have bw : Below w.heap.size w W10 := by rw [← hW10]; exact ((((hb3.trans (b4.mono hb3.size)).trans (b49.mono (by omega))).setCell (by dsimp only; omega) _).setCell (by dsimp only; omega) _)
 have bs := bw.size
 have hs10 : w.heap.size ≤ W10.heap.size := bw.size
 rw [hW10]
 have zz6 : IsZ s6 l6 (-((Q : Int) + 1)) := z6.cast (by omega)
 have z9' := isZ_sign z9
 have h9l : 0 < l9.length := by
  rw [z9.abs]
  refine lim_length_pos ?_
  have := hRl'.out
  omega
 rw [decide_eq_true h9l] at z9'
 exact ret_cellS rfl Tryz.underlying111 parts_size rfl rfl (fin4 hq10 _ _ _ _ _) rfl ⟨_, A6, c6, l6, _, A9, c9, l9, rfl, zz6, z9', n6, n9, rd4 hq10 nw r610 _ _ _ _ _, rd4 hq10 nw r910 _ _ _ _ _, ((((bw.setCell (by dsimp only; omega) _).setCell (by dsimp only; omega) _).setCell (by dsimp only; omega) _).setCell (by dsimp only; omega) _).alloc (by simp [World.setCell]; omega) _⟩
theorem Divide_Ct (A1 A2 : Option Addr) (c1 c2 : Nat) (l1 l2 : List Nat) (Q R : Nat) (w : World) (h1 : Rd w A1 l1) (h2 : Rd w A2 l2) (hc1 : l1.length ≤ c1) (hc2 : l2.length ≤ c2) (k2 : Canon l2) (hp : 0 < val l2) (hs1 : l1.length ≤ 65535) (hs2 : l2.length ≤ 65535) (hQ : val l1 / val l2 = Q) (hR2 : val l1 % val l2 = R) (hz : 0 < R) :
 Calls Tryz.prog 103 #[iv true A1 l1.length c1, iv false A2 l2.length c2] w (RetQR (-((Q : Int) + 1)) (if false then -((val l2 - R : Nat) : Int) else ((val l2 - R : Nat) : Int)) w) := by
 obtain ⟨W3, hW3, hb3, B1, B2, hR, hsz⟩ := boxes3 w true false A1 A2 c1 c2 l1 l2 h1 h2 hc1 hc2 #[.bool false, .slice none 0 0, .bool false, .slice none 0 0] 111
 have Hsz := Lib.hid hsz
 clear hsz
 have hsp := fun W (hW : Below W3.heap.size W3 W) => split_calls A1 A2 c1 c2 l1 l2 W (B1.rd.on hW) (B2.rd.on hW) hc1 hc2 k2 hp (by omega) (by omega)
 rw [hQ, hR2] at hsp
 obtain ⟨x0, x1⟩ := cL2 B1.blk
 obtain ⟨x2, x3⟩ := cL2 B2.blk
 have hRl : R < val l2 := by rw [← hR2]; exact Nat.mod_lt _ hp
 have hQl : (lim Q).length ≤ 65535 := Nat.le_trans (length_mono (show Q ≤ val l1 by rw [← hQ]; exact Nat.div_le_self _ _)) (Nat.le_trans (trim_length_le h1.words) hs1)
 clear hQ hR2 hp
 go_enter Tryz.func103, Tryz.ntmps103
 go_wp2_with first
  | (go_at_call 46; refine (Sum_calls (decide (0 < l4.length)) true A4 (some ⟨w4.heap.size + 1, 0, none⟩) c4 1 l4 [1] (-(Q : Int)) (-1) _ (r4.on (two_below _ _)) (word_at _ _) n4 (Nat.le_refl _) (isZ_sign z4) isZ_m1 (by omega) (by decide)).mono ?_; rintro e w6 ⟨s6, A6, c6, l6, rfl, z6, n6, r6, b6⟩; have b46 := (two_below (w := w4) (.cells #[.bool (decide (0 < l4.length)), .slice A4 l4.length c4, .bool false, .slice A5 l5.length c5] 111) (.cells #[.int .u32 1] 127)).trans (b6.mono (by simp; omega)); have hx6 := (b6.block w4.heap.size (by simp; omega)).trans (two_old w4 (.cells #[.bool (decide (0 < l4.length)), .slice A4 l4.length c4, .bool false, .slice A5 l5.length c5] 111) (.cells #[.int .u32 1] 127) rfl).h; have f0 := cell_at hx6 0 _ rfl; have v0 := frozen_at hx6 0; have f1 := cell_at hx6 1 _ rfl; have v1 := frozen_at hx6 1; have f2 := cell_at hx6 2 _ rfl; have v2 := frozen_at hx6 2; have f3 := cell_at hx6 3 _ rfl; have v3 := frozen_at hx6 3; obtain ⟨j2, j3⟩ := cL2 ((B2.on b4).on b46).blk)
  | (go_at_call 181; refine (hsp _ (Below.refl _ _)).mono ?_; rintro e w4 ⟨s4, A4, c4, l4, s5, A5, c5, l5, rfl, z4, z5, n4, n5, r4, r5, b4⟩; obtain ⟨i0, i1⟩ := cL2 (B1.on b4).blk; obtain ⟨i2, i3⟩ := cL2 (B2.on b4).blk; have hs4 := b4.size; have hs3 := Hsz.out; have lt0 : w.heap.size < w4.heap.size := (by omega); have lt1 : w.heap.size + 1 < w4.heap.size := (by omega); have lt2 : w.heap.size + 1 + 1 < w4.heap.size := (by omega); have en0 : ¬ w.heap.size = w4.heap.size := (by omega); have en1 : ¬ w.heap.size + 1 = w4.heap.size := (by omega); have en2 : ¬ w.heap.size + 1 + 1 = w4.heap.size := (by omega); clear hs3; have hq4 := hR.on b4; have z4' := isZ_pos z4; have z5' := isZ_pos z5; have h5 := z5.abs; have h50 : 0 < l5.length := (by rw [h5]; exact lim_length_pos (by omega)); have h5i : (0 : Int) < (l5.length : Int) := (by omega); have h4 := z4.abs; have h4l : l4.length ≤ 65535 := (by rw [h4]; exact hQl); clear h5 h4; have e0 := cell_at hq4.h 0 _ rfl; have u0 := frozen_at hq4.h 0; have e1 := cell_at hq4.h 1 _ rfl; have u1 := frozen_at hq4.h 1; have e2 := cell_at hq4.h 2 _ rfl; have u2 := frozen_at hq4.h 2; have e3 := cell_at hq4.h 3 _ rfl; have u3 := frozen_at hq4.h 3)
 have nwx := noword4 (v1 := .bool (decide (0 < l4.length))) (v2 := .slice A4 l4.length c4) (v3 := .bool false) (v4 := .slice A5 l5.length c5) (by intro x h; cases h) (by intro x h; cases h) (by intro x h; cases h) (by intro x h; cases h)
 have r56 := r5.on b46
 have r26 := (B2.rd.on b4).on b46
 have m5 := r56.ne hx6 nwx
 have m2 := r26.ne hx6 nwx
 have m6 := r6.ne hx6 nwx
 obtain ⟨W7, hW7⟩ : ∃ W7, (w6.setCell ⟨w4.heap.size, 0, none⟩ (.bool s6)).setCell ⟨w4.heap.size, 1, none⟩ (.slice A6 l6.length c6) = W7 := ⟨_, rfl⟩
 have b47 : Below w4.heap.size w4 W7 := by rw [← hW7]; exact (b46.setCell (Nat.le_refl _) _).setCell (Nat.le_refl _) _
 have hx7 : W7.heap[w4.heap.size]? = some (.cells #[.bool s6, .slice A6 l6.length c6, .bool false, .slice A5 l5.length c5] 111 (0, 0)) := by rw [← hW7]; exact set_blk (set_blk hx6 0 _) 1 _
 have r57 : Rd W7 A5 l5 := by rw [← hW7]; exact (r56.setNe m5).setNe m5
 have r27 : Rd W7 A2 l2 := by rw [← hW7]; exact (r26.setNe m2).setNe m2
 have r67 : Rd W7 A6 l6 := by rw [← hW7]; exact (r6.setNe m6).setNe m6
 rw [hW7]
 clear hW7 j2 j3 i0 i1 i2 i3 e0 u0 e1 u1 e2 u2 e3 u3 f0 v0 f1 v1 f2 v2 f3 v3 x0 x1 x2 x3
 have hv5 : val l5 = R := by rw [z5'.val]; omega
 have hll : l5.length ≤ l2.length := by
  have := length_mono (show R ≤ val l2 by omega)
  rw [lim_val k2, ← hv5, lim_val z5'.canon] at this
  exact this
 have Hv5 := Lib.hid hv5
 have hls := less_calls A2 A5 c2 c5 l2 l5 W7 r27 r57 hc2 n5 (by omega) hll (by omega)
 rw [hv5] at hls
 have hRl' := Lib.hid hRl
 have hs7 := b47.size
 clear hv5 hll
 refine hls.mono ?_
 rintro e w8 ⟨A8, c8, l8, rfl, v8, -, n8, r8, b8⟩
 have V8 := Lib.hid v8
 clear v8
 have b78 : Below w4.heap.size w4 w8 := b47.trans (b8.mono hs7)
 have hmd := made_calls false A8 c8 l8 w8 r8 n8
 rw [V8.out] at hmd
 simp only [Bool.false_eq_true, if_false] at hmd
 go_wp2_with (go_at_call 118; refine hmd.mono ?_; rintro e w9 ⟨s9, A9, c9, l9, rfl, z9, n9, r9, b9⟩; have b49 : Below w4.heap.size w4 w9 := b78.trans (b9.mono (Nat.le_trans hs7 b8.size)); have hx9 := ((b8.trans (b9.mono b8.size)).block w4.heap.size (Array.getElem?_eq_some_iff.1 hx7).1).trans hx7; have f0 := cell_at hx9 0 _ rfl; have v0 := frozen_at hx9 0; have f1 := cell_at hx9 1 _ rfl; have v1 := frozen_at hx9 1; have f2 := cell_at hx9 2 _ rfl; have v2 := frozen_at hx9 2; have f3 := cell_at hx9 3 _ rfl; have v3 := frozen_at hx9 3; obtain ⟨j2, j3⟩ := cL2 ((B2.on b4).on b49).blk; have hq9 := hq4.on b49; have e0 := cell_at hq9.h 0 _ rfl; have u0 := frozen_at hq9.h 0; have e1 := cell_at hq9.h 1 _ rfl; have u1 := frozen_at hq9.h 1; have e2 := cell_at hq9.h 2 _ rfl; have u2 := frozen_at hq9.h 2; have e3 := cell_at hq9.h 3 _ rfl; have u3 := frozen_at hq9.h 3; have hs9 := b49.size; have gt0 : w4.heap.size < w9.heap.size := (Array.getElem?_eq_some_iff.1 hx9).1; have gt1 : w.heap.size + 1 < w9.heap.size := (by omega); have gt2 : w.heap.size + 1 + 1 < w9.heap.size := (by omega); have gn1 : ¬ w.heap.size + 1 = w9.heap.size := (by omega); have gn2 : ¬ w.heap.size + 1 + 1 = w9.heap.size := (by omega); have gn3 : ¬ w4.heap.size = w9.heap.size := (by omega); have gn4 : ¬ w4.heap.size = w.heap.size + 1 := (by omega); have gn5 : ¬ w4.heap.size = w.heap.size + 1 + 1 := (by omega); have gn6 : ¬ w9.heap.size = w4.heap.size := (by omega))
 have r69 := (r67.on b8).on b9
 have nw9 := noword4 (v1 := .bool s6) (v2 := .slice A6 l6.length c6) (v3 := .bool false) (v4 := .slice A5 l5.length c5) (by intro x h; cases h) (by intro x h; cases h) (by intro x h; cases h) (by intro x h; cases h)
 have m9 := r9.ne hx9 nw9
 have m69 := r69.ne hx9 nw9
 have nw := noword4 (v1 := .bool false) (v2 := .slice none 0 0) (v3 := .bool false) (v4 := .slice none 0 0) (by intro x h; cases h) (by intro x h; cases h) (by intro x h; cases h) (by intro x h; cases h)
 obtain ⟨W10, hW10⟩ : ∃ W10, (w9.setCell ⟨w4.heap.size, 2, none⟩ (.bool false)).setCell ⟨w4.heap.size, 3, none⟩ (.slice A9 l9.length c9) = W10 := ⟨_, rfl⟩
 have hq10 : W10.heap[w.heap.size + 1 + 1]? = some (.cells #[.bool false, .slice none 0 0, .bool false, .slice none 0 0] 111 (0, 0)) := by rw [← hW10]; exact (Below.heap_setCell _ _ _ _ (by dsimp only; omega)).trans ((Below.heap_setCell _ _ _ _ (by dsimp only; omega)).trans hq9.h)
 have r610 : Rd W10 A6 l6 := by rw [← hW10]; exact (r69.setNe m69).setNe m69
 have r910 : Rd W10 A9 l9 := by rw [← hW10]; exact (r9.setNe m9).setNe m9
 have bw : Below w.heap.size w W10 := by rw [← hW10]; exact ((((hb3.trans (b4.mono hb3.size)).trans (b49.mono (by omega))).setCell (by dsimp only; omega) _).setCell (by dsimp only; omega) _)
 have bs := bw.size
 have hs10 : w.heap.size ≤ W10.heap.size := bw.size
 rw [hW10]
 have zz6 : IsZ s6 l6 (-((Q : Int) + 1)) := z6.cast (by omega)
 have z9' := isZ_pos z9
 have h9l : 0 < l9.length := by
  rw [z9.abs]
  refine lim_length_pos ?_
  have := hRl'.out
  omega
 skip
 exact ret_cellS rfl Tryz.underlying111 parts_size rfl rfl (fin4 hq10 _ _ _ _ _) rfl ⟨_, A6, c6, l6, _, A9, c9, l9, rfl, zz6, z9', n6, n9, rd4 hq10 nw r610 _ _ _ _ _, rd4 hq10 nw r910 _ _ _ _ _, ((((bw.setCell (by dsimp only; omega) _).setCell (by dsimp only; omega) _).setCell (by dsimp only; omega) _).setCell (by dsimp only; omega) _).alloc (by simp [World.setCell]; omega) _⟩
theorem Divide_calls (n1 n2 : Bool) (A1 A2 : Option Addr) (c1 c2 : Nat) (l1 l2 : List Nat) (z1 z2 : Int) (w : World) (h1 : Rd w A1 l1) (h2 : Rd w A2 l2) (hc1 : l1.length ≤ c1) (hc2 : l2.length ≤ c2) (k1 : IsZ n1 l1 z1) (k2 : IsZ n2 l2 z2) (hp : z2 ≠ 0) (hs1 : l1.length ≤ 65535) (hs2 : l2.length ≤ 65535) :
 Calls Tryz.prog 103 #[iv n1 A1 l1.length c1, iv n2 A2 l2.length c2] w (RetQR (divZ z1 z2) (modZ z1 z2) w) := by
 have hp0 : 0 < val l2 := by rw [k2.val]; omega
 have e1 := k1.toZ
 have e2 := k2.toZ
 unfold toZ at e1 e2
 rw [← e1, ← e2]
 have hlt := Nat.mod_lt (val l1) hp0
 by_cases hn : n1 = n2
 · subst hn
   obtain ⟨hd, hm⟩ := div_same n1 (val l1) (val l2) hp0
   rw [hd, hm]
   cases n1
   · exact Divide_Af A1 A2 c1 c2 l1 l2 _ _ w h1 h2 hc1 hc2 k2.canon hp0 hs1 hs2 rfl rfl
   · exact Divide_At A1 A2 c1 c2 l1 l2 _ _ w h1 h2 hc1 hc2 k2.canon hp0 hs1 hs2 rfl rfl
 · obtain rfl : n2 = !n1 := by cases n1 <;> cases n2 <;> simp_all
   obtain ⟨hd, hm⟩ := div_other n1 (val l1) (val l2) hp0
   rw [hd, hm]
   by_cases h0 : val l1 % val l2 = 0
   · rw [if_pos h0, if_pos h0]
     cases n1
     · exact Divide_Bf A1 A2 c1 c2 l1 l2 _ _ w h1 h2 hc1 hc2 k2.canon hp0 hs1 hs2 rfl rfl h0
     · exact Divide_Bt A1 A2 c1 c2 l1 l2 _ _ w h1 h2 hc1 hc2 k2.canon hp0 hs1 hs2 rfl rfl h0
   · rw [if_neg h0, if_neg h0]
     cases n1
     · exact Divide_Cf A1 A2 c1 c2 l1 l2 _ _ w h1 h2 hc1 hc2 k2.canon hp0 hs1 hs2 rfl rfl (by omega)
     · exact Divide_Ct A1 A2 c1 c2 l1 l2 _ _ w h1 h2 hc1 hc2 k2.canon hp0 hs1 hs2 rfl rfl (by omega)
end Nm
end Go.Proofs.YtjghnghceeijeaaGreatDoor
