/-
  Contracts of the walks below.
-/
import Derived.Test.YtjghnghceeijeaaGreatDoorDp10
import Derived.Deep.RegionHeld2
import Derived.Laws.IdiomStrings
set_option maxRecDepth 100000
set_option maxHeartbeats 4000000
set_option linter.unusedVariables false
set_option linter.unusedSimpArgs false
namespace Go.Proofs.YtjghnghceeijeaaGreatDoor
namespace Nm
open Go.RowKit Go.Shelf Go.BigFrame
def digs (b n : Nat) : List Nat := if _h : 2 ≤ b ∧ 0 < n then (n % b) :: digs b (n / b) else []
termination_by n
decreasing_by exact Nat.div_lt_self _h.2 (by omega)
theorem digs_zero (b : Nat) : digs b 0 = [] := by rw [digs]; simp
theorem digs_pos {b n : Nat} (hb : 2 ≤ b) (hn : 0 < n) : digs b n = (n % b) :: digs b (n / b) := by rw [digs, dif_pos ⟨hb, hn⟩]
theorem digs_lt {b : Nat} (hb : 2 ≤ b) : ∀ n, ∀ d ∈ digs b n, d < b := by
 intro n
 induction n using Nat.strongRecOn with
 | _ n ih =>
  intro d hd
  rcases Nat.eq_zero_or_pos n with h0 | h0
  · subst h0; rw [digs_zero] at hd; cases hd
  · rw [digs_pos hb h0, List.mem_cons] at hd
    rcases hd with rfl | hd
    · exact Nat.mod_lt _ (by omega)
    · exact ih _ (Nat.div_lt_self h0 (by omega)) d hd
def numOf (b : Nat) (ds : List Nat) : Nat := ds.foldl (fun a d => a * b + d) 0
theorem numOf_snoc (b : Nat) (ds : List Nat) (d : Nat) : numOf b (ds ++ [d]) = numOf b ds * b + d := by simp [numOf]
theorem digs_length {b : Nat} (hb : 2 ≤ b) : ∀ m n, n < 2 ^ m → (digs b n).length ≤ m := by
 intro m
 induction m with
 | zero => intro n h; obtain rfl : n = 0 := by simpa using h
           rw [digs_zero]; simp
 | succ m ih =>
  intro n h
  rcases Nat.eq_zero_or_pos n with h0 | h0
  · subst h0; rw [digs_zero]; simp
  · rw [digs_pos hb h0]
    have : n / b < 2 ^ m := by
     rw [Nat.div_lt_iff_lt_mul (by omega)]
     refine Nat.lt_of_lt_of_le h ?_
     rw [Nat.pow_succ]
     exact Nat.mul_le_mul_left _ hb
    have := ih _ this
    simp; omega
theorem digs_step {b j q r : Nat} (hb : 2 ≤ b) : (q * b ^ (j + 1) + r) % b = r % b ∧ (q * b ^ (j + 1) + r) / b = q * b ^ j + r / b := by
 have e : q * b ^ (j + 1) + r = r + b * (q * b ^ j) := by
  rw [Nat.pow_succ, Nat.add_comm, ← Nat.mul_assoc, Nat.mul_comm b]
 constructor
 · rw [e, Nat.add_mul_mod_self_left]
 · rw [e, Nat.add_mul_div_left _ _ (by omega), Nat.add_comm]
theorem digs_one {b j q r : Nat} (hb : 2 ≤ b) (h : 0 < q ∨ 0 < r) : digs b (q * b ^ (j + 1) + r) = (r % b) :: digs b (q * b ^ j + r / b) := by
 have hpos : 0 < q * b ^ (j + 1) + r := by
  rcases h with h | h
  · have := Nat.mul_pos h (Nat.pow_pos (show 0 < b by omega) (n := j + 1)); omega
  · omega
 rw [digs_pos hb hpos, (digs_step hb).1, (digs_step hb).2]
def chr (d : Nat) : Nat := if d < 10 then 48 + d else 87 + d
theorem chr_lt {d : Nat} (h : d < 36) : chr d < 128 := by unfold chr; split <;> omega
def strB (l : List Nat) : ByteArray := ⟨(l.map UInt8.ofNat).toArray⟩
theorem strB_size (l : List Nat) : (strB l).size = l.length := by
 show ((l.map UInt8.ofNat).toArray).size = _
 rw [List.size_toArray, List.length_map]
def bytesN (s : ByteArray) : List Nat := s.data.toList.map UInt8.toNat
theorem bytesN_length (s : ByteArray) : (bytesN s).length = s.size := by
 show (s.data.toList.map UInt8.toNat).length = s.data.size
 rw [List.length_map, Array.length_toList]
theorem bytesN_lt (s : ByteArray) : ∀ c ∈ bytesN s, c < 256 := by
 intro c hc
 simp only [bytesN, List.mem_map] at hc
 obtain ⟨u, _, rfl⟩ := hc
 exact u.toNat_lt
def textL (neg : Bool) (b n : Nat) : List Nat := if n = 0 then [48] else (if neg then [45] else []) ++ ((digs b n).map chr).reverse
def textR (n1 : Bool) (l1 : List Nat) (b : Int) : List Nat × Int := if okI n1 l1 && (decide (2 ≤ b) && decide (b ≤ 36)) then (textL n1 b.toNat (val l1), 0) else ([], 1)
end Nm
end Go.Proofs.YtjghnghceeijeaaGreatDoor
namespace Go.Proofs.YtjghnghceeijeaaGreatDoor
namespace Nm
open Go.RowKit Go.Shelf Go.BigFrame
attribute [local go_sem] Oper.semAt_some
def Typd (base : Nat) (W : World) (A : Option Addr) : Prop := ∀ b o, A = some ⟨b, o, none⟩ → b < base ∨ ∃ cur, W.heap[b]? = some (.cells cur 127 (0, 0))
def Ret2T (n : Nat) (m : Nat) (w : World) (e : Ending) (w' : World) : Prop :=
 ∃ A c, e = .returned (.tuple #[.slice A (lim n).length c, .int .u32 (m : Int)]) ∧ (lim n).length ≤ c ∧ Rd w' A (lim n) ∧ Typd 0 w' A ∧ Below w.heap.size w w'
theorem Typd.mono {n m : Nat} {W : World} {A : Option Addr} (h : Typd n W A) (hm : n ≤ m) : Typd m W A := fun b o e => (h b o e).imp (fun h => by omega) id
theorem Typd.lower {m : Nat} {W : World} {A : Option Addr} (h : Typd 0 W A) : Typd m W A := h.mono (Nat.zero_le _)
theorem small_typed (A : Option Addr) (c b : Nat) (l : List Nat) (w : World) (h1 : Rd w A l) (_hc1 : l.length ≤ c) (hb0 : 0 < b) (hb : b < 4294967296) (hsm : l.length ≤ 1048576) :
 Calls Tryz.prog 173 #[.slice A l.length c, .int .u32 (b : Int)] w (Ret2T (val l / b) (val l % b) w) := by
 have hs1 := h1.small
 have hmk := make_nat (l.length : Int) (l.length : Int) l.length l.length rfl rfl (by omega) (by omega)
 go_enter Tryz.func173, Tryz.ntmps173
 go_wp2
 clear hmk
 go_loopw [7, 8] (fun r i W => ∃ (k rest : Nat) (qs : List Nat), k ≤ l.length ∧ rest < b ∧ r = .int .u64 (rest : Int) ∧ i = .int .i64 ((k : Int) - 1) ∧ Hid (qs.length + k = l.length) ∧ Words qs ∧ Arr W w.heap.size (List.replicate k 0 ++ qs) ∧ Below w.heap.size w W ∧ Hid (val (l.drop k) = b * val qs + rest)) (fun _ i _ => (intOf i + 1).toNat)
 case atStart => exact ⟨l.length, 0, [], Nat.le_refl _, hb0, rfl, rfl, Nat.zero_add _, words_nil, by rw [List.append_nil]; exact arr_new _ _, (Below.refl _ _).alloc (Nat.le_refl _) _, by simp [Hid, val]⟩
 case round =>
  obtain ⟨k, rest, qs, hk, hrb, rfl, rfl, hql, hqw, harr, hbl, hval⟩ := hrel
  rename_i wr
  by_cases h0 : 0 < k
  · obtain ⟨k, rfl⟩ : ∃ j, k = j + 1 := ⟨k - 1, by omega⟩
    obtain ⟨bb, o, x, rfl, hcx, hx, hxb⟩ := h1.get k (by omega)
    have hbb := World.block_lt_of_cell? w _ hcx
    replace hcx := (hbl.cell (p := ⟨bb, o + k, none⟩) hbb).trans hcx
    obtain ⟨u, g4⟩ : ∃ u : Nat, wr.cell? ⟨w.heap.size, k, none⟩ = some (.int .u32 (u : Int)) := ⟨_, arr_cell harr k (by simp; omega)⟩
    have f4 := arr_frozen harr k
    rw [show ((k + 1 : Nat) : Int) - 1 = (k : Int) by omega]
    clear h0
    obtain ⟨t, t1, t2, t3⟩ : ∃ t : Nat, bits .or .u64 ((rest : Int) * 4294967296) (x : Int) = (t : Int) ∧ Hid (t = rest * BB + x) ∧ t < 18446744073709551616 := by
     have e : (rest : Int) * 4294967296 = ((rest * 4294967296 : Nat) : Int) := by simp
     refine ⟨rest * BB + x, ?_, rfl, by show rest * 4294967296 + x < 18446744073709551616; omega⟩
     rw [e]
     exact or_u64' x (rest * 4294967296) 32 hxb (by show rest * 4294967296 % 4294967296 = 0; omega) (by omega) (by omega)
    obtain ⟨z, z1, z2, z3⟩ : ∃ z : Nat, (t : Int) / (b : Int) = (z : Int) ∧ Hid (z = (rest * BB + x) / b) ∧ z < 4294967296 := ⟨t / b, by simp, by rw [← t2.out]; rfl, by rw [t2.out]; exact small_bound hrb hxb⟩
    obtain ⟨r, r1, r2, r3⟩ : ∃ r : Nat, (t : Int) % (b : Int) = (r : Int) ∧ Hid (r = (rest * BB + x) % b) ∧ r < b := ⟨t % b, by simp, by rw [← t2.out]; rfl, Nat.mod_lt _ hb0⟩
    go_wp2
    rw [r1]
    refine ⟨⟨k, r, z :: qs, by omega, r3, rfl, rfl, by have := hql.out; show (z :: qs).length + k = l.length; simp; omega, words_cons.2 ⟨z3, hqw⟩, ?_, hbl.setCell (Nat.le_refl _) _, small_step (by omega) hx.out hval.out z2.out r2.out⟩, by simp [intOf]⟩
    rw [← set_front]
    exact arr_set harr k z
  · obtain rfl : k = 0 := by omega
    have hlen : qs.length = l.length := by have := hql.out; omega
    have hrd := arr_rd (by simpa using harr : Arr wr w.heap.size qs) hqw (by omega)
    have hv : val l = b * val qs + rest := by have := hval.out; rwa [List.drop_zero] at this
    have hq : val qs = val l / b := by rw [hv, Nat.add_comm, Nat.add_mul_div_left _ _ hb0, Nat.div_eq_of_lt hrb, Nat.zero_add]
    have hr : rest = val l % b := by rw [hv, Nat.mul_add_mod, Nat.mod_eq_of_lt hrb]
    have ht := trim_calls (some ⟨w.heap.size, 0, none⟩) l.length qs wr hrd (by omega)
    have hval' : trim qs = lim (val l / b) := by unfold trim; rw [hq]
    have hrd2 := hrd.trim
    have hty : Typd 0 wr (some ⟨w.heap.size, 0, none⟩) := fun b o e => by
     cases e
     obtain ⟨cur, hc, -⟩ := harr
     exact .inr ⟨cur, hc⟩
    have htl := trim_length_le hqw
    rw [hval'] at hrd2 htl ht
    rw [hlen] at ht htl
    clear hval hv hq hval' hlen harr
    have Hr := Lib.hid hr
    clear hr
    go_wp2_with (go_at_call 164; refine ht.mono ?_; rintro e w' ⟨rfl, rfl⟩)
    go_ret2
    refine ⟨_, _, ?_, htl, hrd2, hty, hbl⟩
    rw [← Hr.out]
    rfl
def bvals (l : List Nat) : List Value := l.map fun (n : Nat) => Value.int .u8 (n : Int)
theorem bvals_append (l m : List Nat) : bvals (l ++ m) = bvals l ++ bvals m := List.map_append
def RdB (W : World) (g : Nat) (l : List Nat) : Prop := ∀ i, i < l.length → W.cell? ⟨g, i, none⟩ = some (.int .u8 ((l.getD i 0 : Nat) : Int)) ∧ W.frozen? ⟨g, i, none⟩ = false
theorem own_bytes {w : World} {base n : Nat} {v : Value} {l : List Nat} (h : w.ownsRow base 5 1 v n (bvals l)) (hp : 0 < l.length) :
 ∃ g c, v = .slice (some ⟨g, 0, none⟩) l.length c ∧ n = l.length ∧ n ≤ c ∧ base ≤ g ∧ g < w.heap.size ∧ RdB w g l := by
 have hl : l.length = n := by simpa [bvals] using h.1
 rcases h.2 with ⟨rfl, rfl⟩ | ⟨g, cap, cur, rfl, hb, hg, hk, hm, hcs, ht⟩
 · omega
 · refine ⟨g, cap, by rw [hl], hl.symm, hk, hb, (Array.getElem?_eq_some_iff.1 hg).1, fun i hi => ⟨?_, by simp [World.frozen?, hg]⟩⟩
   have h1 : (cur.toList.take n)[i]? = some (.int .u8 ((l.getD i 0 : Nat) : Int)) := by
    rw [show n = n * 1 by omega, ht]; simp [bvals, hi, List.getD_eq_getElem?_getD]
   rw [List.getElem?_take_of_lt (by omega)] at h1
   simp only [World.cell?, hg, Option.isSome_none, Bool.false_eq_true, if_false]
   simpa using h1
theorem RdB.set {W : World} {g : Nat} {l : List Nat} (h : RdB W g l) (i x : Nat) (hi : i < l.length) : RdB (W.setCell ⟨g, i, none⟩ (.int .u8 (x : Int))) g (l.set i x) := by
 intro k hk
 rw [List.length_set] at hk
 obtain ⟨h1, h2⟩ := h k hk
 refine ⟨?_, by rw [World.frozen?_setCell]; exact h2⟩
 by_cases e : i = k
 · subst e
   rw [List.getD_eq_getElem?_getD, List.getElem?_set_self hi]
   exact World.cell?_setCell_same W _ _ h1
 · rw [List.getD_eq_getElem?_getD, List.getElem?_set_ne e, ← List.getD_eq_getElem?_getD]
   exact (World.cell?_setCell_other W _ _ _ (by intro e'; cases e'; exact e rfl)).trans h1
theorem RdB.drewN {W : World} {g : Nat} {l : List Nat} (h : RdB W g l) (n : Nat) : RdB (W.drewN n) g l := fun i hi => h i hi
theorem RdB.drew {W : World} {g : Nat} {l : List Nat} (h : RdB W g l) : RdB W.drew g l := fun i hi => h i hi
theorem getD_set (l : List Nat) (i k x : Nat) (hi : i < l.length) : (l.set i x).getD k 0 = if i = k then x else l.getD k 0 := by
 split
 · rename_i e; subst e; rw [List.getD_eq_getElem?_getD, List.getElem?_set_self hi]; rfl
 · rename_i e; rw [List.getD_eq_getElem?_getD, List.getElem?_set_ne e, ← List.getD_eq_getElem?_getD]
theorem reverse_of {l dk : List Nat} (h : dk.length = l.length) (hd : ∀ k, k < l.length → dk.getD k 0 = l.getD (l.length - 1 - k) 0) : dk = l.reverse := by
 apply List.ext_getElem
 · simpa using h
 · intro k h1 h2
   have := hd k (by omega)
   rw [List.getD_eq_getElem?_getD, List.getD_eq_getElem?_getD, List.getElem?_eq_getElem h1, List.getElem?_eq_getElem (by omega)] at this
   rw [List.getElem_reverse]
   simpa using this
theorem rev_calls (g c n0 : Nat) (l : List Nat) (w : World) (h : RdB w g l) (hn : n0 ≤ g) (hsm : l.length ≤ 1048576) :
 Calls Tryz.prog 174 #[.slice (some ⟨g, 0, none⟩) l.length c] w fun e w' => e = .returned (.tuple #[]) ∧ RdB w' g l.reverse ∧ Below n0 w w' := by
 go_enter Tryz.func174, Tryz.ntmps174
 go_wp2
 go_loopw [2, 3] (fun iv jv W => ∃ (i : Nat) (dk : List Nat), iv = .int .i64 (i : Int) ∧ jv = .int .i64 ((l.length : Int) - 1 - i) ∧ 2 * i ≤ l.length + 1 ∧ RdB W g dk ∧ Hid (dk.length = l.length) ∧ Hid (∀ k, k < l.length → dk.getD k 0 = if k < i ∨ l.length - 1 - k < i then l.getD (l.length - 1 - k) 0 else l.getD k 0) ∧ Below n0 w W) (fun i _ _ => l.length + 1 - (intOf i).toNat)
 case atStart => exact ⟨0, l, rfl, by simp, by omega, h, rfl, fun k hk => by simp, Below.refl _ _⟩
 case round =>
  obtain ⟨i, dk, rfl, rfl, hi, hr, hdl, hd, hbl⟩ := hrel
  by_cases hlt : i + i + 1 < l.length
  · obtain ⟨j, hj⟩ : ∃ j, l.length - 1 - i = j := ⟨_, rfl⟩
    have hj2 : (l.length : Int) - 1 - (i : Int) = (j : Int) := by omega
    have hij : i < j := by omega
    have hjl : j < l.length := by omega
    obtain ⟨ci, fi⟩ := hr i (by rw [hdl.out]; omega)
    obtain ⟨cj, fj⟩ := hr j (by rw [hdl.out]; omega)
    rw [hj2]
    obtain ⟨x, hx⟩ : ∃ x, dk.getD i 0 = x := ⟨_, rfl⟩
    obtain ⟨y, hy⟩ : ∃ y, dk.getD j 0 = y := ⟨_, rfl⟩
    rw [hx] at ci
    rw [hy] at cj
    have Hx := Lib.hid hx
    have Hy := Lib.hid hy
    have Hj := Lib.hid hj
    have ne1 : ¬ i = j := by omega
    have hi2 : 2 * (i + 1) ≤ l.length + 1 := by omega
    have ne2 : ¬ j = i := by omega
    clear hx hy hj hj2 hlt
    go_wp2_with fail
    go_region
    go_wp2
    refine ⟨⟨i + 1, (dk.set i y).set j x, by simp, ?_, by omega, ?_, ?_, ?_, ((hbl.setCell hn _).setCell hn _).drew⟩, by simp [intOf]; omega⟩
    · have := Hj.out
      congr 1
      omega
    · exact ((hr.set i y (by rw [hdl.out]; omega)).set j x (by rw [List.length_set, hdl.out]; omega)).drew
    · show _ = _
      rw [List.length_set, List.length_set]; exact hdl.out
    · intro k hk
      have hj := Hj.out
      have hd' := hd.out
      have e1 := hd' i (by omega)
      have e2 := hd' j hjl
      rw [Hx.out, if_neg (by omega)] at e1
      rw [Hy.out, if_neg (by omega)] at e2
      rw [getD_set _ _ _ _ (by rw [List.length_set, hdl.out]; omega), getD_set _ _ _ _ (by rw [hdl.out]; omega), hd' k hk]
      by_cases h1 : j = k
      · rw [if_pos h1, if_pos (by omega), e1]; congr 1; omega
      · rw [if_neg h1]
        by_cases h2 : i = k
        · rw [if_pos h2, if_pos (by omega), e2]; congr 1; omega
        · rw [if_neg h2]
          by_cases h3 : k < i ∨ l.length - 1 - k < i
          · rw [if_pos h3, if_pos (by omega)]
          · rw [if_neg h3, if_neg (by omega)]
  · have hnl : ¬ (i : Int) < (l.length : Int) - 1 - (i : Int) := by omega
    go_wp2
    go_end0
    refine ⟨rfl, ?_, hbl⟩
    rw [← reverse_of hdl.out (fun k hk => ?_)]
    · exact hr
    · rw [hd.out k hk]
      by_cases h1 : k < i ∨ l.length - 1 - k < i
      · rw [if_pos h1]
      · rw [if_neg h1]; congr 1; omega
end Nm
end Go.Proofs.YtjghnghceeijeaaGreatDoor
