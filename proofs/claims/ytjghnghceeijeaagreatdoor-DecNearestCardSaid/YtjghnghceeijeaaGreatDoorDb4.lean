/-
  Contracts of the walks below.
-/
import Derived.Test.YtjghnghceeijeaaGreatDoorDb3
import Derived.Test.YtjghnghceeijeaaGreatDoorShelf
import Derived.Maps.OwnIn
set_option maxRecDepth 100000
set_option maxHeartbeats 4000000
set_option linter.unusedVariables false
set_option linter.unusedSimpArgs false
namespace Go.Proofs.YtjghnghceeijeaaGreatDoor
namespace Nm
open Go.RowKit Go.Shelf Go.BigFrame
attribute [local go_sem] Oper.semAt_some
theorem low_word {x y P R : Nat} (hPR : P * R = BB) (hP : 0 < P) (hx : x < BB) : ((y * BB + x) / P) % BB = (y % P) * R + x / P ∧ (y % P) * R + x / P < BB := by
 have hR : 0 < R := Nat.pos_of_ne_zero (by rintro rfl; simp at hPR)
 have h1 : (y * BB + x) / P = y * R + x / P := by
  rw [← hPR, Nat.mul_left_comm, Nat.add_comm, Nat.add_mul_div_left _ _ hP, Nat.add_comm]
 have h2 : x / P < R := by rw [Nat.div_lt_iff_lt_mul hP, Nat.mul_comm]; rw [hPR]; exact hx
 have h3 : (y % P) * R + R ≤ P * R := by
  rw [← Nat.succ_mul]; exact Nat.mul_le_mul (Nat.mod_lt _ hP) (Nat.le_refl _)
 have h4 : (y % P) * R + x / P < BB := by rw [← hPR]; omega
 refine ⟨?_, h4⟩
 rw [h1]
 have h5 : y * R = BB * (y / P) + (y % P) * R := by
  rw [← hPR, Nat.mul_right_comm, ← Nat.add_mul, Nat.div_add_mod]
 rw [h5, Nat.add_assoc, Nat.mul_add_mod, Nat.mod_eq_of_lt h4]
theorem low_step {l outs : List Nat} {k n x y z : Nat} (hn : n < 32) (hx : l.getD k 0 = x) (_hy : l.getD (k + 1) 0 = y) (hxb : x < BB) (hl : outs.length = k) (hz : z = ((y * BB + x) / 2 ^ n) % BB)
 (h : val outs * 2 ^ n + l.getD 0 0 % 2 ^ n = val (l.take k) + BB ^ k * (x % 2 ^ n)) :
 val (outs ++ [z]) * 2 ^ n + l.getD 0 0 % 2 ^ n = val (l.take (k + 1)) + BB ^ (k + 1) * (y % 2 ^ n) := by
 have hPR : 2 ^ n * 2 ^ (32 - n) = BB := by rw [← Nat.pow_add, show n + (32 - n) = 32 by omega]
 have hw := (low_word (y := y) hPR (Nat.two_pow_pos n) hxb).1
 rw [← hz] at hw
 have e : z * 2 ^ n + x % 2 ^ n = x + BB * (y % 2 ^ n) := by
  rw [hw, Nat.add_mul, Nat.mul_assoc, Nat.mul_comm (2 ^ (32 - n)), hPR, Nat.mul_comm (x / 2 ^ n), Nat.add_assoc, Nat.div_add_mod, Nat.add_comm, Nat.mul_comm]
 rw [val_snoc, val_take_succ l k x hx, hl, Nat.pow_succ, Nat.mul_assoc, Nat.add_mul, Nat.mul_assoc]
 have e2 : BB ^ k * (z * 2 ^ n) + BB ^ k * (x % 2 ^ n) = BB ^ k * x + BB ^ k * (BB * (y % 2 ^ n)) := by rw [← Nat.mul_add, e, Nat.mul_add]
 omega
theorem low_calls (A : Option Addr) (c n : Nat) (l : List Nat) (w : World) (h1 : Rd w A l) (hc1 : l.length ≤ c) (hn : n < 32) (hsm : l.length ≤ 1048576) :
 Calls Tryz.prog 233 #[.slice A l.length c, .int .i64 (n : Int)] w (RetNat (val l / 2 ^ n) w) := by
 refine (callsIn_wide (n := 5)).1 ?_
 refine callsIn_of_wp_marks Tryz.func233 rfl trivial ?_ rfl
 simp only [Tryz.ntmps233, List.size_toArray, List.length_cons, List.length_nil, Nat.reduceAdd, Nat.reduceSub, Array.replicate_succ, Array.replicate_zero, List.push_toArray, List.append_toArray, List.nil_append, List.cons_append]
 have hs1 := h1.small
 have hmk := make_nat (l.length : Int) (l.length : Int) l.length l.length rfl rfl (by omega) (by omega)
 gi_wp2_with (refine ⟨trivial, ?_⟩; gi_at_call 212; refine (callsIn_wide.2 (limbs_calls _ _ _ _)).mono ?_; rintro e w2 ⟨rfl, rfl⟩)
 clear hmk
 obtain ⟨w3, hw3⟩ : ∃ w3, allocs w [.cells #[.slice A l.length c] 144, .cells #[.int .i64 (n : Int)] 3, .cells (warr (List.replicate l.length 0)) 127, .cells #[.slice (some ⟨w.heap.size + 2, 0, none⟩) l.length l.length] 144, .cells #[.slice A l.length c] 144] = w3 := ⟨_, rfl⟩
 have hget := allocs_get w [.cells #[.slice A l.length c] 144, .cells #[.int .i64 (n : Int)] 3, .cells (warr (List.replicate l.length 0)) 127, .cells #[.slice (some ⟨w.heap.size + 2, 0, none⟩) l.length l.length] 144, .cells #[.slice A l.length c] 144]
 have hs3 := allocs_stp w [.cells #[.slice A l.length c] 144, .cells #[.int .i64 (n : Int)] 3, .cells (warr (List.replicate l.length 0)) 127, .cells #[.slice (some ⟨w.heap.size + 2, 0, none⟩) l.length l.length] 144, .cells #[.slice A l.length c] 144] (Nat.le_refl w.heap.size)
 have hsz3 := allocs_size w [.cells #[.slice A l.length c] 144, .cells #[.int .i64 (n : Int)] 3, .cells (warr (List.replicate l.length 0)) 127, .cells #[.slice (some ⟨w.heap.size + 2, 0, none⟩) l.length l.length] 144, .cells #[.slice A l.length c] 144]
 rw [hw3] at hget hs3 hsz3
 simp only [allocs] at hw3
 rw [hw3]
 clear hw3
 replace hsz3 : w.heap.size + 5 ≤ w3.heap.size := by rw [hsz3]; exact Nat.le_refl _
 have hB0 : Boxed w3 w.heap.size 144 (.slice A l.length c) := hget 0 (by simp)
 have hB1 : Boxed w3 (w.heap.size + 1) 3 (.int .i64 (n : Int)) := hget 1 (by simp)
 have hB2 : Arr w3 (w.heap.size + 2) (List.replicate l.length 0) := arr_of (hget 2 (by simp))
 have hB3 : Boxed w3 (w.heap.size + 3) 144 (.slice (some ⟨w.heap.size + 2, 0, none⟩) l.length l.length) := hget 3 (by simp)
 have hB4 : Boxed w3 (w.heap.size + 4) 144 (.slice A l.length c) := hget 4 (by simp)
 clear hget
 refine wpIn_limbs_p (n₀ := w.heap.size) (l := l) rfl (by omega) (gf := 236) (lb := #[.pointer (some ⟨w.heap.size + 4, 0, none⟩)]) rfl trivial (enters_of Tryz.func236 (by kernel_rfl) rfl)
  (limbs1_in _ (w.heap.size + 4) A c l w.heap.size w3 hB4.cell (h1.below hs3.below rfl) (by omega) (rd_block h1)) (by omega) (Below.refl _ _) rfl
  (fun k W => ∃ (outs : List Nat), Boxed W w.heap.size 144 (.slice A l.length c) ∧ Boxed W (w.heap.size + 1) 3 (.int .i64 (n : Int)) ∧ Arr W (w.heap.size + 2) (outs ++ List.replicate (l.length - k) 0) ∧ Boxed W (w.heap.size + 3) 144 (.slice (some ⟨w.heap.size + 2, 0, none⟩) l.length l.length) ∧ Below w.heap.size w W ∧ outs.length = k ∧ Words outs ∧ Hid (val outs * 2 ^ n + l.getD 0 0 % 2 ^ n = val (l.take k) + BB ^ k * (l.getD k 0 % 2 ^ n)))
  ?own ?start ?round ?done
 case own =>
  rintro k X Y row ⟨outs, a0, a1, a2, a3, hbl, rest⟩ hg hr
  exact ⟨outs, boxed_ownF _ _ _ (fun _ => _) k X Y row a0 hg hr, boxed_ownF _ _ _ (fun _ => _) k X Y row a1 hg hr, arr_ownF _ _ (fun _ => _) k X Y row a2 hg hr, boxed_ownF _ _ _ (fun _ => _) k X Y row a3 hg hr, ownFrom_below (Nat.le_refl _) (by omega) k X Y row hbl hg hr, rest⟩
 case start => exact ⟨[], hB0, hB1, hB2, hB3, hs3.below, rfl, words_nil, by simp [Hid, val]⟩
 case round =>
  intro k W hk
  obtain ⟨x, hx, hxb⟩ : ∃ x, Hid (l.getD k 0 = x) ∧ x < 4294967296 := ⟨_, rfl, words_getD h1.words k⟩
  obtain ⟨y, hy, hyb⟩ : ∃ y, Hid (l.getD (k + 1) 0 = y) ∧ y < 4294967296 := ⟨_, rfl, words_getD h1.words (k + 1)⟩
  rw [hx.out]
  have hat : ∀ n w', Rd w' A l → CallsIn Fence.wide n Tryz.prog 213 #[.slice A l.length c, .int .i64 ((k : Int) + 1)] w' fun e w'' => e = .returned (.int .u32 (y : Int)) ∧ w'' = w' := by
   intro n w' h; have := at_in n A c l (k + 1) w' h hc1; rwa [hy.out] at this
  gi_wp2
  refine ⟨trivial, ?_⟩
  clear W
  rintro W ⟨outs, hba, hbn, harr, hbo, hbl, hol, how, hval⟩
  have Hol := Lib.hid hol
  clear hol
  obtain ⟨u, g4⟩ : ∃ u : Nat, W.cell? ⟨w.heap.size + 2, k, none⟩ = some (.int .u32 (u : Int)) := ⟨_, arr_cell harr k (by have := Hol.out; simp; omega)⟩
  have f4 := arr_frozen harr k
  have ghba := hba.cell
  have fhba := hba.frozen
  have thba := hba.lt
  have ghbn := hbn.cell
  have fhbn := hbn.frozen
  have thbn := hbn.lt
  have tharr := arr_lt harr
  have ghbo := hbo.cell
  have fhbo := hbo.frozen
  have thbo := hbo.lt
  obtain ⟨t, t1, t2⟩ : ∃ t : Nat, bits .or .u64 ((y : Int) * 4294967296) (x : Int) = (t : Int) ∧ Hid (t = y * BB + x) := by
   have e : (y : Int) * 4294967296 = ((y * 4294967296 : Nat) : Int) := by simp
   refine ⟨y * BB + x, ?_, rfl⟩
   rw [e]
   exact or_u64' x (y * 4294967296) 32 hxb (by show y * 4294967296 % 4294967296 = 0; omega) (by omega) (by omega)
  obtain ⟨z, z1, z2⟩ : ∃ z : Nat, (t : Int) / 2 ^ n % 4294967296 = (z : Int) ∧ Hid (z = (t / 2 ^ n) % BB) := ⟨(t / 2 ^ n) % BB, by simp, rfl⟩
  gi_wp2
  have hwide : ∀ f, Fence.wide.fn f := fun _ => trivial
  refine wpIn_region_tail 15 (by kernel_rfl) (by kernel_rfl) (by kernel_rfl) ?_
  simp only [List.take_succ_cons, List.take_zero, List.drop_succ_cons, List.drop_zero]
  repeat (gi_big_quiet_step ((gi_at_call 213; exact CallsIn.quiet_of_same (CallsIn.inRound _ (hat _ _ (h1.below (below_drewN hbl _) rfl))))))
  refine wpQuietIn_nil ?_
  intro m
  gi_wp2
  simp only [Nat.add_assoc, Nat.reduceAdd]
  have hz : z = ((y * BB + x) / 2 ^ n) % BB := by rw [z2.out, t2.out]
  refine limb_end (by (repeat (first | with_reducible exact Stp.refl _ _ | with_reducible refine Stp.set ?_ (by simp) _ | with_reducible refine Stp.alloc ?_ (by simp; omega) _ | with_reducible refine Stp.drewN ?_ _))) (fun hst => ⟨outs ++ [z], by (repeat (first | with_reducible exact hba | with_reducible exact HasBox.of hba | with_reducible refine boxed_other ?_ (by omega) _ | with_reducible refine boxed_set _ ?_ | with_reducible refine HasBox.set ?_ _ _ | with_reducible refine HasBox.alloc ?_ _ | with_reducible refine HasBox.drewN ?_ _ | with_reducible refine Boxed.alloc ?_ _ | with_reducible refine boxed_drewN ?_ _)), by (repeat (first | with_reducible exact hbn | with_reducible exact HasBox.of hbn | with_reducible refine boxed_other ?_ (by omega) _ | with_reducible refine boxed_set _ ?_ | with_reducible refine HasBox.set ?_ _ _ | with_reducible refine HasBox.alloc ?_ _ | with_reducible refine HasBox.drewN ?_ _ | with_reducible refine Boxed.alloc ?_ _ | with_reducible refine boxed_drewN ?_ _)), ?_, by (repeat (first | with_reducible exact hbo | with_reducible exact HasBox.of hbo | with_reducible refine boxed_other ?_ (by omega) _ | with_reducible refine boxed_set _ ?_ | with_reducible refine HasBox.set ?_ _ _ | with_reducible refine HasBox.alloc ?_ _ | with_reducible refine HasBox.drewN ?_ _ | with_reducible refine Boxed.alloc ?_ _ | with_reducible refine boxed_drewN ?_ _)), hbl.trans hst.below, by simp [Hol.out], ?_, ?_⟩)
  · rw [show l.length - (k + 1) = l.length - k - 1 by omega, ← set_snoc outs (l.length - k) z k Hol.out (by omega)]
    (repeat (first | with_reducible exact harr | with_reducible refine arr_other ?_ (by omega) _ | with_reducible refine arr_set ?_ _ _ | with_reducible refine arr_alloc ?_ _ | with_reducible refine arr_drewN ?_ _))
  · exact words_append.2 ⟨how, fun u hu => by simp at hu; rw [hu, hz]; exact Nat.mod_lt _ (by decide)⟩
  · have h := hval.out
    show val (outs ++ [z]) * 2 ^ n + l.getD 0 0 % 2 ^ n = val (l.take (k + 1)) + BB ^ (k + 1) * (l.getD (k + 1) 0 % 2 ^ n)
    rw [hy.out]
    exact low_step hn hx.out hy.out hxb Hol.out hz h
 case done =>
  rintro D W hD ⟨outs, hba, hbn, harr, hbo, hbl, hol, how, hval⟩ hK
  have Hol := Lib.hid hol
  clear hol
  have ghba := hba.cell
  have fhba := hba.frozen
  have thba := hba.lt
  have ghbn := hbn.cell
  have fhbn := hbn.frozen
  have thbn := hbn.lt
  have tharr := arr_lt harr
  have ghbo := hbo.cell
  have fhbo := hbo.frozen
  have thbo := hbo.lt
  gi_wp2
  obtain ⟨W5, hW5⟩ : ∃ W5, W = W5 := ⟨_, rfl⟩
  have hst5 : Stp w.heap.size W W5 := by rw [← hW5]; exact Stp.refl _ _
  have harr5 : Arr W5 (w.heap.size + 2) (outs) := by
   rw [← hW5]; simpa using harr
  rw [hW5]
  clear hW5
  have hK5 := hst5.keeps.same D _ hK rfl
  have hww : Words (outs) := how
  have hlen : (outs).length = l.length := Hol.out
  have hrd := arr_rd harr5 hww (by omega)
  have ht := fun n => trim_in n (some ⟨(w.heap.size + 2), 0, none⟩) (l.length) (outs) W5 hrd (by omega)
  have hval' : trim (outs) = lim (val l / 2 ^ n) := by
   unfold trim
   rw [show val (outs) = val l / 2 ^ n from (by have h := hval.out; rw [List.take_length, show l.getD l.length 0 = 0 by simp, Nat.zero_mod, Nat.mul_zero, Nat.add_zero] at h; rw [← h, Nat.add_comm, Nat.add_mul_div_right _ _ (Nat.two_pow_pos n), Nat.div_eq_of_lt (Nat.mod_lt _ (Nat.two_pow_pos n)), Nat.zero_add])]
  rw [hval', hlen] at ht
  have hrd2 := hrd.trim
  have htl := trim_length_le hww
  rw [hval'] at hrd2 htl
  have hDl := (Array.getElem?_eq_some_iff.1 hK5).1
  clear hval hval'
  refine ⟨trivial, ?_⟩
  refine (ht _).mono ?_
  rintro e w' ⟨rfl, rfl⟩
  gi_wp2
  refine ⟨by simp, .inl ⟨_, _, rfl, run_takeDeferred hK5, ?_⟩⟩
  exact ⟨_, results_tmp rfl _ _ _, _, _, rfl, by omega, hrd2.putObj _ hK5 rfl, hbl.trans (hst5.below.trans (belowK_b (w := w) (Nat.le_refl _) W5 D _ _ (by omega) hK5 rfl rfl))⟩
end Nm
end Go.Proofs.YtjghnghceeijeaaGreatDoor
namespace Go.Proofs.YtjghnghceeijeaaGreatDoor
namespace Nm
open Go.RowKit Go.Shelf Go.BigFrame
theorem small_step {l qs : List Nat} {b k x rest z r : Nat} (hk : k < l.length) (hx : l.getD k 0 = x) (h : val (l.drop (k + 1)) = b * val qs + rest)
 (hz : z = (rest * BB + x) / b) (hr : r = (rest * BB + x) % b) : val (l.drop k) = b * val (z :: qs) + r := by
 have e1 : l.drop k = x :: l.drop (k + 1) := by
  rw [List.getD_eq_getElem?_getD, List.getElem?_eq_getElem hk] at hx
  rw [List.drop_eq_getElem_cons hk]; rw [show l[k] = x by simpa using hx]
 rw [e1]
 simp only [val]
 rw [h]
 have h3 : b * z + r = rest * BB + x := by rw [hz, hr]; exact Nat.div_add_mod _ _
 have h4 : BB * (b * val qs) = b * (BB * val qs) := Nat.mul_left_comm _ _ _
 rw [Nat.mul_add, Nat.mul_add, h4]
 have h5 : BB * rest = rest * BB := Nat.mul_comm _ _
 omega
theorem small_bound {rest x b : Nat} (hb : rest < b) (hx : x < BB) : (rest * BB + x) / b < BB := by
 rw [Nat.div_lt_iff_lt_mul (by omega)]
 have : rest * BB + BB ≤ b * BB := by rw [← Nat.succ_mul]; exact Nat.mul_le_mul hb (Nat.le_refl _)
 rw [Nat.mul_comm BB b]; omega
theorem set_front (qs : List Nat) (k z : Nat) : (List.replicate (k + 1) 0 ++ qs).set k z = List.replicate k 0 ++ (z :: qs) := by
 rw [List.replicate_succ', List.append_assoc, List.set_append]
 simp
def Ret2 (n : Nat) (m : Nat) (w : World) (e : Ending) (w' : World) : Prop :=
 ∃ A c, e = .returned (.tuple #[.slice A (lim n).length c, .int .u32 (m : Int)]) ∧ (lim n).length ≤ c ∧ Rd w' A (lim n) ∧ Below w.heap.size w w'
theorem small_calls (A : Option Addr) (c b : Nat) (l : List Nat) (w : World) (h1 : Rd w A l) (_hc1 : l.length ≤ c) (hb0 : 0 < b) (hb : b < 4294967296) (hsm : l.length ≤ 1048576) :
 Calls Tryz.prog 173 #[.slice A l.length c, .int .u32 (b : Int)] w (Ret2 (val l / b) (val l % b) w) := by
 have hs1 := h1.small
 have hmk := make_nat (l.length : Int) (l.length : Int) l.length l.length rfl rfl (by omega) (by omega)
 go_enter Tryz.func173, Tryz.ntmps173
 go_wp2
 clear hmk
 go_loopw [7, 8] (fun r i W => ∃ (k rest : Nat) (qs : List Nat), k ≤ l.length ∧ rest < b ∧ r = .int .u64 (rest : Int) ∧ i = .int .i64 ((k : Int) - 1) ∧ Hid (qs.length + k = l.length) ∧ Words qs ∧ Arr W w.heap.size (List.replicate k 0 ++ qs) ∧ Below w.heap.size w W ∧ Hid (val (l.drop k) = b * val qs + rest)) (fun _ i _ => (intOf i + 1).toNat)
 case atStart => exact ⟨l.length, 0, [], Nat.le_refl _, hb0, rfl, rfl, Nat.zero_add _, words_nil, by rw [List.append_nil]; exact arr_new _ _, (Below.refl _ _).alloc (Nat.le_refl _) _, by simp [Hid, val]⟩
 case round =>
  obtain ⟨k, rest, qs, hk, hrb, rfl, rfl, hql, hqw, harr, hbl, hval⟩ := hrel
  rename_i wr
  by_cases h0 : 0 < k
  · obtain ⟨k, rfl⟩ : ∃ j, k = j + 1 := ⟨k - 1, by omega⟩
    obtain ⟨bb, o, x, rfl, hcx, hx, hxb⟩ := h1.get k (by omega)
    have hbb := World.block_lt_of_cell? w _ hcx
    replace hcx := (hbl.cell (p := ⟨bb, o + k, none⟩) hbb).trans hcx
    obtain ⟨u, g4⟩ : ∃ u : Nat, wr.cell? ⟨w.heap.size, k, none⟩ = some (.int .u32 (u : Int)) := ⟨_, arr_cell harr k (by simp; omega)⟩
    have f4 := arr_frozen harr k
    rw [show ((k + 1 : Nat) : Int) - 1 = (k : Int) by omega]
    clear h0
    obtain ⟨t, t1, t2, t3⟩ : ∃ t : Nat, bits .or .u64 ((rest : Int) * 4294967296) (x : Int) = (t : Int) ∧ Hid (t = rest * BB + x) ∧ t < 18446744073709551616 := by
     have e : (rest : Int) * 4294967296 = ((rest * 4294967296 : Nat) : Int) := by simp
     refine ⟨rest * BB + x, ?_, rfl, by show rest * 4294967296 + x < 18446744073709551616; omega⟩
     rw [e]
     exact or_u64' x (rest * 4294967296) 32 hxb (by show rest * 4294967296 % 4294967296 = 0; omega) (by omega) (by omega)
    obtain ⟨z, z1, z2, z3⟩ : ∃ z : Nat, (t : Int) / (b : Int) = (z : Int) ∧ Hid (z = (rest * BB + x) / b) ∧ z < 4294967296 := ⟨t / b, by simp, by rw [← t2.out]; rfl, by rw [t2.out]; exact small_bound hrb hxb⟩
    obtain ⟨r, r1, r2, r3⟩ : ∃ r : Nat, (t : Int) % (b : Int) = (r : Int) ∧ Hid (r = (rest * BB + x) % b) ∧ r < b := ⟨t % b, by simp, by rw [← t2.out]; rfl, Nat.mod_lt _ hb0⟩
    go_wp2
    rw [r1]
    refine ⟨⟨k, r, z :: qs, by omega, r3, rfl, rfl, by have := hql.out; show (z :: qs).length + k = l.length; simp; omega, words_cons.2 ⟨z3, hqw⟩, ?_, hbl.setCell (Nat.le_refl _) _, small_step (by omega) hx.out hval.out z2.out r2.out⟩, by simp [intOf]⟩
    rw [← set_front]
    exact arr_set harr k z
  · obtain rfl : k = 0 := by omega
    have hlen : qs.length = l.length := by have := hql.out; omega
    have hrd := arr_rd (by simpa using harr : Arr wr w.heap.size qs) hqw (by omega)
    have hv : val l = b * val qs + rest := by have := hval.out; rwa [List.drop_zero] at this
    have hq : val qs = val l / b := by rw [hv, Nat.add_comm, Nat.add_mul_div_left _ _ hb0, Nat.div_eq_of_lt hrb, Nat.zero_add]
    have hr : rest = val l % b := by rw [hv, Nat.mul_add_mod, Nat.mod_eq_of_lt hrb]
    have ht := trim_calls (some ⟨w.heap.size, 0, none⟩) l.length qs wr hrd (by omega)
    have hval' : trim qs = lim (val l / b) := by unfold trim; rw [hq]
    have hrd2 := hrd.trim
    have htl := trim_length_le hqw
    rw [hval'] at hrd2 htl ht
    rw [hlen] at ht htl
    clear hval hv hq hval' hlen harr
    have Hr := Lib.hid hr
    clear hr
    go_wp2_with (go_at_call 164; refine ht.mono ?_; rintro e w' ⟨rfl, rfl⟩)
    go_ret2
    refine ⟨_, _, ?_, htl, hrd2, hbl⟩
    rw [← Hr.out]
    rfl
theorem Rd.head {w : World} {A : Option Addr} {l : List Nat} (h : Rd w A l) (hl : 0 < l.length) : ∃ b o, A = some ⟨b, o, none⟩ := by
 obtain ⟨b, o, e, _⟩ := h.cell 0 hl
 exact ⟨b, o, e⟩
def blen (n : Nat) : Nat := if n = 0 then 0 else n.log2 + 1
theorem blen_zero : blen 0 = 0 := rfl
theorem blen_of {n k : Nat} (h1 : n < 2 ^ k) (h2 : 2 ^ k ≤ 2 * n) : blen n = k := by
 have hn : n ≠ 0 := by rintro rfl; have := Nat.two_pow_pos k; omega
 unfold blen
 rw [if_neg hn]
 cases k with
 | zero => simp at h1; omega
 | succ k =>
  rw [(Nat.log2_eq_iff hn).2 ⟨by rw [Nat.pow_succ] at h2; omega, h1⟩]
theorem blen_lt (n : Nat) : n < 2 ^ blen n := by
 unfold blen
 split
 · rename_i h; rw [h]; decide
 · exact Nat.lt_log2_self
theorem blen_le {n : Nat} (h : n ≠ 0) : 2 ^ blen n ≤ 2 * n := by
 unfold blen
 rw [if_neg h, Nat.pow_succ, Nat.mul_comm]
 exact Nat.mul_le_mul (Nat.le_refl _) (Nat.log2_self_le h)
theorem blen_half {n : Nat} (h : n ≠ 0) : blen n = 1 + blen (n / 2) := by
 by_cases h2 : n / 2 = 0
 · have : n = 1 := by omega
   subst this; decide
 · refine blen_of ?_ ?_
   · have := blen_lt (n / 2)
     rw [Nat.add_comm, Nat.pow_succ]; omega
   · have := blen_le h2
     rw [Nat.add_comm, Nat.pow_succ]; omega
theorem bitLen_eq : ∀ (n x : Nat), x < 2 ^ n → n ≤ 64 → Lib.bitLen x = blen x
 | 0, x, h, _ => by
  have : x = 0 := by simpa using h
  subst this; decide
 | n + 1, x, h, hn => by
  by_cases hx : x = 0
  · subst hx; decide
  · rw [Lib.bitLen_half x hx (Nat.lt_of_lt_of_le h (Nat.pow_le_pow_right (by decide) hn)), blen_half hx, bitLen_eq n (x / 2) (by rw [Nat.pow_succ] at h; omega) (by omega)]
theorem blen_word {x : Nat} (h : x < 4294967296) : blen x ≤ 32 := by
 by_cases hx : x = 0
 · subst hx; decide
 · have h1 := blen_le hx
   rcases Nat.lt_or_ge 32 (blen x) with hc | hc
   · have := Nat.pow_le_pow_right (n := 2) (by decide) (show 33 ≤ blen x by omega)
     have e : 2 ^ 33 = 8589934592 := by decide
     omega
   · exact hc
theorem pow_BB (k : Nat) : BB ^ k = 2 ^ (32 * k) := by rw [Nat.pow_mul]
theorem blen_val {l : List Nat} (h : Canon l) (hl : 0 < l.length) : blen (val l) = 32 * (l.length - 1) + blen (l.getD (l.length - 1) 0) := by
 have hne : l ≠ [] := by rintro rfl; simp at hl
 have e := List.dropLast_concat_getLast hne
 have ht : l.getD (l.length - 1) 0 = l.getLast hne := by rw [List.getLast_eq_getElem, List.getD_eq_getElem?_getD, List.getElem?_eq_getElem (by omega)]; rfl
 have hx := h.2 hne
 rw [ht]
 have hw : Words l.dropLast := by rw [List.dropLast_eq_take]; exact words_take h.1 _
 have hv : val l = val l.dropLast + BB ^ (l.length - 1) * l.getLast hne := by
  conv => lhs; rw [← e]
  rw [val_snoc, List.length_dropLast]
 have h1 := val_lt hw
 rw [List.length_dropLast] at h1
 generalize l.getLast hne = x at *
 generalize val l.dropLast = v at *
 rw [pow_BB] at hv h1
 generalize 32 * (l.length - 1) = m at *
 have h2 := blen_lt x
 have h3 := blen_le hx
 refine blen_of ?_ ?_
 · rw [hv, Nat.pow_add]
   have : 2 ^ m * x + 2 ^ m ≤ 2 ^ m * 2 ^ blen x := by rw [← Nat.mul_succ]; exact Nat.mul_le_mul (Nat.le_refl _) h2
   omega
 · rw [hv, Nat.pow_add]
   have : 2 ^ m * 2 ^ blen x ≤ 2 ^ m * (2 * x) := Nat.mul_le_mul (Nat.le_refl _) h3
   rw [Nat.mul_left_comm] at this
   omega
theorem len32_calls (x : Nat) (w : World) (h : x < 4294967296) : Calls Tryz.prog 230 #[.int .u32 (x : Int)] w fun e w' => e = .returned (.int .i64 (blen x : Int)) ∧ w' = w := by
 have := Tryz.bits_Len32 (x : Int) w (by omega) (by omega)
 rwa [Int.toNat_natCast, bitLen_eq 32 x h (by decide)] at this
theorem lead32_calls (x : Nat) (w : World) (h : x < 4294967296) : Calls Tryz.prog 231 #[.int .u32 (x : Int)] w fun e w' => e = .returned (.int .i64 (32 - (blen x : Int))) ∧ w' = w := by
 have := Tryz.bits_LeadingZeros32 (x : Int) w (by omega) (by omega)
 rwa [Int.toNat_natCast, bitLen_eq 32 x h (by decide)] at this
theorem bits_calls (A : Option Addr) (c : Nat) (l : List Nat) (w : World) (h1 : Rd w A l) (hc1 : l.length ≤ c) (hk : Canon l) (hsm : l.length ≤ 1048576) :
 Calls Tryz.prog 205 #[.slice A l.length c] w fun e w' => e = .returned (.int .i64 (blen (val l) : Int)) ∧ ∃ n, w' = w.drewN n := by
 by_cases h0 : l.length = 0
 · have h0' : ((l.length : Int) == 0) = true := by rw [beq_iff_eq]; omega
   obtain rfl : l = [] := List.length_eq_zero_iff.1 h0
   go_enter Tryz.func205, Tryz.ntmps205
   go_wp2
   go_ret
   exact ⟨rfl, 0, rfl⟩
 · have h0' : ((l.length : Int) == 0) = false := by rw [beq_eq_false_iff_ne]; omega
   obtain ⟨b, o, x, rfl, hcx, hx, hxb⟩ := h1.get (l.length - 1) (by omega)
   have hp : 0 < l.length := by omega
   rw [blen_val hk hp, hx.out]
   clear h0
   have hb := blen_word hxb
   generalize hB : blen x = y at *
   have HB := Lib.hid hB
   clear hB
   have hcall : ∀ W, Calls Tryz.prog 230 #[.int .u32 (x : Int)] W fun e w' => e = .returned (.int .i64 (y : Int)) ∧ w' = W := fun W => by have := len32_calls x W hxb; rwa [HB.out] at this
   refine (callsIn_wide (n := 5)).1 ?_
   refine callsIn_of_wp Tryz.func205 rfl trivial ?_ rfl
   simp only [Tryz.ntmps205, List.size_toArray, List.length_cons, List.length_nil, Nat.reduceAdd, Nat.reduceSub, Array.replicate_succ, Array.replicate_zero, List.push_toArray, List.append_toArray, List.nil_append, List.cons_append]
   gi_wp2_with (refine ⟨trivial, ?_⟩; gi_at_call 230; refine (callsIn_wide.2 (hcall _)).mono ?_; rintro e w' ⟨rfl, rfl⟩)
   go_ret
   exact ⟨ret_int (by omega), 0, rfl⟩
theorem own_rd {w : World} {base n : Nat} {v : Value} {l : List Nat} (h : w.ownsRow base 127 1 v n (wvals l)) (hw : Words l) (hs : n ≤ 35184372088832) :
 ∃ A c, v = .slice A n c ∧ n = l.length ∧ n ≤ c ∧ Rd w A l ∧ (∀ b o, A = some ⟨b, o, none⟩ → base ≤ b) := by
 have hl : l.length = n := by simpa using h.1
 rcases h.2 with ⟨rfl, rfl⟩ | ⟨g, cap, cur, rfl, hb, hg, hk, hm, hcs, ht⟩
 · obtain rfl : l = [] := List.length_eq_zero_iff.1 hl
   exact ⟨none, 0, rfl, rfl, Nat.le_refl _, Rd.nil _ _, fun b o e => by cases e⟩
 · refine ⟨_, _, rfl, hl.symm, hk, ⟨fun i hi => ⟨g, 0, rfl, ?_⟩, hw, by omega⟩, fun b o e => by cases e; exact hb⟩
   have h1 : (cur.toList.take n)[i]? = some (.int .u32 ((l.getD i 0 : Nat) : Int)) := by
    rw [show n = n * 1 by omega, ht]; simp [hi, List.getD_eq_getElem?_getD]
   rw [List.getElem?_take_of_lt (by omega)] at h1
   simp only [World.cell?, hg, Option.isSome_none, Bool.false_eq_true, if_false, Nat.zero_add]
   simpa using h1
theorem own_arr {w : World} {base n : Nat} {v : Value} {l : List Nat} (h : w.ownsRow base 127 1 v n (wvals l)) (hp : 0 < l.length) :
 ∃ g c, v = .slice (some ⟨g, 0, none⟩) n c ∧ n = l.length ∧ n ≤ c ∧ c ≤ maxLen ∧ Arr w g l ∧ base ≤ g := by
 have hl : l.length = n := by simpa using h.1
 rcases h.2 with ⟨rfl, rfl⟩ | ⟨g, cap, cur, rfl, hb, hg, hk, hm, hcs, ht⟩
 · omega
 · exact ⟨g, cap, rfl, hl.symm, hk, hm, ⟨cur, hg, by rw [hl, ← ht, Nat.mul_one]⟩, hb⟩
theorem rd_news {w : World} {b o : Nat} {l : List Nat} (h : Rd w (some ⟨b, o, none⟩) l) : ∀ j u, (wvals l)[j]? = some u → w.cell? ((⟨b, o, none⟩ : Addr).add j) = some u := by
 intro j u hj
 have hlt : j < l.length := by have := (List.getElem?_eq_some_iff.1 hj).1; simpa using this
 obtain ⟨b', o', e, hc⟩ := h.cell j hlt
 cases e
 rw [show (⟨b, o, none⟩ : Addr).add j = ⟨b, o + j, none⟩ from by simp [Addr.add]]
 rw [hc]
 rw [← hj]
 simp [hlt, List.getD_eq_getElem?_getD]
theorem wvals_one (l : List Nat) : ∀ u ∈ wvals l, u.oneCell' = true := by
 intro u hu
 obtain ⟨x, _, rfl⟩ := List.mem_map.1 hu
 rfl
theorem arr_own {w : World} {base g : Nat} {l : List Nat} (h : w.heap[g]? = some (.cells (warr l) 127 (0, 0))) (hb : base ≤ g) (hm : l.length ≤ maxLen) : w.ownsRow base 127 1 (.slice (some ⟨g, 0, none⟩) l.length l.length) l.length (wvals l) :=
 ⟨by simp, .inr ⟨g, l.length, warr l, rfl, hb, h, Nat.le_refl _, hm, by simp [warr], by simp [warr, wvals, List.take_of_length_le]⟩⟩
theorem up_calls (A : Option Addr) (c k : Nat) (l : List Nat) (w : World) (h1 : Rd w A l) (hc1 : l.length ≤ c) (hk : Canon l) (hsm : l.length ≤ 1048576) (hkm : k ≤ 1048576) :
 Calls Tryz.prog 209 #[.slice A l.length c, .int .i64 (k : Int)] w (RetNat (BB ^ k * val l) w) := by
 by_cases h0 : l.length = 0
 · have h0' : ((l.length : Int) == 0) = true := by rw [beq_iff_eq]; omega
   obtain rfl : l = [] := List.length_eq_zero_iff.1 h0
   go_enter Tryz.func209, Tryz.ntmps209
   go_wp2
   go_ret
   exact ⟨none, 0, by simp [val, lim_zero], by simp [val, lim_zero], by simp [val, lim_zero, Rd.nil], Below.refl _ _⟩
 · have h0' : ((l.length : Int) == 0) = false := by rw [beq_eq_false_iff_ne]; omega
   have hp : 0 < l.length := by omega
   obtain ⟨b, o, rfl⟩ := h1.head hp
   have hbl : b < w.heap.size := rd_block h1 b o rfl hp
   obtain ⟨i0, hi, hz0, hz1, hz2⟩ := info_parts info_u32
   clear h0
   have hmk := make_nat (k : Int) (k : Int) k k rfl rfl (by omega) (by omega)
   have hb1 : Below w.heap.size w (w.alloc (.cells (warr (List.replicate k 0)) 127)) := (Below.refl _ _).alloc (Nat.le_refl _) _
   have harr : (w.alloc (.cells (warr (List.replicate k 0)) 127)).heap[w.heap.size]? = _ := World.alloc_heap_new w _
   have hown := arr_own harr (Nat.le_refl _) (by simp [maxLen]; omega)
   rw [List.length_replicate] at hown
   have hnews := rd_news (h1.below hb1 rfl)
   go_enter Tryz.func209, Tryz.ntmps209
   go_wp2_with (at_builtin; (refine wpList_append_own _ rfl _ _ 144 rfl w.heap.size 127 i0 (.int .u32 0) 1 4 Tryz.underlying144 hi hz0 hz1 hz2 rfl (by decide) _ _ _ rfl hown ⟨b, o, none⟩ l.length c (wvals l) rfl (by simp) hnews (wvals_one l) (by unfold maxLen; omega) (by omega) (by simp) ?_); intro v' w1 hown' hg1 _)
   have hw2 : Words (List.replicate k 0 ++ l) := words_append.2 ⟨words_replicate k, h1.words⟩
   obtain ⟨A', c', rfl, hn', hc', hrd, _⟩ := own_rd (l := List.replicate k 0 ++ l) (by rw [show wvals (List.replicate k 0 ++ l) = wvals (List.replicate k 0) ++ wvals l from List.map_append]; exact hown') hw2 (by omega)
   have hb2 : Below w.heap.size w w1 := hb1.grown hg1 (by simp) (fun j e => by cases e; exact Nat.le_refl _)
   have hv : lim (BB ^ k * val l) = List.replicate k 0 ++ l := by
    have hne : l ≠ [] := by rintro rfl; simp at hp
    rw [← lim_val (l := List.replicate k 0 ++ l) ⟨hw2, fun h => by rw [List.getLast_append_of_ne_nil _ hne]; exact hk.2 hne⟩]
    rw [val_append, val_replicate, List.length_replicate, Nat.zero_add]
   rw [hn'] at hc' ⊢
   rw [← hv] at hrd hc' ⊢
   clear hv hn' hown' hnews hown harr hmk
   go_wp2
   go_ret
   exact ⟨_, _, rfl, hc', hrd, hb2⟩
end Nm
end Go.Proofs.YtjghnghceeijeaaGreatDoor
namespace Go.Proofs.YtjghnghceeijeaaGreatDoor
namespace Nm
structure Dig (B M u0 u1 u2 lo v1 v2 vlo U V : Nat) : Prop where
 hB : 0 < B
 hM : 0 < M
 hlo : lo < M
 hvlo : vlo < M
 hU : U = lo + M * (u2 + B * (u1 + B * u0))
 hV : V = vlo + M * (v2 + B * v1)
 b1 : u1 < B
 b2 : u2 < B
 c2 : v2 < B
 c1 : v1 < B
 pos : 0 < v1
 lt : U < B * V
namespace Dig
variable {B M u0 u1 u2 lo v1 v2 vlo U V : Nat}
theorem vpos (h : Dig B M u0 u1 u2 lo v1 v2 vlo U V) : 0 < V := by
 have := h.pos
 have h2 : 0 < M * (v2 + B * v1) := Nat.mul_pos h.hM (by have := Nat.mul_pos h.hB h.pos; omega)
 rw [h.hV]; omega
theorem q_lt (h : Dig B M u0 u1 u2 lo v1 v2 vlo U V) : U / V < B := by
 rw [Nat.div_lt_iff_lt_mul h.vpos]; exact h.lt
theorem u0_le (h : Dig B M u0 u1 u2 lo v1 v2 vlo U V) : u0 ≤ v1 := by
 rcases Nat.lt_or_ge v1 u0 with hc | hc
 · exfalso
   have h1 : M * (B * (B * u0)) ≤ U := by
    rw [h.hU]
    have : M * (B * (B * u0)) ≤ M * (u2 + B * (u1 + B * u0)) := Nat.mul_le_mul (Nat.le_refl _) (by
     have : B * (B * u0) ≤ B * (u1 + B * u0) := Nat.mul_le_mul (Nat.le_refl _) (by omega)
     omega)
    omega
   have h2 : B * V ≤ B * (M * (B * (v1 + 1))) := by
    refine Nat.mul_le_mul (Nat.le_refl _) ?_
    rw [h.hV]
    have h3 : M * (v2 + B * v1) + M ≤ M * (B * (v1 + 1)) := by
     rw [← Nat.mul_succ]
     refine Nat.mul_le_mul (Nat.le_refl _) ?_
     have := h.c2
     rw [Nat.mul_add]; omega
    have := h.hvlo
    omega
   have h4 : B * (M * (B * (v1 + 1))) ≤ M * (B * (B * u0)) := by
    rw [Nat.mul_left_comm]
    exact Nat.mul_le_mul (Nat.le_refl _) (Nat.mul_le_mul (Nat.le_refl _) (Nat.mul_le_mul (Nat.le_refl _) hc))
   have := h.lt
   omega
 · exact hc
theorem top_le (h : Dig B M u0 u1 u2 lo v1 v2 vlo U V) : u0 * B + u1 ≤ v1 * B + (B - 1) := by
 have := Nat.mul_le_mul h.u0_le (Nat.le_refl B)
 have := h.b1
 omega
theorem U_lo (h : Dig B M u0 u1 u2 lo v1 v2 vlo U V) : M * ((u0 * B + u1) * B + u2) ≤ U ∧ U < M * ((u0 * B + u1) * B + u2 + 1) := by
 have e : u2 + B * (u1 + B * u0) = (u0 * B + u1) * B + u2 := by
  rw [Nat.mul_comm B (u1 + B * u0), Nat.mul_comm B u0, Nat.add_comm u1, Nat.add_comm u2]
 rw [h.hU, e, Nat.mul_add M _ 1]
 have := h.hlo
 omega
theorem start (h : Dig B M u0 u1 u2 lo v1 v2 vlo U V) : U / V ≤ (u0 * B + u1) / v1 := by
 rw [Nat.le_div_iff_mul_le h.pos]
 have h1 : (U / V) * V ≤ U := Nat.div_mul_le_self U V
 have h2 : (U / V) * (M * (B * v1)) ≤ U := by
  refine Nat.le_trans (Nat.mul_le_mul (Nat.le_refl _) ?_) h1
  rw [h.hV]
  have : M * (B * v1) ≤ M * (v2 + B * v1) := Nat.mul_le_mul (Nat.le_refl _) (by omega)
  omega
 have h3 := h.U_lo.2
 have e : (U / V) * (M * (B * v1)) = M * ((U / V * v1) * B) := by
  rw [Nat.mul_left_comm, Nat.mul_left_comm _ B, Nat.mul_comm B]
 rw [e] at h2
 have h4 := Nat.lt_of_mul_lt_mul_left (Nat.lt_of_le_of_lt h2 h3)
 have h5 : (U / V * v1) * B < (u0 * B + u1 + 1) * B := by
  rw [Nat.add_mul _ 1 B]; have := h.b2; omega
 have := Nat.lt_of_mul_lt_mul_right h5
 omega
theorem dec (h : Dig B M u0 u1 u2 lo v1 v2 vlo U V) {G R : Nat} (hG : G * v1 + R = u0 * B + u1) (ht : R * B + u2 < G * v2) : U / V < G := by
 rw [Nat.div_lt_iff_lt_mul h.vpos]
 have h1 : (u0 * B + u1) * B + u2 + 1 ≤ G * (v2 + B * v1) := by
  rw [← hG, Nat.add_mul, Nat.mul_add]
  have : G * v1 * B = G * (B * v1) := by rw [Nat.mul_assoc, Nat.mul_comm v1]
  omega
 have h2 := Nat.mul_le_mul (Nat.le_refl M) h1
 have h3 := h.U_lo.2
 have e : G * (M * (v2 + B * v1)) = M * (G * (v2 + B * v1)) := Nat.mul_left_comm _ _ _
 rw [h.hV, Nat.mul_add, e]
 omega
theorem good (h : Dig B M u0 u1 u2 lo v1 v2 vlo U V) {G R : Nat} (hG : G * v1 + R = u0 * B + u1) (hb : G < B) (ht : G * v2 ≤ R * B + u2) : G ≤ U / V + 1 := by
 have h1 : G * (v2 + B * v1) ≤ (u0 * B + u1) * B + u2 := by
  rw [← hG, Nat.add_mul, Nat.mul_add]
  have : G * v1 * B = G * (B * v1) := by rw [Nat.mul_assoc, Nat.mul_comm v1]
  omega
 have h2 := Nat.mul_le_mul (Nat.le_refl M) h1
 have h3 := h.U_lo.1
 have e : G * (M * (v2 + B * v1)) = M * (G * (v2 + B * v1)) := Nat.mul_left_comm _ _ _
 have h4 : G * vlo ≤ B * M := Nat.mul_le_mul (Nat.le_of_lt hb) (Nat.le_of_lt h.hvlo)
 have h5 : B * M ≤ M * (v2 + B * v1) := by
  rw [Nat.mul_comm]
  refine Nat.mul_le_mul (Nat.le_refl _) ?_
  have : B * 1 ≤ B * v1 := Nat.mul_le_mul (Nat.le_refl _) h.pos
  rw [Nat.mul_one] at this
  omega
 have h6 : G * V ≤ U + V := by
  rw [h.hV, Nat.mul_add, e]
  omega
 rcases Nat.eq_zero_or_pos G with rfl | hp
 · exact Nat.zero_le _
 · have : G - 1 ≤ U / V := by
    rw [Nat.le_div_iff_mul_le h.vpos, Nat.sub_mul]; omega
   generalize U / V = q at *
   omega
theorem broke (h : Dig B M u0 u1 u2 lo v1 v2 vlo U V) {G R : Nat} (hG : G * v1 + R = u0 * B + u1) (hR : B ≤ R) : G < B ∧ G ≤ U / V + 1 := by
 have h1 := h.top_le
 have hb : G < B := by
  rcases Nat.lt_or_ge G B with hc | hc
  · exact hc
  · exfalso
    have := Nat.mul_le_mul hc (Nat.le_refl v1)
    rw [Nat.mul_comm B v1] at this
    have := h.hB
    omega
 refine ⟨hb, h.good hG hb ?_⟩
 have h2 : G * v2 ≤ B * B := Nat.mul_le_mul (Nat.le_of_lt hb) (Nat.le_of_lt h.c2)
 have h3 := Nat.mul_le_mul hR (Nat.le_refl B)
 omega
end Dig
theorem split3 {l : List Nat} {m : Nat} (h : l.length = m + 3) : l = l.take m ++ [l.getD m 0, l.getD (m + 1) 0, l.getD (m + 2) 0] := by
 apply List.ext_getElem
 · simp [h]
 · intro i h1 h2
   rw [List.getElem_append]
   split
   · simp
   · rename_i hi
     have hi' : m ≤ i := by simp [h] at hi; omega
     have hm : (l.take m).length = m := by simp [h]
     rcases (show i = m ∨ i = m + 1 ∨ i = m + 2 by omega) with rfl | rfl | rfl <;> simp [hm, h1, List.getD_eq_getElem?_getD]
theorem split2 {l : List Nat} {m : Nat} (h : l.length = m + 2) : l = l.take m ++ [l.getD m 0, l.getD (m + 1) 0] := by
 apply List.ext_getElem
 · simp [h]
 · intro i h1 h2
   rw [List.getElem_append]
   split
   · simp
   · rename_i hi
     have hi' : m ≤ i := by simp [h] at hi; omega
     have hm : (l.take m).length = m := by simp [h]
     rcases (show i = m ∨ i = m + 1 by omega) with rfl | rfl <;> simp [hm, h1, List.getD_eq_getElem?_getD]
theorem dig_of {seg vl : List Nat} {m : Nat} (hs : seg.length = m + 3) (hv : vl.length = m + 2) (ws : Words seg) (wv : Words vl) (ht : vl.getD (m + 1) 0 ≠ 0) (hlt : val seg < BB * val vl) :
 Dig BB (BB ^ m) (seg.getD (m + 2) 0) (seg.getD (m + 1) 0) (seg.getD m 0) (val (seg.take m)) (vl.getD (m + 1) 0) (vl.getD m 0) (val (vl.take m)) (val seg) (val vl) where
 hB := by decide
 hM := Nat.pos_of_ne_zero (by have := Nat.one_le_pow m BB (by decide); omega)
 hlo := by have := val_lt (words_take ws m); rwa [List.length_take, Nat.min_eq_left (by omega)] at this
 hvlo := by have := val_lt (words_take wv m); rwa [List.length_take, Nat.min_eq_left (by omega)] at this
 hU := by
  conv => lhs; rw [split3 hs]
  rw [val_append, List.length_take, Nat.min_eq_left (by omega)]
  simp [val]
 hV := by
  conv => lhs; rw [split2 hv]
  rw [val_append, List.length_take, Nat.min_eq_left (by omega)]
  simp [val]
 b1 := words_getD ws _
 b2 := words_getD ws _
 c2 := words_getD wv _
 c1 := words_getD wv _
 pos := by omega
 lt := hlt
theorem mulsub_arith {B P X O G Y cy bw x y t z bq : Nat} (ht : t = cy + G * y) (hz : x + B * bq = z + (t % B + bw)) (h : X + P * (cy + bw) = O + G * Y) :
 (X + P * x) + P * B * (t / B + bq) = (O + P * z) + G * (Y + P * y) := by
 have e1 : x + B * (t / B + bq) = z + bw + (cy + G * y) := by
  rw [← ht]
  have := Nat.mod_add_div t B
  rw [Nat.mul_add]
  omega
 have e2 : P * x + P * (B * (t / B + bq)) = P * (z + bw + (cy + G * y)) := by rw [← Nat.mul_add, e1]
 have e3 : G * (Y + P * y) = G * Y + P * (G * y) := by rw [Nat.mul_add, Nat.mul_left_comm]
 have e4 : P * (z + bw + (cy + G * y)) = P * z + P * (cy + bw) + P * (G * y) := by
  rw [← Nat.mul_add, ← Nat.mul_add]; congr 1; omega
 rw [Nat.mul_assoc, e3]
 omega
end Nm
end Go.Proofs.YtjghnghceeijeaaGreatDoor
