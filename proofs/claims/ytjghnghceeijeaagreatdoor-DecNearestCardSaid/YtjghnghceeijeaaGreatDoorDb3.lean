/-
  Contracts of the walks below.
-/
import Derived.Test.YtjghnghceeijeaaGreatDoorDb2
set_option maxRecDepth 100000
set_option maxHeartbeats 4000000
set_option linter.unusedVariables false
set_option linter.unusedSimpArgs false
namespace Go.Proofs.YtjghnghceeijeaaGreatDoor
namespace Nm
open Go.RowKit Go.Shelf Go.BigFrame
attribute [local go_sem] Oper.semAt_some
theorem sub_step {l1 l2 outs : List Nat} {k cy x y z q : Nat} (hx : l1.getD k 0 = x) (hy : l2.getD k 0 = y) (hl : outs.length = k)
 (hzq : x + BB * q = z + (y + cy)) (h : val (l1.take k) + BB ^ k * cy = val outs + val (l2.take k)) :
 val (l1.take (k + 1)) + BB ^ (k + 1) * q = val (outs ++ [z]) + val (l2.take (k + 1)) := by
 rw [val_snoc, val_take_succ l1 k x hx, val_take_succ l2 k y hy, hl, Nat.pow_succ, Nat.mul_assoc]
 have : BB ^ k * (x + BB * q) = BB ^ k * (z + (y + cy)) := by rw [hzq]
 simp only [Nat.mul_add] at this
 omega
theorem sub_calls (A1 A2 : Option Addr) (c1 c2 : Nat) (l1 l2 : List Nat) (w : World) (h1 : Rd w A1 l1) (h2 : Rd w A2 l2) (_hc1 : l1.length ≤ c1) (hc2 : l2.length ≤ c2)
 (hle : val l2 ≤ val l1) (hll : l2.length ≤ l1.length) (hsm : l1.length ≤ 1048576) :
 Calls Tryz.prog 201 #[.slice A1 l1.length c1, .slice A2 l2.length c2] w (RetNat (val l1 - val l2) w) := by
 refine (callsIn_wide (n := 5)).1 ?_
 refine callsIn_of_wp_marks Tryz.func201 rfl trivial ?_ rfl
 simp only [Tryz.ntmps201, List.size_toArray, List.length_cons, List.length_nil, Nat.reduceAdd, Nat.reduceSub, Array.replicate_succ, Array.replicate_zero, List.push_toArray, List.append_toArray, List.nil_append, List.cons_append]
 have hs1 := h1.small
 have hs2 := h2.small
 have Hle := Lib.hid hle
 clear hle
 have hmk := make_nat (l1.length : Int) (l1.length : Int) l1.length l1.length rfl rfl (by omega) (by omega)
 gi_wp2_with (refine ⟨trivial, ?_⟩; gi_at_call 212; refine (callsIn_wide.2 (limbs_calls _ _ _ _)).mono ?_; rintro e w2 ⟨rfl, rfl⟩)
 clear hmk
 obtain ⟨w3, hw3⟩ : ∃ w3, allocs w [.cells #[.slice A2 l2.length c2] 144, .cells (warr (List.replicate l1.length 0)) 127, .cells #[.slice (some ⟨w.heap.size + 1, 0, none⟩) l1.length l1.length] 144, .cells #[.int .u64 0] 128, .cells #[.slice A1 l1.length c1] 144] = w3 := ⟨_, rfl⟩
 have hget := allocs_get w [.cells #[.slice A2 l2.length c2] 144, .cells (warr (List.replicate l1.length 0)) 127, .cells #[.slice (some ⟨w.heap.size + 1, 0, none⟩) l1.length l1.length] 144, .cells #[.int .u64 0] 128, .cells #[.slice A1 l1.length c1] 144]
 have hs3 := allocs_stp w [.cells #[.slice A2 l2.length c2] 144, .cells (warr (List.replicate l1.length 0)) 127, .cells #[.slice (some ⟨w.heap.size + 1, 0, none⟩) l1.length l1.length] 144, .cells #[.int .u64 0] 128, .cells #[.slice A1 l1.length c1] 144] (Nat.le_refl w.heap.size)
 have hsz3 := allocs_size w [.cells #[.slice A2 l2.length c2] 144, .cells (warr (List.replicate l1.length 0)) 127, .cells #[.slice (some ⟨w.heap.size + 1, 0, none⟩) l1.length l1.length] 144, .cells #[.int .u64 0] 128, .cells #[.slice A1 l1.length c1] 144]
 rw [hw3] at hget hs3 hsz3
 simp only [allocs] at hw3
 rw [hw3]
 clear hw3
 replace hsz3 : w.heap.size + 5 ≤ w3.heap.size := by rw [hsz3]; exact Nat.le_refl _
 have hB0 : Boxed w3 w.heap.size 144 (.slice A2 l2.length c2) := hget 0 (by simp)
 have hB1 : Arr w3 (w.heap.size + 1) (List.replicate l1.length 0) := arr_of (hget 1 (by simp))
 have hB2 : Boxed w3 (w.heap.size + 2) 144 (.slice (some ⟨w.heap.size + 1, 0, none⟩) l1.length l1.length) := hget 2 (by simp)
 have hB3 : Boxed w3 (w.heap.size + 3) 128 (.int .u64 0) := hget 3 (by simp)
 have hB4 : Boxed w3 (w.heap.size + 4) 144 (.slice A1 l1.length c1) := hget 4 (by simp)
 clear hget
 refine wpIn_limbs_p (n₀ := w.heap.size) (l := l1) rfl (by omega) (gf := 236) (lb := #[.pointer (some ⟨w.heap.size + 4, 0, none⟩)]) rfl trivial (enters_of Tryz.func236 (by kernel_rfl) rfl)
  (limbs1_in _ (w.heap.size + 4) A1 c1 l1 w.heap.size w3 hB4.cell (h1.below hs3.below rfl) (by omega) (rd_block h1)) (by omega) (Below.refl _ _) rfl
  (fun k W => ∃ (outs : List Nat) (cy : Nat), Boxed W w.heap.size 144 (.slice A2 l2.length c2) ∧ Arr W (w.heap.size + 1) (outs ++ List.replicate (l1.length - k) 0) ∧ Boxed W (w.heap.size + 2) 144 (.slice (some ⟨w.heap.size + 1, 0, none⟩) l1.length l1.length) ∧ Boxed W (w.heap.size + 3) 128 (.int .u64 (cy : Int)) ∧ Below w.heap.size w W ∧ cy ≤ 1 ∧ outs.length = k ∧ Words outs ∧ Hid (val (l1.take k) + BB ^ k * cy = val outs + val (l2.take k)))
  ?own ?start ?round ?done
 case own =>
  rintro k X Y row ⟨outs, cy, a0, a1, a2, a3, hbl, rest⟩ hg hr
  exact ⟨outs, cy, boxed_ownF _ _ _ (fun _ => _) k X Y row a0 hg hr, arr_ownF _ _ (fun _ => _) k X Y row a1 hg hr, boxed_ownF _ _ _ (fun _ => _) k X Y row a2 hg hr, boxed_ownF _ _ _ (fun _ => _) k X Y row a3 hg hr, ownFrom_below (Nat.le_refl _) (by omega) k X Y row hbl hg hr, rest⟩
 case start => exact ⟨[], 0, hB0, hB1, hB2, hB3, hs3.below, by omega, rfl, words_nil, by simp [Hid, val]⟩
 case round =>
  intro k W hk
  obtain ⟨x, hx, hxb⟩ : ∃ x, Hid (l1.getD k 0 = x) ∧ x < 4294967296 := ⟨_, rfl, words_getD h1.words k⟩
  obtain ⟨y, hy, hyb⟩ : ∃ y, Hid (l2.getD k 0 = y) ∧ y < 4294967296 := ⟨_, rfl, words_getD h2.words k⟩
  rw [hx.out]
  have hat : ∀ n w', Rd w' A2 l2 → CallsIn Fence.wide n Tryz.prog 213 #[.slice A2 l2.length c2, .int .i64 (k : Int)] w' fun e w'' => e = .returned (.int .u32 (y : Int)) ∧ w'' = w' := by
   intro n w' h; have := at_in n A2 c2 l2 k w' h hc2; rwa [hy.out] at this
  gi_wp2
  refine ⟨trivial, ?_⟩
  clear W
  rintro W ⟨outs, cy, hbb, harr, hbo, hbc, hbl, hcy, hol, how, hval⟩
  have Hol := Lib.hid hol
  clear hol
  obtain ⟨u, g4⟩ : ∃ u : Nat, W.cell? ⟨w.heap.size + 1, k, none⟩ = some (.int .u32 (u : Int)) := ⟨_, arr_cell harr k (by have := Hol.out; simp; omega)⟩
  have f4 := arr_frozen harr k
  have ghbb := hbb.cell
  have fhbb := hbb.frozen
  have thbb := hbb.lt
  have tharr := arr_lt harr
  have ghbo := hbo.cell
  have fhbo := hbo.frozen
  have thbo := hbo.lt
  have ghbc := hbc.cell
  have fhbc := hbc.frozen
  have thbc := hbc.lt
  obtain ⟨d, d1, d2⟩ : ∃ d : Nat, IntKind.u64.wrap ((x : Int) - (y : Int)) = (d : Int) ∧ Hid ((d : Int) = ((x : Int) - (y : Int)) % 18446744073709551616) := by
   obtain ⟨d, hd⟩ := Int.eq_ofNat_of_zero_le (show 0 ≤ ((x : Int) - (y : Int)) % 18446744073709551616 by omega)
   exact ⟨d, by rw [← hd]; rfl, hd.symm⟩
  obtain ⟨v, v1, v2⟩ : ∃ v : Nat, IntKind.u64.wrap ((d : Int) - (cy : Int)) = (v : Int) ∧ Hid ((v : Int) = ((d : Int) - (cy : Int)) % 18446744073709551616) := by
   obtain ⟨d, hd⟩ := Int.eq_ofNat_of_zero_le (show 0 ≤ ((d : Int) - (cy : Int)) % 18446744073709551616 by omega)
   exact ⟨d, by rw [← hd]; rfl, hd.symm⟩
  obtain ⟨z, z1, z2⟩ : ∃ z : Nat, (v : Int) % 4294967296 = (z : Int) ∧ Hid (z = v % 4294967296) := ⟨v % 4294967296, by omega, rfl⟩
  gi_wp2
  have hwide : ∀ f, Fence.wide.fn f := fun _ => trivial
  refine wpIn_region_all (by kernel_rfl) (by kernel_rfl) (by kernel_rfl) ?_
  repeat (gi_big_quiet_step ((gi_at_call 213; exact CallsIn.quiet_of_same (CallsIn.inRound _ (hat _ _ (h2.below (below_drewN hbl _) rfl))))))
  refine wpQuietIn_nil ?_
  intro m
  gi_wp2
  obtain ⟨q, q1, q2⟩ : ∃ q : Nat, (v : Int) / 9223372036854775808 = (q : Int) ∧ q = v / 9223372036854775808 := ⟨v / 9223372036854775808, by omega, rfl⟩
  rw [q1]
  simp only [Nat.add_assoc, Nat.reduceAdd]
  have D2 := d2.out
  have V2 := v2.out
  have Z2 := z2.out
  have hq2 : q ≤ 1 ∧ x + 4294967296 * q = z + (y + cy) := by omega
  refine limb_end (by (repeat (first | with_reducible exact Stp.refl _ _ | with_reducible refine Stp.set ?_ (by simp) _ | with_reducible refine Stp.alloc ?_ (by simp; omega) _ | with_reducible refine Stp.drewN ?_ _))) (fun hst => ⟨outs ++ [z], q, by (repeat (first | with_reducible exact hbb | with_reducible exact HasBox.of hbb | with_reducible refine boxed_other ?_ (by omega) _ | with_reducible refine boxed_set _ ?_ | with_reducible refine HasBox.set ?_ _ _ | with_reducible refine HasBox.alloc ?_ _ | with_reducible refine HasBox.drewN ?_ _ | with_reducible refine Boxed.alloc ?_ _ | with_reducible refine boxed_drewN ?_ _)), ?_, by (repeat (first | with_reducible exact hbo | with_reducible exact HasBox.of hbo | with_reducible refine boxed_other ?_ (by omega) _ | with_reducible refine boxed_set _ ?_ | with_reducible refine HasBox.set ?_ _ _ | with_reducible refine HasBox.alloc ?_ _ | with_reducible refine HasBox.drewN ?_ _ | with_reducible refine Boxed.alloc ?_ _ | with_reducible refine boxed_drewN ?_ _)), by (repeat (first | with_reducible exact hbc | with_reducible exact HasBox.of hbc | with_reducible refine boxed_other ?_ (by omega) _ | with_reducible refine boxed_set _ ?_ | with_reducible refine HasBox.set ?_ _ _ | with_reducible refine HasBox.alloc ?_ _ | with_reducible refine HasBox.drewN ?_ _ | with_reducible refine Boxed.alloc ?_ _ | with_reducible refine boxed_drewN ?_ _)), hbl.trans hst.below, hq2.1, by simp [Hol.out], ?_, ?_⟩)
  · rw [show l1.length - (k + 1) = l1.length - k - 1 by omega, ← set_snoc outs (l1.length - k) z k Hol.out (by omega)]
    (repeat (first | with_reducible exact harr | with_reducible refine arr_other ?_ (by omega) _ | with_reducible refine arr_set ?_ _ _ | with_reducible refine arr_alloc ?_ _ | with_reducible refine arr_drewN ?_ _))
  · exact words_append.2 ⟨how, fun u hu => by simp at hu; rw [hu]; show z < 4294967296; omega⟩
  · exact sub_step hx.out hy.out Hol.out hq2.2 hval.out
 case done =>
  rintro D W hD ⟨outs, cy, hbb, harr, hbo, hbc, hbl, hcy, hol, how, hval⟩ hK
  have Hol := Lib.hid hol
  clear hol
  have ghbb := hbb.cell
  have fhbb := hbb.frozen
  have thbb := hbb.lt
  have ghbo := hbo.cell
  have fhbo := hbo.frozen
  have thbo := hbo.lt
  have ghbc := hbc.cell
  have fhbc := hbc.frozen
  have thbc := hbc.lt
  have tharr := arr_lt harr
  gi_wp2
  obtain ⟨W5, hW5⟩ : ∃ W5, W = W5 := ⟨_, rfl⟩
  have hst5 : Stp w.heap.size W W5 := by rw [← hW5]; exact Stp.refl _ _
  have harr5 : Arr W5 (w.heap.size + 1) (outs) := by
   rw [← hW5]; simpa using harr
  rw [hW5]
  clear hW5
  have hK5 := hst5.keeps.same D _ hK rfl
  have hww : Words (outs) := how
  have hlen : (outs).length = l1.length := Hol.out
  have hrd := arr_rd harr5 hww (by omega)
  have ht := fun n => trim_in n (some ⟨(w.heap.size + 1), 0, none⟩) (l1.length) (outs) W5 hrd (by omega)
  have hval' : trim (outs) = lim (val l1 - val l2) := by
   unfold trim
   rw [show val (outs) = val l1 - val l2 from (by have h := hval.out; have hb := Hle.out; have ho := val_lt how; rw [Hol.out] at ho; rw [List.take_length, List.take_of_length_le hll] at h; rcases Nat.lt_or_ge 0 cy with hc | hc; (have : cy = 1 := by omega); subst this; rw [Nat.mul_one] at h; omega; (have : cy = 0 := by omega); subst this; rw [Nat.mul_zero] at h; omega)]
  rw [hval', hlen] at ht
  have hrd2 := hrd.trim
  have htl := trim_length_le hww
  rw [hval'] at hrd2 htl
  have hDl := (Array.getElem?_eq_some_iff.1 hK5).1
  clear hval hval'
  refine ⟨trivial, ?_⟩
  refine (ht _).mono ?_
  rintro e w' ⟨rfl, rfl⟩
  gi_wp2
  refine ⟨by simp, .inl ⟨_, _, rfl, run_takeDeferred hK5, ?_⟩⟩
  exact ⟨_, results_tmp rfl _ _ _, _, _, rfl, by omega, hrd2.putObj _ hK5 rfl, hbl.trans (hst5.below.trans (belowK_b (w := w) (Nat.le_refl _) W5 D _ _ (by omega) hK5 rfl rfl))⟩
theorem scaled_step {l outs : List Nat} {k cy x m n t : Nat} (hx : l.getD k 0 = x) (hl : outs.length = k) (ht : t = cy + x * m)
 (h : val outs + BB ^ k * cy = val (l.take k) * m + n) :
 val (outs ++ [t % BB]) + BB ^ (k + 1) * (t / BB) = val (l.take (k + 1)) * m + n := by
 rw [val_snoc, val_take_succ l k x hx, hl, Nat.pow_succ, Nat.mul_assoc, Nat.add_assoc, ← Nat.mul_add, Nat.mod_add_div, ht, Nat.mul_add, Nat.add_mul, Nat.mul_assoc]
 omega
theorem mul_words {x m : Nat} (hx : x < 4294967296) (hm : m < 4294967296) : x * m ≤ 18446744065119617025 := by
 have := Nat.mul_le_mul (show x ≤ 4294967295 by omega) (show m ≤ 4294967295 by omega)
 exact this
theorem scaled_calls (A : Option Addr) (c m n : Nat) (l : List Nat) (w : World) (h1 : Rd w A l) (_hc1 : l.length ≤ c) (hm : m < 4294967296) (hn : n < 4294967296) (hsm : l.length ≤ 1048576) :
 Calls Tryz.prog 193 #[.slice A l.length c, .int .u32 (m : Int), .int .u32 (n : Int)] w (RetNat (val l * m + n) w) := by
 refine (callsIn_wide (n := 5)).1 ?_
 refine callsIn_of_wp_marks Tryz.func193 rfl trivial ?_ rfl
 simp only [Tryz.ntmps193, List.size_toArray, List.length_cons, List.length_nil, Nat.reduceAdd, Nat.reduceSub, Array.replicate_succ, Array.replicate_zero, List.push_toArray, List.append_toArray, List.nil_append, List.cons_append]
 have hs1 := h1.small
 have hmk := make_nat 0 ((l.length : Int) + 1) 0 (l.length + 1) rfl (by simp) (by omega) (by omega)
 gi_wp2_with (refine ⟨trivial, ?_⟩; gi_at_call 212; refine (callsIn_wide.2 (limbs_calls _ _ _ _)).mono ?_; rintro e w2 ⟨rfl, rfl⟩)
 clear hmk
 obtain ⟨w3, hw3⟩ : ∃ w3, allocs w [.cells #[.int .u32 (m : Int)] 127, .cells (warr (List.replicate (l.length + 1) 0)) 127, .cells #[.slice (some ⟨w.heap.size + 1, 0, none⟩) 0 (l.length + 1)] 144, .cells #[.int .u64 (n : Int)] 128, .cells #[.slice A l.length c] 144] = w3 := ⟨_, rfl⟩
 have hget := allocs_get w [.cells #[.int .u32 (m : Int)] 127, .cells (warr (List.replicate (l.length + 1) 0)) 127, .cells #[.slice (some ⟨w.heap.size + 1, 0, none⟩) 0 (l.length + 1)] 144, .cells #[.int .u64 (n : Int)] 128, .cells #[.slice A l.length c] 144]
 have hs3 := allocs_stp w [.cells #[.int .u32 (m : Int)] 127, .cells (warr (List.replicate (l.length + 1) 0)) 127, .cells #[.slice (some ⟨w.heap.size + 1, 0, none⟩) 0 (l.length + 1)] 144, .cells #[.int .u64 (n : Int)] 128, .cells #[.slice A l.length c] 144] (Nat.le_refl w.heap.size)
 have hsz3 := allocs_size w [.cells #[.int .u32 (m : Int)] 127, .cells (warr (List.replicate (l.length + 1) 0)) 127, .cells #[.slice (some ⟨w.heap.size + 1, 0, none⟩) 0 (l.length + 1)] 144, .cells #[.int .u64 (n : Int)] 128, .cells #[.slice A l.length c] 144]
 rw [hw3] at hget hs3 hsz3
 simp only [allocs] at hw3
 rw [hw3]
 clear hw3
 replace hsz3 : w.heap.size + 5 ≤ w3.heap.size := by rw [hsz3]; exact Nat.le_refl _
 have hB0 : Boxed w3 w.heap.size 127 (.int .u32 (m : Int)) := hget 0 (by simp)
 have hB1 : Arr w3 (w.heap.size + 1) (List.replicate (l.length + 1) 0) := arr_of (hget 1 (by simp))
 have hB2 : Boxed w3 (w.heap.size + 2) 144 (.slice (some ⟨w.heap.size + 1, 0, none⟩) 0 (l.length + 1)) := hget 2 (by simp)
 have hB3 : Boxed w3 (w.heap.size + 3) 128 (.int .u64 (n : Int)) := hget 3 (by simp)
 have hB4 : Boxed w3 (w.heap.size + 4) 144 (.slice A l.length c) := hget 4 (by simp)
 clear hget
 refine wpIn_limbs_p (n₀ := w.heap.size) (l := l) rfl (by omega) (gf := 236) (lb := #[.pointer (some ⟨w.heap.size + 4, 0, none⟩)]) rfl trivial (enters_of Tryz.func236 (by kernel_rfl) rfl)
  (limbs1_in _ (w.heap.size + 4) A c l w.heap.size w3 hB4.cell (h1.below hs3.below rfl) (by omega) (rd_block h1)) (by omega) (Below.refl _ _) rfl
  (fun k W => ∃ (outs : List Nat) (cy : Nat), Boxed W w.heap.size 127 (.int .u32 (m : Int)) ∧ Arr W (w.heap.size + 1) (outs ++ List.replicate (l.length + 1 - k) 0) ∧ Boxed W (w.heap.size + 2) 144 (.slice (some ⟨w.heap.size + 1, 0, none⟩) k (l.length + 1)) ∧ Boxed W (w.heap.size + 3) 128 (.int .u64 (cy : Int)) ∧ Below w.heap.size w W ∧ cy < 4294967296 ∧ outs.length = k ∧ Words outs ∧ Hid (val outs + BB ^ k * cy = val (l.take k) * m + n))
  ?own ?start ?round ?done
 case own =>
  rintro k X Y row ⟨outs, cy, a0, a1, a2, a3, hbl, rest⟩ hg hr
  exact ⟨outs, cy, boxed_ownF _ _ _ (fun _ => _) k X Y row a0 hg hr, arr_ownF _ _ (fun _ => _) k X Y row a1 hg hr, boxed_ownF _ _ _ (fun _ => _) k X Y row a2 hg hr, boxed_ownF _ _ _ (fun _ => _) k X Y row a3 hg hr, ownFrom_below (Nat.le_refl _) (by omega) k X Y row hbl hg hr, rest⟩
 case start => exact ⟨[], n, hB0, hB1, hB2, hB3, hs3.below, hn, rfl, words_nil, by simp [Hid, val]⟩
 case round =>
  intro k W hk
  obtain ⟨x, hx, hxb⟩ : ∃ x, Hid (l.getD k 0 = x) ∧ x < 4294967296 := ⟨_, rfl, words_getD h1.words k⟩
  rw [hx.out]
  gi_wp2
  refine ⟨trivial, ?_⟩
  clear W
  rintro W ⟨outs, cy, hbb, harr, hbo, hbc, hbl, hcy, hol, how, hval⟩
  have Hol := Lib.hid hol
  clear hol
  obtain ⟨u, g4⟩ : ∃ u : Nat, W.cell? ⟨w.heap.size + 1, k, none⟩ = some (.int .u32 (u : Int)) := ⟨_, arr_cell harr k (by have := Hol.out; simp; omega)⟩
  have f4 := arr_frozen harr k
  have ghbb := hbb.cell
  have fhbb := hbb.frozen
  have thbb := hbb.lt
  have tharr := arr_lt harr
  have ghbo := hbo.cell
  have fhbo := hbo.frozen
  have thbo := hbo.lt
  have ghbc := hbc.cell
  have fhbc := hbc.frozen
  have thbc := hbc.lt
  obtain ⟨p, hp, hp2, hp3⟩ : ∃ p : Nat, (x : Int) * (m : Int) = (p : Int) ∧ p ≤ 18446744065119617025 ∧ Hid (p = x * m) := ⟨x * m, (Int.natCast_mul x m).symm, mul_words hxb hm, rfl⟩
  gi_wp2
  obtain ⟨z, hz⟩ : ∃ z : Nat, ((cy : Int) + (p : Int)) % 4294967296 = (z : Int) := ⟨(cy + p) % 4294967296, by omega⟩
  obtain ⟨q, hq⟩ : ∃ q : Nat, ((cy : Int) + (p : Int)) / 4294967296 = (q : Int) := ⟨(cy + p) / 4294967296, by omega⟩
  rw [hz, hq]
  simp only [Nat.add_assoc, Nat.reduceAdd]
  have hz' : z = (cy + p) % BB := by show z = _ % 4294967296; omega
  have hq' : q = (cy + p) / BB := by show q = _ / 4294967296; omega
  refine limb_end (by (repeat (first | with_reducible exact Stp.refl _ _ | with_reducible refine Stp.set ?_ (by simp) _ | with_reducible refine Stp.alloc ?_ (by simp; omega) _ | with_reducible refine Stp.drewN ?_ _))) (fun hst => ⟨outs ++ [z], q, by (repeat (first | with_reducible exact hbb | with_reducible exact HasBox.of hbb | with_reducible refine boxed_other ?_ (by omega) _ | with_reducible refine boxed_set _ ?_ | with_reducible refine HasBox.set ?_ _ _ | with_reducible refine HasBox.alloc ?_ _ | with_reducible refine HasBox.drewN ?_ _ | with_reducible refine Boxed.alloc ?_ _ | with_reducible refine boxed_drewN ?_ _)), ?_, by (repeat (first | with_reducible exact hbo | with_reducible exact HasBox.of hbo | with_reducible refine boxed_other ?_ (by omega) _ | with_reducible refine boxed_set _ ?_ | with_reducible refine HasBox.set ?_ _ _ | with_reducible refine HasBox.alloc ?_ _ | with_reducible refine HasBox.drewN ?_ _ | with_reducible refine Boxed.alloc ?_ _ | with_reducible refine boxed_drewN ?_ _)), by (repeat (first | with_reducible exact hbc | with_reducible exact HasBox.of hbc | with_reducible refine boxed_other ?_ (by omega) _ | with_reducible refine boxed_set _ ?_ | with_reducible refine HasBox.set ?_ _ _ | with_reducible refine HasBox.alloc ?_ _ | with_reducible refine HasBox.drewN ?_ _ | with_reducible refine Boxed.alloc ?_ _ | with_reducible refine boxed_drewN ?_ _)), hbl.trans hst.below, by omega, by simp [Hol.out], ?_, ?_⟩)
  · rw [show l.length + 1 - (k + 1) = l.length + 1 - k - 1 by omega, ← set_snoc outs (l.length + 1 - k) z k Hol.out (by omega)]
    (repeat (first | with_reducible exact harr | with_reducible refine arr_other ?_ (by omega) _ | with_reducible refine arr_set ?_ _ _ | with_reducible refine arr_alloc ?_ _ | with_reducible refine arr_drewN ?_ _))
  · exact words_append.2 ⟨how, fun u hu => by simp at hu; rw [hu, hz']; exact Nat.mod_lt _ (by decide)⟩
  · rw [hz', hq']; exact scaled_step hx.out Hol.out (by rw [hp3.out]) hval.out
 case done =>
  rintro D W hD ⟨outs, cy, hbb, harr, hbo, hbc, hbl, hcy, hol, how, hval⟩ hK
  have Hol := Lib.hid hol
  clear hol
  obtain ⟨u, g4⟩ : ∃ u : Nat, W.cell? ⟨w.heap.size + 1, l.length, none⟩ = some (.int .u32 (u : Int)) := ⟨_, arr_cell harr l.length (by have := Hol.out; simp; omega)⟩
  have f4 := arr_frozen harr l.length
  have ghbb := hbb.cell
  have fhbb := hbb.frozen
  have thbb := hbb.lt
  have tharr := arr_lt harr
  have ghbo := hbo.cell
  have fhbo := hbo.frozen
  have thbo := hbo.lt
  have ghbc := hbc.cell
  have fhbc := hbc.frozen
  have thbc := hbc.lt
  gi_wp2
  obtain ⟨W5, hW5⟩ : ∃ W5, (W.setCell ⟨w.heap.size + 1, l.length, none⟩ (.int .u32 (cy : Int))).alloc (.cells #[.int .u32 (cy : Int)] 127) = W5 := ⟨_, rfl⟩
  have hst5 : Stp w.heap.size W W5 := by rw [← hW5]; exact ((Stp.refl _ W).set (by simp) _).alloc (by simp [World.setCell]; omega) _
  have harr5 : Arr W5 (w.heap.size + 1) (outs ++ [cy]) := by
   have := arr_alloc (arr_set harr l.length cy) (.cells #[.int .u32 (cy : Int)] 127)
   rw [set_snoc outs (l.length + 1 - l.length) cy l.length Hol.out (by omega), show l.length + 1 - l.length - 1 = 0 by omega] at this
   rw [← hW5]; simpa using this
  rw [hW5]
  clear hW5
  have hK5 := hst5.keeps.same D _ hK rfl
  have hww : Words (outs ++ [cy]) := words_append.2 ⟨how, fun u hu => by simp at hu; rw [hu]; exact hcy⟩
  have hlen : (outs ++ [cy]).length = l.length + 1 := by simp [Hol.out]
  have hrd := arr_rd harr5 hww (by omega)
  have ht := fun n => trim_in n (some ⟨(w.heap.size + 1), 0, none⟩) (l.length + 1) (outs ++ [cy]) W5 hrd (by omega)
  have hval' : trim (outs ++ [cy]) = lim (val l * m + n) := by
   unfold trim
   rw [show val (outs ++ [cy]) = val l * m + n from (by have h := hval.out; rw [List.take_length] at h; rw [val_snoc, Hol.out, h])]
  rw [hval', hlen] at ht
  have hrd2 := hrd.trim
  have htl := trim_length_le hww
  rw [hval'] at hrd2 htl
  have hDl := (Array.getElem?_eq_some_iff.1 hK5).1
  clear hval hval'
  refine ⟨trivial, ?_⟩
  refine (ht _).mono ?_
  rintro e w' ⟨rfl, rfl⟩
  gi_wp2
  refine ⟨by simp, .inl ⟨_, _, rfl, run_takeDeferred hK5, ?_⟩⟩
  exact ⟨_, results_tmp rfl _ _ _, _, _, rfl, by omega, hrd2.putObj _ hK5 rfl, hbl.trans (hst5.below.trans (belowK_b (w := w) (Nat.le_refl _) W5 D _ _ (by omega) hK5 rfl rfl))⟩
theorem wraps_u64 (n : Int) (h₀ : 0 ≤ n) (h₁ : n < 2 ^ 64) : IntKind.u64.wrap n = n := by
 show n % 18446744073709551616 = n
 exact Int.emod_eq_of_lt h₀ h₁
theorem or_u64 (a b i : Nat) (ha : a < 2 ^ i) (hb : b % 2 ^ i = 0) (ha' : a < 2 ^ 64) (hb' : b < 2 ^ 64) : bits .or .u64 (a : Int) (b : Int) = ((a + b : Nat) : Int) := by
 rw [(bits_nat .u64 64 (by decide) wraps_u64 a b ha' hb').2]
 have hq : b = 2 ^ i * (b / 2 ^ i) := by have := Nat.div_add_mod b (2 ^ i); omega
 rw [hq, Nat.or_comm, ← Nat.two_pow_add_eq_or_of_lt ha (b / 2 ^ i), Nat.add_comm]
theorem or_u64' (a b i : Nat) (ha : a < 2 ^ i) (hb : b % 2 ^ i = 0) (ha' : a < 2 ^ 64) (hb' : b < 2 ^ 64) : bits .or .u64 (b : Int) (a : Int) = ((b + a : Nat) : Int) := by
 rw [(bits_nat .u64 64 (by decide) wraps_u64 b a hb' ha').2]
 have hq : b = 2 ^ i * (b / 2 ^ i) := by have := Nat.div_add_mod b (2 ^ i); omega
 rw [hq, ← Nat.two_pow_add_eq_or_of_lt ha (b / 2 ^ i)]
theorem shift_step {l outs : List Nat} {k cy x r t : Nat} (hx : l.getD k 0 = x) (hl : outs.length = k) (ht : t = cy + x * 2 ^ r)
 (h : val outs + BB ^ k * cy = val (l.take k) * 2 ^ r) :
 val (outs ++ [t % BB]) + BB ^ (k + 1) * (t / BB) = val (l.take (k + 1)) * 2 ^ r := by
 rw [val_snoc, val_take_succ l k x hx, hl, Nat.pow_succ, Nat.mul_assoc, Nat.add_assoc, ← Nat.mul_add, Nat.mod_add_div, ht, Nat.mul_add, Nat.add_mul, Nat.mul_assoc]
 omega
theorem shl_bound {x r : Nat} (hx : x < 4294967296) (hr : r < 32) : x * 2 ^ r < 9223372036854775808 := by
 have h1 : 2 ^ r ≤ 2 ^ 31 := Nat.pow_le_pow_right (by decide) (by omega)
 have h2 : x * 2 ^ r ≤ 4294967295 * 2 ^ 31 := Nat.mul_le_mul (by omega) h1
 exact Nat.lt_of_le_of_lt h2 (by decide)
theorem shl_over {x r cy : Nat} (hx : x < 4294967296) (hc : cy < 2 ^ r) : (cy + x * 2 ^ r) / 4294967296 < 2 ^ r := by
 rw [Nat.div_lt_iff_lt_mul (by decide)]
 have h2 : x * 2 ^ r + 2 ^ r ≤ 2 ^ r * 4294967296 := by
  rw [← Nat.succ_mul, Nat.mul_comm]; exact Nat.mul_le_mul (Nat.le_refl _) (by omega)
 omega
theorem val_shift (n s r : Nat) (outs : List Nat) (v : Nat) (h : n = 32 * s + r) (hv : val outs = v * 2 ^ r) : val (List.replicate s 0 ++ outs) = v * 2 ^ n := by
 rw [val_append, val_replicate, List.length_replicate, hv, h, Nat.pow_add, Nat.pow_mul, Nat.zero_add]
 show (2 ^ 32) ^ s * _ = _
 rw [Nat.mul_left_comm]
theorem shift_calls (A : Option Addr) (c n : Nat) (l : List Nat) (w : World) (h1 : Rd w A l) (_hc1 : l.length ≤ c) (hn : n ≤ 1048576) (hsm : l.length ≤ 1048576) :
 Calls Tryz.prog 204 #[.slice A l.length c, .int .i64 (n : Int)] w (RetNat (val l * 2 ^ n) w) := by
 obtain ⟨s, r, hsr, hr⟩ : ∃ s r, n = 32 * s + r ∧ r < 32 := ⟨n / 32, n % 32, by omega, by omega⟩
 refine (callsIn_wide (n := 5)).1 ?_
 refine callsIn_of_wp_marks Tryz.func204 rfl trivial ?_ rfl
 simp only [Tryz.ntmps204, List.size_toArray, List.length_cons, List.length_nil, Nat.reduceAdd, Nat.reduceSub, Array.replicate_succ, Array.replicate_zero, List.push_toArray, List.append_toArray, List.nil_append, List.cons_append]
 have hs1 := h1.small
 have e1 : (n : Int) / 32 = (s : Int) := by omega
 have e2 : (n : Int) % 32 = (r : Int) := by omega
 have Hsr := Lib.hid hsr
 have hs : s ≤ 1048576 := by omega
 clear hsr
 have hmk := make_nat (s : Int) ((s : Int) + (l.length : Int) + 1) s (s + l.length + 1) rfl (by simp) (by omega) (by omega)
 gi_wp2_with (refine ⟨trivial, ?_⟩; gi_at_call 212; refine (callsIn_wide.2 (limbs_calls _ _ _ _)).mono ?_; rintro e w2 ⟨rfl, rfl⟩)
 clear hmk
 obtain ⟨w3, hw3⟩ : ∃ w3, allocs w [.cells #[.int .i64 (n : Int)] 3, .cells (warr (List.replicate (s + l.length + 1) 0)) 127, .cells #[.slice (some ⟨w.heap.size + 1, 0, none⟩) s (s + l.length + 1)] 144, .cells #[.int .u64 0] 128, .cells #[.slice A l.length c] 144] = w3 := ⟨_, rfl⟩
 have hget := allocs_get w [.cells #[.int .i64 (n : Int)] 3, .cells (warr (List.replicate (s + l.length + 1) 0)) 127, .cells #[.slice (some ⟨w.heap.size + 1, 0, none⟩) s (s + l.length + 1)] 144, .cells #[.int .u64 0] 128, .cells #[.slice A l.length c] 144]
 have hs3 := allocs_stp w [.cells #[.int .i64 (n : Int)] 3, .cells (warr (List.replicate (s + l.length + 1) 0)) 127, .cells #[.slice (some ⟨w.heap.size + 1, 0, none⟩) s (s + l.length + 1)] 144, .cells #[.int .u64 0] 128, .cells #[.slice A l.length c] 144] (Nat.le_refl w.heap.size)
 have hsz3 := allocs_size w [.cells #[.int .i64 (n : Int)] 3, .cells (warr (List.replicate (s + l.length + 1) 0)) 127, .cells #[.slice (some ⟨w.heap.size + 1, 0, none⟩) s (s + l.length + 1)] 144, .cells #[.int .u64 0] 128, .cells #[.slice A l.length c] 144]
 rw [hw3] at hget hs3 hsz3
 simp only [allocs] at hw3
 rw [hw3]
 clear hw3
 replace hsz3 : w.heap.size + 5 ≤ w3.heap.size := by rw [hsz3]; exact Nat.le_refl _
 have hB0 : Boxed w3 w.heap.size 3 (.int .i64 (n : Int)) := hget 0 (by simp)
 have hB1 : Arr w3 (w.heap.size + 1) (List.replicate (s + l.length + 1) 0) := arr_of (hget 1 (by simp))
 have hB2 : Boxed w3 (w.heap.size + 2) 144 (.slice (some ⟨w.heap.size + 1, 0, none⟩) s (s + l.length + 1)) := hget 2 (by simp)
 have hB3 : Boxed w3 (w.heap.size + 3) 128 (.int .u64 0) := hget 3 (by simp)
 have hB4 : Boxed w3 (w.heap.size + 4) 144 (.slice A l.length c) := hget 4 (by simp)
 clear hget
 refine wpIn_limbs_p (n₀ := w.heap.size) (l := l) rfl (by omega) (gf := 236) (lb := #[.pointer (some ⟨w.heap.size + 4, 0, none⟩)]) rfl trivial (enters_of Tryz.func236 (by kernel_rfl) rfl)
  (limbs1_in _ (w.heap.size + 4) A c l w.heap.size w3 hB4.cell (h1.below hs3.below rfl) (by omega) (rd_block h1)) (by omega) (Below.refl _ _) rfl
  (fun k W => ∃ (outs : List Nat) (cy : Nat), Boxed W w.heap.size 3 (.int .i64 (n : Int)) ∧ Arr W (w.heap.size + 1) ((List.replicate s 0 ++ outs) ++ List.replicate (s + l.length + 1 - (s + k)) 0) ∧ Boxed W (w.heap.size + 2) 144 (.slice (some ⟨w.heap.size + 1, 0, none⟩) (s + k) (s + l.length + 1)) ∧ Boxed W (w.heap.size + 3) 128 (.int .u64 (cy : Int)) ∧ Below w.heap.size w W ∧ cy < 2 ^ r ∧ outs.length = k ∧ Words outs ∧ Hid (val outs + BB ^ k * cy = val (l.take k) * 2 ^ r))
  ?own ?start ?round ?done
 case own =>
  rintro k X Y row ⟨outs, cy, a0, a1, a2, a3, hbl, rest⟩ hg hr
  exact ⟨outs, cy, boxed_ownF _ _ _ (fun _ => _) k X Y row a0 hg hr, arr_ownF _ _ (fun _ => _) k X Y row a1 hg hr, boxed_ownF _ _ _ (fun _ => _) k X Y row a2 hg hr, boxed_ownF _ _ _ (fun _ => _) k X Y row a3 hg hr, ownFrom_below (Nat.le_refl _) (by omega) k X Y row hbl hg hr, rest⟩
 case start => exact ⟨[], 0, hB0, by rw [List.append_nil, List.replicate_append_replicate, show s + (s + l.length + 1 - (s + 0)) = s + l.length + 1 by omega]; exact hB1, hB2, hB3, hs3.below, Nat.two_pow_pos r, rfl, words_nil, by simp [Hid, val]⟩
 case round =>
  intro k W hk
  obtain ⟨x, hx, hxb⟩ : ∃ x, Hid (l.getD k 0 = x) ∧ x < 4294967296 := ⟨_, rfl, words_getD h1.words k⟩
  rw [hx.out]
  gi_wp2
  refine ⟨trivial, ?_⟩
  clear W
  rintro W ⟨outs, cy, hbb, harr, hbo, hbc, hbl, hcy, hol, how, hval⟩
  have Hol := Lib.hid hol
  clear hol
  obtain ⟨u, g4⟩ : ∃ u : Nat, W.cell? ⟨w.heap.size + 1, s + k, none⟩ = some (.int .u32 (u : Int)) := ⟨_, arr_cell harr (s + k) (by have := Hol.out; simp; omega)⟩
  have f4 := arr_frozen harr (s + k)
  have ghbb := hbb.cell
  have fhbb := hbb.frozen
  have thbb := hbb.lt
  have tharr := arr_lt harr
  have ghbo := hbo.cell
  have fhbo := hbo.frozen
  have thbo := hbo.lt
  have ghbc := hbc.cell
  have fhbc := hbc.frozen
  have thbc := hbc.lt
  obtain ⟨p, p1, p2, p3⟩ : ∃ p : Nat, IntKind.u64.wrap ((x : Int) * 2 ^ r) = (p : Int) ∧ Hid (p = x * 2 ^ r) ∧ Hid (p < 9223372036854775808) := by
   refine ⟨x * 2 ^ r, ?_, rfl, shl_bound hxb hr⟩
   have hb := shl_bound hxb hr
   have e : (x : Int) * 2 ^ r = ((x * 2 ^ r : Nat) : Int) := by simp
   rw [e]
   exact wraps_u64 _ (by omega) (by omega)
  obtain ⟨t, t1, t2, t3⟩ : ∃ t : Nat, bits .or .u64 (cy : Int) (p : Int) = (t : Int) ∧ Hid (t = cy + p) ∧ t < 18446744073709551616 := by
   have hb := p3.out
   have hc : cy < 2147483648 := Nat.lt_of_lt_of_le hcy (Nat.pow_le_pow_right (n := 2) (by decide) (show r ≤ 31 by omega))
   exact ⟨cy + p, or_u64 cy p r hcy (by rw [p2.out, Nat.mul_mod_left]) (by omega) (by omega), rfl, by omega⟩
  gi_wp2
  have hwide : ∀ f, Fence.wide.fn f := fun _ => trivial
  refine wpIn_region_tail 7 (by kernel_rfl) (by kernel_rfl) (by kernel_rfl) ?_
  simp only [List.take_succ_cons, List.take_zero, List.drop_succ_cons, List.drop_zero]
  repeat (gi_big_quiet_step ((fail)))
  refine wpQuietIn_nil ?_
  intro m
  gi_wp2
  obtain ⟨z, hz⟩ : ∃ z : Nat, (t : Int) % 4294967296 = (z : Int) := ⟨t % 4294967296, by omega⟩
  obtain ⟨q, hq⟩ : ∃ q : Nat, (t : Int) / 4294967296 = (q : Int) := ⟨t / 4294967296, by omega⟩
  rw [hz, hq]
  simp only [Nat.add_assoc, Nat.reduceAdd]
  have hz' : z = t % BB := by show z = _ % 4294967296; omega
  have hq' : q = t / BB := by show q = _ / 4294967296; omega
  have ht : t = cy + x * 2 ^ r := by rw [t2.out, p2.out]
  refine limb_end (by (repeat (first | with_reducible exact Stp.refl _ _ | with_reducible refine Stp.set ?_ (by simp) _ | with_reducible refine Stp.alloc ?_ (by simp; omega) _ | with_reducible refine Stp.drewN ?_ _))) (fun hst => ⟨outs ++ [z], q, by (repeat (first | with_reducible exact hbb | with_reducible exact HasBox.of hbb | with_reducible refine boxed_other ?_ (by omega) _ | with_reducible refine boxed_set _ ?_ | with_reducible refine HasBox.set ?_ _ _ | with_reducible refine HasBox.alloc ?_ _ | with_reducible refine HasBox.drewN ?_ _ | with_reducible refine Boxed.alloc ?_ _ | with_reducible refine boxed_drewN ?_ _)), ?_, by (repeat (first | with_reducible exact hbo | with_reducible exact HasBox.of hbo | with_reducible refine boxed_other ?_ (by omega) _ | with_reducible refine boxed_set _ ?_ | with_reducible refine HasBox.set ?_ _ _ | with_reducible refine HasBox.alloc ?_ _ | with_reducible refine HasBox.drewN ?_ _ | with_reducible refine Boxed.alloc ?_ _ | with_reducible refine boxed_drewN ?_ _)), by (repeat (first | with_reducible exact hbc | with_reducible exact HasBox.of hbc | with_reducible refine boxed_other ?_ (by omega) _ | with_reducible refine boxed_set _ ?_ | with_reducible refine HasBox.set ?_ _ _ | with_reducible refine HasBox.alloc ?_ _ | with_reducible refine HasBox.drewN ?_ _ | with_reducible refine Boxed.alloc ?_ _ | with_reducible refine boxed_drewN ?_ _)), hbl.trans hst.below, by rw [hq', ht]; exact shl_over hxb hcy, by simp [Hol.out], ?_, ?_⟩)
  · rw [← List.append_assoc (List.replicate s 0) outs [z], show s + (l.length + 1) - (s + (k + 1)) = s + l.length + 1 - (s + k) - 1 by omega, ← set_snoc (List.replicate s 0 ++ outs) (s + l.length + 1 - (s + k)) z (s + k) (by simp [Hol.out]) (by omega)]
    (repeat (first | with_reducible exact harr | with_reducible refine arr_other ?_ (by omega) _ | with_reducible refine arr_set ?_ _ _ | with_reducible refine arr_alloc ?_ _ | with_reducible refine arr_drewN ?_ _))
  · exact words_append.2 ⟨how, fun u hu => by simp at hu; rw [hu, hz']; exact Nat.mod_lt _ (by decide)⟩
  · rw [hz', hq']; exact shift_step hx.out Hol.out ht hval.out
 case done =>
  rintro D W hD ⟨outs, cy, hbb, harr, hbo, hbc, hbl, hcy, hol, how, hval⟩ hK
  have Hol := Lib.hid hol
  clear hol
  have hc : cy < 2147483648 := Nat.lt_of_lt_of_le hcy (Nat.pow_le_pow_right (n := 2) (by decide) (show r ≤ 31 by omega))
  obtain ⟨u, g4⟩ : ∃ u : Nat, W.cell? ⟨w.heap.size + 1, s + l.length, none⟩ = some (.int .u32 (u : Int)) := ⟨_, arr_cell harr (s + l.length) (by have := Hol.out; simp; omega)⟩
  have f4 := arr_frozen harr (s + l.length)
  have ghbb := hbb.cell
  have fhbb := hbb.frozen
  have thbb := hbb.lt
  have tharr := arr_lt harr
  have ghbo := hbo.cell
  have fhbo := hbo.frozen
  have thbo := hbo.lt
  have ghbc := hbc.cell
  have fhbc := hbc.frozen
  have thbc := hbc.lt
  gi_wp2
  obtain ⟨W5, hW5⟩ : ∃ W5, (W.setCell ⟨w.heap.size + 1, s + l.length, none⟩ (.int .u32 (cy : Int))).alloc (.cells #[.int .u32 (cy : Int)] 127) = W5 := ⟨_, rfl⟩
  have hst5 : Stp w.heap.size W W5 := by rw [← hW5]; exact ((Stp.refl _ W).set (by simp) _).alloc (by simp [World.setCell]; omega) _
  have harr5 : Arr W5 (w.heap.size + 1) (List.replicate s 0 ++ (outs ++ [cy])) := by
   have := arr_alloc (arr_set harr (s + l.length) cy) (.cells #[.int .u32 (cy : Int)] 127)
   rw [set_snoc (List.replicate s 0 ++ outs) (s + l.length + 1 - (s + l.length)) cy (s + l.length) (by simp [Hol.out]) (by omega), show s + l.length + 1 - (s + l.length) - 1 = 0 by omega] at this
   rw [← hW5]; simpa using this
  rw [hW5]
  clear hW5
  have hK5 := hst5.keeps.same D _ hK rfl
  have hww : Words (List.replicate s 0 ++ (outs ++ [cy])) := words_append.2 ⟨words_replicate s, words_append.2 ⟨how, fun u hu => by simp at hu; rw [hu]; show cy < 4294967296; omega⟩⟩
  have hlen : (List.replicate s 0 ++ (outs ++ [cy])).length = s + l.length + 1 := by simp [Hol.out]; omega
  have hrd := arr_rd harr5 hww (by omega)
  have ht := fun n => trim_in n (some ⟨(w.heap.size + 1), 0, none⟩) (s + l.length + 1) (List.replicate s 0 ++ (outs ++ [cy])) W5 hrd (by omega)
  have hval' : trim (List.replicate s 0 ++ (outs ++ [cy])) = lim (val l * 2 ^ n) := by
   unfold trim
   rw [show val (List.replicate s 0 ++ (outs ++ [cy])) = val l * 2 ^ n from (val_shift n s r _ _ Hsr.out (by have h := hval.out; rw [List.take_length] at h; rw [val_snoc, Hol.out, h]))]
  rw [hval', hlen] at ht
  have hrd2 := hrd.trim
  have htl := trim_length_le hww
  rw [hval'] at hrd2 htl
  have hDl := (Array.getElem?_eq_some_iff.1 hK5).1
  clear hval hval'
  refine ⟨trivial, ?_⟩
  refine (ht _).mono ?_
  rintro e w' ⟨rfl, rfl⟩
  gi_wp2
  refine ⟨by simp, .inl ⟨_, _, rfl, run_takeDeferred hK5, ?_⟩⟩
  exact ⟨_, results_tmp rfl _ _ _, _, _, rfl, by omega, hrd2.putObj _ hK5 rfl, hbl.trans (hst5.below.trans (belowK_b (w := w) (Nat.le_refl _) W5 D _ _ (by omega) hK5 rfl rfl))⟩
end Nm
end Go.Proofs.YtjghnghceeijeaaGreatDoor
