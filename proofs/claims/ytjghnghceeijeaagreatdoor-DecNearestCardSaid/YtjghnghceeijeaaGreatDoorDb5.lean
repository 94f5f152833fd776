/-
  Contracts of the walks below.
-/
import Derived.Test.YtjghnghceeijeaaGreatDoorDb4
set_option maxRecDepth 100000
set_option maxHeartbeats 4000000
set_option linter.unusedVariables false
set_option linter.unusedSimpArgs false
namespace Go.Proofs.YtjghnghceeijeaaGreatDoor
namespace Nm
open Go.RowKit Go.Shelf Go.BigFrame
attribute [local go_sem] Oper.semAt_some
theorem seg_get (pre outs seg post : List Nat) (k j : Nat) (h : outs.length = k) (hk : k ≤ j) (hj : j < seg.length) : (pre ++ (outs ++ seg.drop k) ++ post).getD (pre.length + j) 0 = seg.getD j 0 := by
 subst h
 rw [List.getD_eq_getElem?_getD, List.append_assoc, List.getElem?_append_right (by omega), List.getElem?_append_left (by simp; omega), List.getElem?_append_right (by omega), List.getElem?_drop, List.getD_eq_getElem?_getD]
 congr 2
 omega
theorem seg_set (pre outs seg post : List Nat) (k z : Nat) (h : outs.length = k) (hk : k < seg.length) : (pre ++ (outs ++ seg.drop k) ++ post).set (pre.length + k) z = pre ++ ((outs ++ [z]) ++ seg.drop (k + 1)) ++ post := by
 subst h
 rw [List.drop_eq_getElem_cons hk, List.append_assoc, List.set_append_right _ _ (by omega), Nat.add_sub_cancel_left, List.append_assoc, List.set_append_right _ _ (by omega), Nat.sub_self, List.cons_append, List.set_cons_zero]
 simp
theorem fin_step {P s o r v : Nat} (hs : s ≤ 1) (h : P + r = o + P * s) (ho : o < P) (_hr : r < v) (_hv : v < P) : s = 1 ∧ o = r := by
 have e : s = 1 := by
  rcases Nat.eq_zero_or_pos s with h0 | h0
  · exfalso; rw [h0, Nat.mul_zero] at h; omega
  · omega
 refine ⟨e, ?_⟩
 rw [e, Nat.mul_one] at h
 omega
theorem grw_set {w W : World} {g : Nat} (h : w.grownBy W (some g)) {p : Addr} (hp : p.block = g ∨ w.heap.size ≤ p.block) (v : Value) : w.grownBy (W.setCell p v) (some g) :=
 ⟨h.os, h.tape, h.output, Nat.le_trans h.size (KeepsWalks.setCell W p v).size, fun k hk hne => by
  have hk' : k ≠ p.block := by
   intro e
   rcases hp with hp | hp
   · exact hne (by rw [e, hp])
   · omega
  rw [Below.heap_setCell _ _ _ k hk']
  exact h.block k hk hne⟩
theorem grw_alloc {w W : World} {g : Nat} (h : w.grownBy W (some g)) (o : Obj) : w.grownBy (W.alloc o) (some g) :=
 ⟨h.os, h.tape, h.output, by have := h.size; simp; omega, fun k hk hne => by rw [Below.heap_alloc _ _ _ (by have := h.size; omega)]; exact h.block k hk hne⟩
theorem grw_drewN {w W : World} {g : Nat} (h : w.grownBy W (some g)) (m : Nat) : w.grownBy (W.drewN m) (some g) := ⟨h.os, h.tape, h.output, h.size, h.block⟩
theorem grw_refl (w : World) (g : Nat) : w.grownBy w (some g) := ⟨rfl, rfl, rfl, Nat.le_refl _, fun _ _ _ => rfl⟩
theorem grw_put {w W : World} {g : Nat} (h : w.grownBy W (some g)) {D : Nat} (hD : w.heap.size ≤ D) (o : Obj) : w.grownBy (W.putObj D o) (some g) :=
 ⟨h.os, h.tape, h.output, by have := h.size; simp [World.putObj]; omega, fun k hk hne => by rw [World.putObj_heap_other (by omega)]; exact h.block k hk hne⟩
theorem grw_rd {w W : World} {g : Nat} (h : w.grownBy W (some g)) {A : Option Addr} {l : List Nat} (hA : Rd w A l) (hb : ∀ b o, A = some ⟨b, o, none⟩ → b ≠ g) : Rd W A l :=
 ⟨fun i hi => by
  obtain ⟨b, o, e, hc⟩ := hA.cell i hi
  refine ⟨b, o, e, (World.cell?_of_block (h.block b (World.block_lt_of_cell? w _ hc) ?_)).trans hc⟩
  intro e'; exact hb b o e (by cases e'; rfl), hA.words, hA.small⟩
theorem grw_ownF {β : Type} {b g : Nat} {w : World} (hb : w.heap.size ≤ b) : OwnFrom b (fun (_ : β) W => w.grownBy W (some g)) := by
 intro s X Y row h hg hr
 refine ⟨hg.os.trans h.os, hg.tape.trans h.tape, hg.output.trans h.output, Nat.le_trans h.size hg.size, fun k hk hne => ?_⟩
 rw [hg.block k (by have := h.size; omega) (fun e => by have := (hr k e.symm).1; omega)]
 exact h.block k hk hne
theorem blk_ownF {β : Type} {B D : Nat} {o : Obj} (h : D < B) : OwnFrom B (fun (_ : β) W => W.heap[D]? = some o) := by
 intro s X Y row hs hg hr
 rw [hg.block D (Array.getElem?_eq_some_iff.1 hs).1 (fun e => by have := (hr D e.symm).1; omega)]
 exact hs
set_option maxHeartbeats 8000000 in
theorem digit_calls (g cu n : Nat) (pre seg post vl : List Nat) (Av : Option Addr) (cv : Nat) (w : World) (harr : Arr w g (pre ++ seg ++ post)) (hsl : seg.length = n + 1) (hvl : vl.length = n) (hn : 2 ≤ n)
 (hw : Words (pre ++ seg ++ post)) (_hcu : n + 1 ≤ cu) (hv : Rd w Av vl) (_hcv : n ≤ cv) (hvb : ∀ b o, Av = some ⟨b, o, none⟩ → b < g) (htop : vl.getD (n - 1) 0 ≠ 0) (hlt : val seg < BB * val vl)
 (hsm : n ≤ 1048576) (hsp : pre.length ≤ 4194304) :
 Calls Tryz.prog 232 #[.slice (some ⟨g, pre.length, none⟩) (n + 1) cu, .slice Av n cv] w fun e w' =>
  ∃ seg', e = .returned (.int .u32 ((val seg / val vl : Nat) : Int)) ∧ Arr w' g (pre ++ seg' ++ post) ∧ seg'.length = n + 1 ∧ Words seg' ∧ val seg' = val seg % val vl ∧ w.grownBy w' (some g) := by
 have wseg : Words seg := (words_append.1 (words_append.1 hw).1).2
 have hdig := dig_of (m := n - 2) (by omega) (by omega) wseg hv.words (by rw [show n - 2 + 1 = n - 1 by omega]; exact htop) hlt
 rw [show n - 2 + 2 = n by omega, show n - 2 + 1 = n - 1 by omega] at hdig
 obtain ⟨bv, ov, v1, rfl, hcv1, hv1, hv1b⟩ := hv.get (n - 1) (by omega)
 obtain ⟨bv', ov', v2, e', hcv2, hv2, hv2b⟩ := hv.get (n - 2) (by omega)
 cases e'
 have hg := arr_lt harr
 have hbv : bv < g := hvb bv ov rfl
 have hbvw : bv < w.heap.size := by omega
 have hseg : ∀ j, j < n + 1 → w.cell? ⟨g, pre.length + j, none⟩ = some (.int .u32 ((seg.getD j 0 : Nat) : Int)) := by
  intro j hj
  rw [arr_cell harr (pre.length + j) (by simp; omega)]
  have := seg_get pre [] seg post 0 j rfl (by omega) (by omega)
  simp only [List.drop_zero, List.nil_append] at this
  rw [this]
 obtain ⟨u0, hu0, hu0b⟩ : ∃ u, Hid (seg.getD n 0 = u) ∧ u < 4294967296 := ⟨_, rfl, words_getD wseg n⟩
 obtain ⟨u1, hu1, hu1b⟩ : ∃ u, Hid (seg.getD (n - 1) 0 = u) ∧ u < 4294967296 := ⟨_, rfl, words_getD wseg (n - 1)⟩
 obtain ⟨u2, hu2, hu2b⟩ : ∃ u, Hid (seg.getD (n - 2) 0 = u) ∧ u < 4294967296 := ⟨_, rfl, words_getD wseg (n - 2)⟩
 rw [hu0.out, hu1.out, hu2.out, hv1.out, hv2.out] at hdig
 have hv1p : 0 < v1 := hdig.pos
 have hc0 := hseg n (by omega)
 have hc1 := hseg (n - 1) (by omega)
 have hc2 := hseg (n - 2) (by omega)
 rw [hu0.out] at hc0
 rw [hu1.out] at hc1
 rw [hu2.out] at hc2
 have HD := Lib.hid hdig
 have HL := Lib.hid hlt
 have HT := Lib.hid htop
 have HV := Lib.hid hvl
 have HS := Lib.hid hsl
 have HW := Lib.hid hw
 clear hdig hlt htop hvl hsl hw hseg hvb
 obtain ⟨top, t1, t2, t3⟩ : ∃ t : Nat, bits .or .u64 ((u0 : Int) * 4294967296) (u1 : Int) = (t : Int) ∧ Hid (t = u0 * BB + u1) ∧ t < 18446744073709551616 := by
  have e : (u0 : Int) * 4294967296 = ((u0 * 4294967296 : Nat) : Int) := by simp
  refine ⟨u0 * BB + u1, ?_, rfl, by show u0 * 4294967296 + u1 < 18446744073709551616; omega⟩
  rw [e]
  exact or_u64' u1 (u0 * 4294967296) 32 hu1b (by show u0 * 4294967296 % 4294967296 = 0; omega) (by omega) (by omega)
 obtain ⟨G0, g1, g2, g3⟩ : ∃ z : Nat, (top : Int) / (v1 : Int) = (z : Int) ∧ Hid (z = top / v1) ∧ z < 18446744073709551616 := ⟨top / v1, by simp, rfl, Nat.lt_of_le_of_lt (Nat.div_le_self _ _) t3⟩
 obtain ⟨R0, r1, r2, r3⟩ : ∃ z : Nat, (top : Int) % (v1 : Int) = (z : Int) ∧ Hid (z = top % v1) ∧ z < v1 := ⟨top % v1, by simp, rfl, Nat.mod_lt _ hv1p⟩
 refine (callsIn_wide (n := 5)).1 ?_
 refine callsIn_of_wp_marks Tryz.func232 rfl trivial ?_ rfl
 simp only [Tryz.ntmps232, List.size_toArray, List.length_cons, List.length_nil, Nat.reduceAdd, Nat.reduceSub, Array.replicate_succ, Array.replicate_zero, List.push_toArray, List.append_toArray, List.nil_append, List.cons_append]
 gi_wp2
 have hwide : ∀ f, Fence.wide.fn f := fun _ => trivial
 refine wpIn_region_all (by kernel_rfl) (by kernel_rfl) (by kernel_rfl) ?_
 repeat (gi_big_quiet_step (fail))
 refine wpQuietIn_nil ?_
 intro mq
 gi_wp2
 have H1 := r1
 rw [H1]
 clear H1
 rename_i K hK
 obtain ⟨w3, hw3⟩ : ∃ w3, (((w.alloc (.cells #[.slice (some ⟨g, pre.length, none⟩) (n + 1) cu] 144)).drewN mq).alloc (.cells #[.int .u64 (G0 : Int)] 128)) = w3 := ⟨_, rfl⟩
 have hB0 : Boxed w3 w.heap.size 144 (.slice (some ⟨g, pre.length, none⟩) (n + 1) cu) := by rw [← hw3]; exact (boxed_drewN (Boxed.new _ _ _) _).alloc _
 have hB1 : Boxed w3 (w.heap.size + 1) 128 (.int .u64 (G0 : Int)) := by rw [← hw3]; have := Boxed.new ((w.alloc (.cells #[.slice (some ⟨g, pre.length, none⟩) (n + 1) cu] 144)).drewN mq) 128 (.int .u64 (G0 : Int)); simpa [World.drewN] using this
 have hR : Arr w3 g (pre ++ seg ++ post) := by rw [← hw3]; exact arr_alloc (arr_drewN (arr_alloc harr _) _) _
 have hG : w.grownBy w3 (some g) := by rw [← hw3]; exact grw_alloc (grw_drewN (grw_alloc (grw_refl _ _) _) _) _
 rw [hw3]
 clear hw3
 have hrest : ∀ (G : Nat) (W : World) (s3 s6 s8 s9 s10 s11 s12 s13 s14 s15 s16 s17 s18 s19 s20 s21 s22 s23 s24 s25 s26 s27 s28 s29 s30 s31 s32 s33 s34 s35 s36 s37 s38 s39 s40 s41 s42 s43 s44 s45 s46 s47 s48 s49 s50 s51 s52 s53 s54 s55 s56 s57 s58 s59 s60 s61 s62 s63 s64 s65 s66 s67 s68 s69 s70 s71 s72 s73 s74 s75 s76 s77 s78 s79 s80 s81 s82 s83 s84 s85 s86 s87 s88 s89 s90 s91 s92 s93 s94 s95 s96 s97 s98 s99 s100 s101 s102 s103 s104 s105 s106 s107 s108 s109 s110 s111 s112 s113 s114 s115 s116 s117 s118 s119 s120 s121 s122 s123 s124 s125 s126 s127 s128 s129 s130 s131 s132 s133 s134 s135 s136 s137 s138 s139 s140 s141 s142 s143 s144 s145 s146 s147 s148 s149 s150 s151 s152 s153 s154 s155 s156 s157 s158 s159 s160 s161 s162 s163 : Value), Hid (val seg / val vl ≤ G) → Hid (G ≤ val seg / val vl + 1) → G < 4294967296 → Boxed W w.heap.size 144 (.slice (some ⟨g, pre.length, none⟩) (n + 1) cu) → Boxed W (w.heap.size + 1) 128 (.int .u64 (G : Int)) → Arr W g (pre ++ seg ++ post) → w.grownBy W (some g) →
  K { tmps := #[.slice (some ⟨g, pre.length, none⟩) (n + 1) cu, .slice (some ⟨bv, ov, none⟩) n cv, .pointer (some ⟨w.heap.size, 0, none⟩), s3, .int .u32 0, .int .i64 (n : Int), s6, .pointer (some ⟨w.heap.size + 1, 0, none⟩), s8, s9, s10, s11, s12, s13, s14, s15, s16, s17, s18, s19, s20, s21, s22, s23, s24, s25, s26, s27, s28, s29, s30, s31, s32, s33, s34, s35, s36, s37, s38, s39, s40, s41, s42, s43, s44, s45, s46, s47, s48, s49, s50, s51, s52, s53, s54, s55, s56, s57, s58, s59, s60, s61, s62, s63, s64, s65, s66, s67, s68, s69, s70, s71, s72, s73, s74, s75, s76, s77, s78, s79, s80, s81, s82, s83, s84, s85, s86, s87, s88, s89, s90, s91, s92, s93, s94, s95, s96, s97, s98, s99, s100, s101, s102, s103, s104, s105, s106, s107, s108, s109, s110, s111, s112, s113, s114, s115, s116, s117, s118, s119, s120, s121, s122, s123, s124, s125, s126, s127, s128, s129, s130, s131, s132, s133, s134, s135, s136, s137, s138, s139, s140, s141, s142, s143, s144, s145, s146, s147, s148, s149, s150, s151, s152, s153, s154, s155, s156, s157, s158, s159, s160, s161, s162, s163], defers := [] } W := by
  intro G W s3 s6 s8 s9 s10 s11 s12 s13 s14 s15 s16 s17 s18 s19 s20 s21 s22 s23 s24 s25 s26 s27 s28 s29 s30 s31 s32 s33 s34 s35 s36 s37 s38 s39 s40 s41 s42 s43 s44 s45 s46 s47 s48 s49 s50 s51 s52 s53 s54 s55 s56 s57 s58 s59 s60 s61 s62 s63 s64 s65 s66 s67 s68 s69 s70 s71 s72 s73 s74 s75 s76 s77 s78 s79 s80 s81 s82 s83 s84 s85 s86 s87 s88 s89 s90 s91 s92 s93 s94 s95 s96 s97 s98 s99 s100 s101 s102 s103 s104 s105 s106 s107 s108 s109 s110 s111 s112 s113 s114 s115 s116 s117 s118 s119 s120 s121 s122 s123 s124 s125 s126 s127 s128 s129 s130 s131 s132 s133 s134 s135 s136 s137 s138 s139 s140 s141 s142 s143 s144 s145 s146 s147 s148 s149 s150 s151 s152 s153 s154 s155 s156 s157 s158 s159 s160 s161 s162 s163 hq1 hq2 hGb hB0 hB1 hR hG
  refine hK _ _ ?_
  have hz0 := hB1.lt
  have hzg := hG.size
  gi_wp2_with (gi_at_call 212; refine (callsIn_wide.2 (limbs_calls _ _ _ _)).mono ?_; rintro e w2 ⟨rfl, rfl⟩)
  obtain ⟨w5, hw3⟩ : ∃ w5, allocs W [.cells #[.int .u64 0] 128, .cells #[.int .u64 0] 128, .cells #[.slice (some ⟨bv, ov, none⟩) n cv] 144] = w5 := ⟨_, rfl⟩
  have hget := allocs_get W [.cells #[.int .u64 0] 128, .cells #[.int .u64 0] 128, .cells #[.slice (some ⟨bv, ov, none⟩) n cv] 144]
  have hs3 := allocs_stp W [.cells #[.int .u64 0] 128, .cells #[.int .u64 0] 128, .cells #[.slice (some ⟨bv, ov, none⟩) n cv] 144] (Nat.le_refl W.heap.size)
  have hsz3 := allocs_size W [.cells #[.int .u64 0] 128, .cells #[.int .u64 0] 128, .cells #[.slice (some ⟨bv, ov, none⟩) n cv] 144]
  rw [hw3] at hget hs3 hsz3
  simp only [allocs] at hw3
  rw [hw3]
  clear hw3
  replace hsz3 : W.heap.size + 3 ≤ w5.heap.size := by rw [hsz3]; exact Nat.le_refl _
  have hC0 : Boxed w5 W.heap.size 128 (.int .u64 0) := hget 0 (by simp)
  have hC1 : Boxed w5 (W.heap.size + 1) 128 (.int .u64 0) := hget 1 (by simp)
  have hC2 : Boxed w5 (W.heap.size + 2) 144 (.slice (some ⟨bv, ov, none⟩) n cv) := hget 2 (by simp)
  clear hget
  have hB0' : Boxed w5 w.heap.size 144 (.slice (some ⟨g, pre.length, none⟩) (n + 1) cu) := (hs3.below.block w.heap.size (by omega)).trans hB0
  have hB1' : Boxed w5 (w.heap.size + 1) 128 (.int .u64 (G : Int)) := (hs3.below.block (w.heap.size + 1) (by omega)).trans hB1
  have hR' : Arr w5 g (pre ++ seg ++ post) := arr_below hR hs3.below (by omega)
  have hG' : w.grownBy w5 (some g) := ⟨hs3.below.os.trans hG.os, hs3.below.tape.trans hG.tape, hs3.below.output.trans hG.output, by omega, fun k hk hne => (hs3.below.block k (by omega)).trans (hG.block k hk hne)⟩
  have hvl5 : Rd w5 (some ⟨bv, ov, none⟩) vl := grw_rd hG' hv (fun b o e => by cases e; omega)
  refine wpIn_limbs_p (n₀ := g) (l := vl) rfl (by omega) (gf := 236) (lb := #[.pointer (some ⟨W.heap.size + 2, 0, none⟩)]) rfl trivial (enters_of Tryz.func236 (by kernel_rfl) rfl)
   (limbs1_in _ (W.heap.size + 2) (some ⟨bv, ov, none⟩) cv vl g w5 (by rw [HV.out]; exact hC2.cell) hvl5 (by omega) (fun b o e _ => by cases e; exact hbv)) (by omega) (Below.refl _ _) rfl
   (fun k X => ∃ (outs : List Nat) (cy bw : Nat), Boxed X w.heap.size 144 (.slice (some ⟨g, pre.length, none⟩) (n + 1) cu) ∧ Boxed X (w.heap.size + 1) 128 (.int .u64 (G : Int)) ∧ Boxed X W.heap.size 128 (.int .u64 (bw : Int)) ∧ Boxed X (W.heap.size + 1) 128 (.int .u64 (cy : Int)) ∧
    Arr X g (pre ++ (outs ++ seg.drop k) ++ post) ∧ w.grownBy X (some g) ∧ cy < 4294967296 ∧ bw ≤ 1 ∧ outs.length = k ∧ Words outs ∧ Hid (val (seg.take k) + BB ^ k * (cy + bw) = val outs + G * val (vl.take k)))
   ?own ?start ?round ?done
  case own =>
   rintro k X Y row ⟨outs, cy, bw, a0, a1, a2, a3, a4, a5, rest⟩ hg hr
   exact ⟨outs, cy, bw, boxed_ownF _ _ _ (fun _ => _) k X Y row a0 hg hr, boxed_ownF _ _ _ (fun _ => _) k X Y row a1 hg hr, boxed_ownF _ _ _ (fun _ => _) k X Y row a2 hg hr, boxed_ownF _ _ _ (fun _ => _) k X Y row a3 hg hr, arr_ownF _ _ (fun _ => _) k X Y row a4 hg hr, grw_ownF (by omega) k X Y row a5 hg hr, rest⟩
  case start => exact ⟨[], 0, 0, hB0', hB1', hC0, hC1, by simpa using hR', hG', by omega, by omega, rfl, words_nil, by simp [Hid, val]⟩
  case round =>
   intro k X hk
   obtain ⟨y, hy, hyb⟩ : ∃ y, Hid (vl.getD k 0 = y) ∧ y < 4294967296 := ⟨_, rfl, words_getD hv.words k⟩
   obtain ⟨x, hx, hxb⟩ : ∃ y, Hid (seg.getD k 0 = y) ∧ y < 4294967296 := ⟨_, rfl, words_getD wseg k⟩
   rw [hy.out]
   have hkn : k < n := by have := HV.out; omega
   gi_wp2
   refine ⟨trivial, ?_⟩
   clear X
   rintro X ⟨outs, cy, bw, b0, b1, b2, b3, hra, hgr, hcy, hbw, hol, how, hval⟩
   have Hol := Lib.hid hol
   clear hol
   have g4 := arr_cell hra (pre.length + k) (by have := Hol.out; have := HS.out; simp; omega)
   rw [seg_get pre outs seg post k k Hol.out (Nat.le_refl _) (by have := HS.out; omega), hx.out] at g4
   have f4 := arr_frozen hra (pre.length + k)
   have tg := arr_lt hra
   have gb0 := b0.cell
   have fb0 := b0.frozen
   have tb0 := b0.lt
   have gb1 := b1.cell
   have fb1 := b1.frozen
   have tb1 := b1.lt
   have gb2 := b2.cell
   have fb2 := b2.frozen
   have tb2 := b2.lt
   have gb3 := b3.cell
   have fb3 := b3.frozen
   have tb3 := b3.lt
   obtain ⟨p, hp, hp2, hp3⟩ : ∃ p : Nat, (G : Int) * (y : Int) = (p : Int) ∧ p ≤ 18446744065119617025 ∧ Hid (p = G * y) := ⟨G * y, (Int.natCast_mul G y).symm, mul_words hGb hyb, rfl⟩
   obtain ⟨t, ht, ht2, ht3⟩ : ∃ t : Nat, (cy : Int) + (p : Int) = (t : Int) ∧ t < 18446744073709551616 ∧ Hid (t = cy + p) := ⟨cy + p, by omega, by omega, rfl⟩
   obtain ⟨lo, hlo, hlo2, hlo3⟩ : ∃ z : Nat, (t : Int) % 4294967296 = (z : Int) ∧ z < 4294967296 ∧ Hid (z = t % BB) := ⟨t % 4294967296, by omega, by omega, rfl⟩
   obtain ⟨d, d1, d2⟩ : ∃ d : Nat, IntKind.u64.wrap ((x : Int) - (lo : Int)) = (d : Int) ∧ Hid ((d : Int) = ((x : Int) - (lo : Int)) % 18446744073709551616) := by
    obtain ⟨d, hd⟩ := Int.eq_ofNat_of_zero_le (show 0 ≤ ((x : Int) - (lo : Int)) % 18446744073709551616 by omega)
    exact ⟨d, by rw [← hd]; rfl, hd.symm⟩
   obtain ⟨v, e1, e2⟩ : ∃ v : Nat, IntKind.u64.wrap ((d : Int) - (bw : Int)) = (v : Int) ∧ Hid ((v : Int) = ((d : Int) - (bw : Int)) % 18446744073709551616) := by
    obtain ⟨d, hd⟩ := Int.eq_ofNat_of_zero_le (show 0 ≤ ((d : Int) - (bw : Int)) % 18446744073709551616 by omega)
    exact ⟨d, by rw [← hd]; rfl, hd.symm⟩
   obtain ⟨z, z1, z2⟩ : ∃ z : Nat, (v : Int) % 4294967296 = (z : Int) ∧ Hid (z = v % 4294967296) := ⟨v % 4294967296, by omega, rfl⟩
   gi_wp2
   refine wpIn_region_all (by kernel_rfl) (by kernel_rfl) (by kernel_rfl) ?_
   repeat (gi_big_quiet_step (fail))
   refine wpQuietIn_nil ?_
   intro mm
   gi_wp2
   obtain ⟨bq, bq1, bq2⟩ : ∃ q : Nat, (v : Int) / 9223372036854775808 = (q : Int) ∧ q = v / 9223372036854775808 := ⟨v / 9223372036854775808, by omega, rfl⟩
   obtain ⟨hi, hi1, hi2⟩ : ∃ q : Nat, (t : Int) / 4294967296 = (q : Int) ∧ q = t / BB := ⟨t / 4294967296, by omega, rfl⟩
   rw [bq1, hi1]
   have D2 := d2.out
   have V2 := e2.out
   have Z2 := z2.out
   have hzz : bq ≤ 1 ∧ x + 4294967296 * bq = z + (lo + bw) ∧ z < 4294967296 := by omega
   have hhi : hi < 4294967296 := by rw [hi2]; show t / 4294967296 < _; omega
   refine limb_end (by (repeat (first | with_reducible exact Stp.refl _ _ | with_reducible refine Stp.set ?_ (by first | (dsimp only; omega) | omega) _ | with_reducible refine Stp.alloc ?_ (by simp; omega) _ | with_reducible refine Stp.drewN ?_ _))) (fun hst => ⟨outs ++ [z], hi, bq, by (repeat (first | with_reducible exact b0 | with_reducible exact HasBox.of b0 | with_reducible refine boxed_other ?_ (by omega) _ | with_reducible refine boxed_set _ ?_ | with_reducible refine HasBox.set ?_ _ _ | with_reducible refine HasBox.alloc ?_ _ | with_reducible refine HasBox.drewN ?_ _ | with_reducible refine Boxed.alloc ?_ _ | with_reducible refine boxed_drewN ?_ _)), by (repeat (first | with_reducible exact b1 | with_reducible exact HasBox.of b1 | with_reducible refine boxed_other ?_ (by omega) _ | with_reducible refine boxed_set _ ?_ | with_reducible refine HasBox.set ?_ _ _ | with_reducible refine HasBox.alloc ?_ _ | with_reducible refine HasBox.drewN ?_ _ | with_reducible refine Boxed.alloc ?_ _ | with_reducible refine boxed_drewN ?_ _)), by (repeat (first | with_reducible exact b2 | with_reducible exact HasBox.of b2 | with_reducible refine boxed_other ?_ (by omega) _ | with_reducible refine boxed_set _ ?_ | with_reducible refine HasBox.set ?_ _ _ | with_reducible refine HasBox.alloc ?_ _ | with_reducible refine HasBox.drewN ?_ _ | with_reducible refine Boxed.alloc ?_ _ | with_reducible refine boxed_drewN ?_ _)), by (repeat (first | with_reducible exact b3 | with_reducible exact HasBox.of b3 | with_reducible refine boxed_other ?_ (by omega) _ | with_reducible refine boxed_set _ ?_ | with_reducible refine HasBox.set ?_ _ _ | with_reducible refine HasBox.alloc ?_ _ | with_reducible refine HasBox.drewN ?_ _ | with_reducible refine Boxed.alloc ?_ _ | with_reducible refine boxed_drewN ?_ _)), ?_, by (repeat (first | with_reducible exact hgr | with_reducible refine grw_set ?_ (by first | exact .inl rfl | (right; dsimp only; omega)) _ | with_reducible refine grw_alloc ?_ _ | with_reducible refine grw_drewN ?_ _)), hhi, hzz.1, by simp [Hol.out], ?_, ?_⟩)
   · rw [← seg_set pre outs seg post k z Hol.out (by have := HS.out; omega)]
     (repeat (first | with_reducible exact hra | with_reducible refine arr_other ?_ (by omega) _ | with_reducible refine arr_set ?_ _ _ | with_reducible refine arr_alloc ?_ _ | with_reducible refine arr_drewN ?_ _))
   · exact words_append.2 ⟨how, fun u hu => by simp at hu; rw [hu]; exact hzz.2.2⟩
   · show val (seg.take (k + 1)) + BB ^ (k + 1) * (hi + bq) = val (outs ++ [z]) + G * val (vl.take (k + 1))
     rw [val_take_succ seg k x hx.out, val_take_succ vl k y hy.out, val_snoc, Hol.out, Nat.pow_succ, hi2]
     exact mulsub_arith (ht3.out.trans (by rw [hp3.out])) (by rw [← hlo3.out]; exact hzz.2.1) hval.out
  case done =>
   rintro D X hD ⟨outs, cy, bw, b0, b1, b2, b3, hra, hgr, hcy, hbw, hol, how, hval⟩ hKD
   rw [HV.out] at hra hol hval
   have Hol := Lib.hid hol
   clear hol
   have g4 := arr_cell hra (pre.length + n) (by have := Hol.out; have := HS.out; simp; omega)
   rw [seg_get pre outs seg post n n Hol.out (Nat.le_refl _) (by have := HS.out; omega), hu0.out] at g4
   have f4 := arr_frozen hra (pre.length + n)
   have tg := arr_lt hra
   have gb0 := b0.cell
   have fb0 := b0.frozen
   have tb0 := b0.lt
   have gb1 := b1.cell
   have fb1 := b1.frozen
   have tb1 := b1.lt
   have gb2 := b2.cell
   have fb2 := b2.frozen
   have tb2 := b2.lt
   have gb3 := b3.cell
   have fb3 := b3.frozen
   have tb3 := b3.lt
   have hVV := HD.out.vpos
   -- the words above: what is left of the topmost one
   have key : val seg + BB ^ n * (cy + bw) = val outs + BB ^ n * u0 + G * val vl := by
    have h := hval.out
    rw [List.take_of_length_le (Nat.le_of_eq HV.out)] at h
    have h2 := val_take_succ seg n u0 hu0.out
    rw [List.take_of_length_le (Nat.le_of_eq HS.out)] at h2
    omega
   have hob : val outs < BB ^ n := by have := val_lt how; rwa [Hol.out] at this
   have hdrop : seg.drop n = [u0] := by
    have := hu0.out
    rw [List.drop_eq_getElem_cons (by have := HS.out; omega), List.drop_of_length_le (by have := HS.out; omega)]
    rw [List.getD_eq_getElem?_getD, List.getElem?_eq_getElem (by have := HS.out; omega)] at this
    simp at this; rw [this]
   have Kkey := Lib.hid key
   have Khob := Lib.hid hob
   have Kdrop := Lib.hid hdrop
   clear key hob hdrop
   by_cases hGq : G = val seg / val vl
   · -- the guess is right
     obtain ⟨z, hz, hzz, hz4⟩ : ∃ z : Nat, u0 = z + (cy + bw) ∧ z < 4294967296 ∧ Hid (val outs + BB ^ n * z = val seg % val vl) := by
      have h1 : G * val vl + val seg % val vl = val seg := by rw [hGq, Nat.mul_comm]; exact Nat.div_add_mod _ _
      have h2 := Kkey.out
      have h3 : BB ^ n * (cy + bw) < BB ^ n * (u0 + 1) := by rw [Nat.mul_add (BB ^ n) u0 1, Nat.mul_one]; have := Khob.out; omega
      have h4 := Nat.lt_of_mul_lt_mul_left h3
      refine ⟨u0 - (cy + bw), by omega, by omega, ?_⟩
      show _ = _
      rw [Nat.mul_sub]
      have h5 : BB ^ n * (cy + bw) ≤ BB ^ n * u0 := Nat.mul_le_mul (Nat.le_refl _) (by omega)
      omega
     have w1 : IntKind.u64.wrap ((u0 : Int) - (cy : Int)) = ((z + bw : Nat) : Int) := by
      show ((u0 : Int) - (cy : Int)) % 18446744073709551616 = _
      omega
     have w2 : IntKind.u64.wrap (((z + bw : Nat) : Int) - (bw : Int)) = (z : Int) := by
      show (((z + bw : Nat) : Int) - (bw : Int)) % 18446744073709551616 = _
      omega
     have w3' : (z : Int) % 4294967296 = (z : Int) := by omega
     have w4 : (((z : Int) / 9223372036854775808) == 0) = true := by rw [beq_iff_eq]; omega
     have w5' : (G : Int) % 4294967296 = (G : Int) := by omega
     obtain ⟨zb, hzb⟩ : ∃ zb, z + bw = zb := ⟨_, rfl⟩
     rw [hzb] at w1 w2
     have Hz := Lib.hid hz
     have Hq := Lib.hid hGq
     clear hz hGq hzb
     gi_wp2
     refine wpIn_region_all (by kernel_rfl) (by kernel_rfl) (by kernel_rfl) ?_
     repeat (gi_big_quiet_step (fail))
     refine wpQuietIn_nil ?_
     intro mm
     gi_wp2
     obtain ⟨X5, hX5⟩ : ∃ X5, (X.drewN mm).setCell ⟨g, pre.length + n, none⟩ (.int .u32 (z : Int)) = X5 := ⟨_, rfl⟩
     have hst5 : Stp g X X5 := by rw [← hX5]; (repeat (first | with_reducible exact Stp.refl _ _ | with_reducible refine Stp.set ?_ (by first | (dsimp only; omega) | omega) _ | with_reducible refine Stp.alloc ?_ (by simp; omega) _ | with_reducible refine Stp.drewN ?_ _))
     have hgr5 : w.grownBy X5 (some g) := by rw [← hX5]; (repeat (first | with_reducible exact hgr | with_reducible refine grw_set ?_ (by first | exact .inl rfl | (right; dsimp only; omega)) _ | with_reducible refine grw_alloc ?_ _ | with_reducible refine grw_drewN ?_ _))
     have hra5 : Arr X5 g (pre ++ (outs ++ [z]) ++ post) := by
      rw [← hX5]
      have := arr_set (arr_drewN hra mm) (pre.length + n) z
      rw [seg_set pre outs seg post n z Hol.out (by have := HS.out; omega), List.drop_of_length_le (by have := HS.out; omega), List.append_nil] at this
      exact this
     rw [hX5]
     clear hX5
     have hK5 := hst5.keeps.same D _ hKD rfl
     refine ⟨by simp, .inl ⟨_, _, rfl, run_takeDeferred hK5, ?_⟩⟩
     refine ⟨_, results_tmp rfl _ _ _, outs ++ [z], by rw [← Hq.out]; rfl, arr_putObj hra5 _ hK5 rfl, by simp [Hol.out], words_append.2 ⟨how, fun u hu => by simp at hu; rw [hu]; exact hzz⟩, ?_, grw_put hgr5 (by omega) _⟩
     rw [val_snoc, Hol.out]; exact hz4.out
   · -- the guess is one too great
     have hG1 : G = val seg / val vl + 1 := by
      have := hq1.out
      have := hq2.out
      generalize val seg / val vl = q at *
      omega
     obtain ⟨hz, hz4⟩ : cy + bw = u0 + 1 ∧ Hid (val outs + val vl = BB ^ n + val seg % val vl) := by
      have h1 : val vl * (val seg / val vl) + val seg % val vl = val seg := Nat.div_add_mod _ _
      have h1' : G * val vl = val vl * (val seg / val vl) + val vl := by rw [hG1, Nat.add_mul, Nat.one_mul, Nat.mul_comm]
      have h2 := Kkey.out
      have h6 := Nat.mod_lt (val seg) hVV
      have h7 : val vl < BB ^ n := by have := val_lt hv.words; rwa [HV.out] at this
      have h8 := Khob.out
      have h3 : BB ^ n * u0 < BB ^ n * (cy + bw) := by omega
      have h4 := Nat.lt_of_mul_lt_mul_left h3
      have h5 : BB ^ n * (cy + bw) < BB ^ n * (u0 + 2) := by rw [Nat.mul_add (BB ^ n) u0 2]; omega
      have h9 := Nat.lt_of_mul_lt_mul_left h5
      have e : cy + bw = u0 + 1 := by omega
      refine ⟨e, ?_⟩
      show _ = _
      rw [e, Nat.mul_add (BB ^ n) u0 1] at h2
      omega
     obtain ⟨y1, w1, w2⟩ : ∃ y1 : Nat, IntKind.u64.wrap ((u0 : Int) - (cy : Int)) = (y1 : Int) ∧ IntKind.u64.wrap ((y1 : Int) - (bw : Int)) = 18446744073709551615 := by
      obtain ⟨d, hd⟩ := Int.eq_ofNat_of_zero_le (show 0 ≤ ((u0 : Int) - (cy : Int)) % 18446744073709551616 by omega)
      refine ⟨d, hd, ?_⟩
      show ((d : Int) - (bw : Int)) % 18446744073709551616 = _
      omega
     have Hz := Lib.hid hz
     have Hq := Lib.hid hG1
     clear hz hGq hG1
     gi_wp2
     refine wpIn_region_all (by kernel_rfl) (by kernel_rfl) (by kernel_rfl) ?_
     repeat (gi_big_quiet_step (fail))
     refine wpQuietIn_nil ?_
     intro mm
     gi_wp2_with (gi_at_call 212; refine (callsIn_wide.2 (limbs_calls _ _ _ _)).mono ?_; rintro e w2 ⟨rfl, rfl⟩)
     obtain ⟨X5, hX5⟩ : ∃ X5, (X.drewN mm).setCell ⟨g, pre.length + n, none⟩ (.int .u32 4294967295) = X5 := ⟨_, rfl⟩
     have hsx : X5.heap.size = X.heap.size := by rw [← hX5]; simp [World.setCell, World.drewN]
     have hst5 : Stp g X X5 := by rw [← hX5]; (repeat (first | with_reducible exact Stp.refl _ _ | with_reducible refine Stp.set ?_ (by first | (dsimp only; omega) | omega) _ | with_reducible refine Stp.alloc ?_ (by simp; omega) _ | with_reducible refine Stp.drewN ?_ _))
     have hgr5 : w.grownBy X5 (some g) := by rw [← hX5]; (repeat (first | with_reducible exact hgr | with_reducible refine grw_set ?_ (by first | exact .inl rfl | (right; dsimp only; omega)) _ | with_reducible refine grw_alloc ?_ _ | with_reducible refine grw_drewN ?_ _))
     have hra5 : Arr X5 g (pre ++ (outs ++ [4294967295]) ++ post) := by
      rw [← hX5]
      have := arr_set (arr_drewN hra mm) (pre.length + n) 4294967295
      rw [seg_set pre outs seg post n 4294967295 Hol.out (by have := HS.out; omega), List.drop_of_length_le (by have := HS.out; omega), List.append_nil] at this
      exact this
     have c0 : Boxed X5 w.heap.size 144 (.slice (some ⟨g, pre.length, none⟩) (n + 1) cu) := by rw [← hX5]; (repeat (first | with_reducible exact b0 | with_reducible exact HasBox.of b0 | with_reducible refine boxed_other ?_ (by omega) _ | with_reducible refine boxed_set _ ?_ | with_reducible refine HasBox.set ?_ _ _ | with_reducible refine HasBox.alloc ?_ _ | with_reducible refine HasBox.drewN ?_ _ | with_reducible refine Boxed.alloc ?_ _ | with_reducible refine boxed_drewN ?_ _))
     have c1 : Boxed X5 (w.heap.size + 1) 128 (.int .u64 (G : Int)) := by rw [← hX5]; (repeat (first | with_reducible exact b1 | with_reducible exact HasBox.of b1 | with_reducible refine boxed_other ?_ (by omega) _ | with_reducible refine boxed_set _ ?_ | with_reducible refine HasBox.set ?_ _ _ | with_reducible refine HasBox.alloc ?_ _ | with_reducible refine HasBox.drewN ?_ _ | with_reducible refine Boxed.alloc ?_ _ | with_reducible refine boxed_drewN ?_ _))
     rw [hX5]
     clear hX5
     have hK5 := hst5.keeps.same D _ hKD rfl
     rw [← hsx]
     have Hsx := Lib.hid hsx
     clear hsx
     obtain ⟨X7, hw3⟩ : ∃ X7, allocs X5 [.cells #[.int .u64 0] 128, .cells #[.slice (some ⟨bv, ov, none⟩) n cv] 144] = X7 := ⟨_, rfl⟩
     have hget := allocs_get X5 [.cells #[.int .u64 0] 128, .cells #[.slice (some ⟨bv, ov, none⟩) n cv] 144]
     have hs3 := allocs_stp X5 [.cells #[.int .u64 0] 128, .cells #[.slice (some ⟨bv, ov, none⟩) n cv] 144] (Nat.le_refl X5.heap.size)
     have hsz3 := allocs_size X5 [.cells #[.int .u64 0] 128, .cells #[.slice (some ⟨bv, ov, none⟩) n cv] 144]
     rw [hw3] at hget hs3 hsz3
     simp only [allocs] at hw3
     rw [hw3]
     clear hw3
     replace hsz3 : X5.heap.size + 2 ≤ X7.heap.size := by rw [hsz3]; exact Nat.le_refl _
     have hE0 : Boxed X7 X5.heap.size 128 (.int .u64 0) := hget 0 (by simp)
     have hE1 : Boxed X7 (X5.heap.size + 1) 144 (.slice (some ⟨bv, ov, none⟩) n cv) := hget 1 (by simp)
     clear hget
     have c0' : Boxed X7 w.heap.size 144 (.slice (some ⟨g, pre.length, none⟩) (n + 1) cu) := (hs3.below.block w.heap.size (by have := c0.lt; omega)).trans c0
     have c1' : Boxed X7 (w.heap.size + 1) 128 (.int .u64 (G : Int)) := (hs3.below.block (w.heap.size + 1) (by have := c1.lt; omega)).trans c1
     have hra7 : Arr X7 g (pre ++ (outs ++ [4294967295]) ++ post) := arr_below hra5 hs3.below (arr_lt hra5)
     have hgr7 : w.grownBy X7 (some g) := ⟨hs3.below.os.trans hgr5.os, hs3.below.tape.trans hgr5.tape, hs3.below.output.trans hgr5.output, by have := hgr5.size; omega, fun k hk hne => (hs3.below.block k (by have := hgr5.size; omega)).trans (hgr5.block k hk hne)⟩
     have hDX : D < X5.heap.size := (Array.getElem?_eq_some_iff.1 hK5).1
     have hK7 : X7.heap[D]? = some (.deferred (some [])) := (hs3.below.block D hDX).trans hK5
     have hvl7 : Rd X7 (some ⟨bv, ov, none⟩) vl := grw_rd hgr7 hv (fun b o e => by cases e; omega)
     have hs2l : (outs ++ [4294967295]).length = n + 1 := by simp [Hol.out]
     have ws2 : Words (outs ++ [4294967295]) := words_append.2 ⟨how, fun u hu => by simp at hu; rw [hu]; show 4294967295 < 4294967296; omega⟩
     have hs2v : val ((outs ++ [4294967295]).take n) = val outs := by rw [List.take_append_of_le_length (by rw [Hol.out]; omega), List.take_of_length_le (by rw [Hol.out]; omega)]
     have hs2n : (outs ++ [4294967295]).getD n 0 = 4294967295 := by rw [List.getD_eq_getElem?_getD, List.getElem?_append_right (by rw [Hol.out]; omega), Hol.out, Nat.sub_self]; rfl
     generalize hS2 : outs ++ [4294967295] = seg2 at *
     have HS2l := Lib.hid hs2l
     have HS2v := Lib.hid hs2v
     have HS2n := Lib.hid hs2n
     have HX5g := hgr5.size
     clear hS2 hs2l hs2v hs2n g4 f4
     refine wpIn_limbs_p (n₀ := g) (l := vl) rfl (by omega) (gf := 236) (lb := #[.pointer (some ⟨X5.heap.size + 1, 0, none⟩)]) rfl trivial (enters_of Tryz.func236 (by kernel_rfl) rfl)
      (limbs1_in _ (X5.heap.size + 1) (some ⟨bv, ov, none⟩) cv vl g X7 (by rw [HV.out]; exact hE1.cell) hvl7 (by omega) (fun b o e _ => by cases e; exact hbv)) (by omega) (Below.refl _ _) rfl
      (fun k Y => ∃ (o2 : List Nat) (s : Nat), Boxed Y w.heap.size 144 (.slice (some ⟨g, pre.length, none⟩) (n + 1) cu) ∧ Boxed Y (w.heap.size + 1) 128 (.int .u64 (G : Int)) ∧ Boxed Y X5.heap.size 128 (.int .u64 (s : Int)) ∧ Y.heap[D]? = some (.deferred (some [])) ∧
       Arr Y g (pre ++ (o2 ++ seg2.drop k) ++ post) ∧ w.grownBy Y (some g) ∧ s ≤ 1 ∧ o2.length = k ∧ Words o2 ∧ Hid (val (seg2.take k) + val (vl.take k) = val o2 + BB ^ k * s))
      ?own2 ?start2 ?round2 ?done2
     case own2 =>
      rintro k Y Z row ⟨o2, s, a0, a1, a2, a3, a4, a5, rest⟩ hg hr
      exact ⟨o2, s, boxed_ownF _ _ _ (fun _ => _) k Y Z row a0 hg hr, boxed_ownF _ _ _ (fun _ => _) k Y Z row a1 hg hr, boxed_ownF _ _ _ (fun _ => _) k Y Z row a2 hg hr, blk_ownF (by omega) k Y Z row a3 hg hr, arr_ownF _ _ (fun _ => _) k Y Z row a4 hg hr, grw_ownF (by omega) k Y Z row a5 hg hr, rest⟩
     case start2 => exact ⟨[], 0, c0', c1', hE0, hK7, by simpa using hra7, hgr7, by omega, rfl, words_nil, by simp [Hid, val]⟩
     case round2 =>
      intro k Y hk
      obtain ⟨y, hy, hyb⟩ : ∃ y, Hid (vl.getD k 0 = y) ∧ y < 4294967296 := ⟨_, rfl, words_getD hv.words k⟩
      obtain ⟨x, hx, hxb⟩ : ∃ y, Hid (seg2.getD k 0 = y) ∧ y < 4294967296 := ⟨_, rfl, words_getD ws2 k⟩
      rw [hy.out]
      have hkn : k < n := by have := HV.out; omega
      gi_wp2
      refine ⟨trivial, ?_⟩
      clear Y
      rintro Y ⟨o2, s, b0, b1, b2, hKY, hra, hgr, hs1, hol, how, hval⟩
      have Ho2 := Lib.hid hol
      clear hol
      have g4 := arr_cell hra (pre.length + k) (by have := Ho2.out; have := HS2l.out; simp; omega)
      rw [seg_get pre o2 seg2 post k k Ho2.out (Nat.le_refl _) (by have := HS2l.out; omega), hx.out] at g4
      have f4 := arr_frozen hra (pre.length + k)
      have tg := arr_lt hra
      have gb0 := b0.cell
      have fb0 := b0.frozen
      have tb0 := b0.lt
      have gb1 := b1.cell
      have fb1 := b1.frozen
      have tb1 := b1.lt
      have gb2 := b2.cell
      have fb2 := b2.frozen
      have tb2 := b2.lt
      obtain ⟨t, ht, ht2, ht3⟩ : ∃ t : Nat, (s : Int) + ((x : Int) + (y : Int)) = (t : Int) ∧ t < 18446744073709551616 ∧ Hid (t = s + (x + y)) := ⟨s + (x + y), by omega, by omega, rfl⟩
      obtain ⟨z, z1, z2⟩ : ∃ z : Nat, (t : Int) % 4294967296 = (z : Int) ∧ Hid (z = t % BB) := ⟨t % 4294967296, by omega, rfl⟩
      gi_wp2
      refine wpIn_region_tail 10 (by kernel_rfl) (by kernel_rfl) (by kernel_rfl) ?_
      simp only [List.take_succ_cons, List.take_zero, List.drop_succ_cons, List.drop_zero]
      repeat (gi_big_quiet_step (fail))
      refine wpQuietIn_nil ?_
      intro m2
      gi_wp2
      obtain ⟨hi, hi1, hi2⟩ : ∃ q : Nat, (t : Int) / 4294967296 = (q : Int) ∧ q = t / BB := ⟨t / 4294967296, by omega, rfl⟩
      rw [hi1]
      have htt := ht3.out
      have hh : hi ≤ 1 := by rw [hi2]; show t / 4294967296 ≤ 1; omega
      refine limb_end (by (repeat (first | with_reducible exact Stp.refl _ _ | with_reducible refine Stp.set ?_ (by first | (dsimp only; omega) | omega) _ | with_reducible refine Stp.alloc ?_ (by simp; omega) _ | with_reducible refine Stp.drewN ?_ _))) (fun hst => ⟨o2 ++ [z], hi, by (repeat (first | with_reducible exact b0 | with_reducible exact HasBox.of b0 | with_reducible refine boxed_other ?_ (by omega) _ | with_reducible refine boxed_set _ ?_ | with_reducible refine HasBox.set ?_ _ _ | with_reducible refine HasBox.alloc ?_ _ | with_reducible refine HasBox.drewN ?_ _ | with_reducible refine Boxed.alloc ?_ _ | with_reducible refine boxed_drewN ?_ _)), by (repeat (first | with_reducible exact b1 | with_reducible exact HasBox.of b1 | with_reducible refine boxed_other ?_ (by omega) _ | with_reducible refine boxed_set _ ?_ | with_reducible refine HasBox.set ?_ _ _ | with_reducible refine HasBox.alloc ?_ _ | with_reducible refine HasBox.drewN ?_ _ | with_reducible refine Boxed.alloc ?_ _ | with_reducible refine boxed_drewN ?_ _)), by (repeat (first | with_reducible exact b2 | with_reducible exact HasBox.of b2 | with_reducible refine boxed_other ?_ (by omega) _ | with_reducible refine boxed_set _ ?_ | with_reducible refine HasBox.set ?_ _ _ | with_reducible refine HasBox.alloc ?_ _ | with_reducible refine HasBox.drewN ?_ _ | with_reducible refine Boxed.alloc ?_ _ | with_reducible refine boxed_drewN ?_ _)), hst.keeps.same D _ hKY rfl, ?_, by (repeat (first | with_reducible exact hgr | with_reducible refine grw_set ?_ (by first | exact .inl rfl | (right; dsimp only; omega)) _ | with_reducible refine grw_alloc ?_ _ | with_reducible refine grw_drewN ?_ _)), hh, by simp [Ho2.out], ?_, ?_⟩)
      · rw [← seg_set pre o2 seg2 post k z Ho2.out (by have := HS2l.out; omega)]
        (repeat (first | with_reducible exact hra | with_reducible refine arr_other ?_ (by omega) _ | with_reducible refine arr_set ?_ _ _ | with_reducible refine arr_alloc ?_ _ | with_reducible refine arr_drewN ?_ _))
      · exact words_append.2 ⟨how, fun u hu => by simp at hu; rw [hu, z2.out]; exact Nat.mod_lt _ (by decide)⟩
      · show val (seg2.take (k + 1)) + val (vl.take (k + 1)) = val (o2 ++ [z]) + BB ^ (k + 1) * hi
        rw [z2.out, hi2, htt]
        exact (add_step hx.out hy.out Ho2.out hval.out.symm).symm
     case done2 =>
      rintro D2 Y hD2 ⟨o2, s, b0, b1, b2, hKY, hra, hgr, hs1, hol, how, hval⟩ hKD2
      rw [HV.out] at hra hol hval
      have Ho2 := Lib.hid hol
      clear hol
      have g4 := arr_cell hra (pre.length + n) (by have := Ho2.out; have := HS2l.out; simp; omega)
      rw [seg_get pre o2 seg2 post n n Ho2.out (Nat.le_refl _) (by have := HS2l.out; omega), HS2n.out] at g4
      have f4 := arr_frozen hra (pre.length + n)
      have tg := arr_lt hra
      have gb0 := b0.cell
      have fb0 := b0.frozen
      have tb0 := b0.lt
      have gb1 := b1.cell
      have fb1 := b1.frozen
      have tb1 := b1.lt
      have gb2 := b2.cell
      have fb2 := b2.frozen
      have tb2 := b2.lt
      have hob2 : val o2 < BB ^ n := by have := val_lt how; rwa [Ho2.out] at this
      have hfin : Hid (s = 1 ∧ val o2 = val seg % val vl) := by
       have h := hval.out
       rw [HS2v.out, List.take_of_length_le (Nat.le_of_eq HV.out), hz4.out] at h
       have h6 := Nat.mod_lt (val seg) hVV
       have h7 : val vl < BB ^ n := by have := val_lt hv.words; rwa [HV.out] at this
       exact fin_step hs1 h hob2 h6 h7
      obtain ⟨hs, hov⟩ := hfin.out
      subst hs
      have hov' := Lib.hid hov
      clear hov hfin hval hob2
      obtain ⟨q, q1, q2, q3⟩ : ∃ q : Nat, IntKind.u64.wrap ((G : Int) - 1) = (q : Int) ∧ Hid (q = val seg / val vl) ∧ q < 4294967296 := by
       have := Hq.out
       generalize val seg / val vl = Q at *
       refine ⟨G - 1, ?_, by show G - 1 = _; omega, by omega⟩
       show ((G : Int) - 1) % 18446744073709551616 = _
       omega
      have q4 : (q : Int) % 4294967296 = (q : Int) := by omega
      have aw : IntKind.u32.wrap (((4294967295 : Nat) : Int) + 1) = 0 := by decide
      gi_wp2
      refine wpIn_region_tail 8 (by kernel_rfl) (by kernel_rfl) (by kernel_rfl) ?_
      simp only [List.take_succ_cons, List.take_zero, List.drop_succ_cons, List.drop_zero]
      repeat (gi_big_quiet_step (fail))
      refine wpQuietIn_nil ?_
      intro m2
      gi_wp2
      obtain ⟨Y5, hY5⟩ : ∃ Y5, (Y.drewN m2).setCell ⟨g, pre.length + n, none⟩ (.int .u32 0) = Y5 := ⟨_, rfl⟩
      have hst6 : Stp g Y Y5 := by rw [← hY5]; (repeat (first | with_reducible exact Stp.refl _ _ | with_reducible refine Stp.set ?_ (by first | (dsimp only; omega) | omega) _ | with_reducible refine Stp.alloc ?_ (by simp; omega) _ | with_reducible refine Stp.drewN ?_ _))
      have hgr6 : w.grownBy Y5 (some g) := by rw [← hY5]; (repeat (first | with_reducible exact hgr | with_reducible refine grw_set ?_ (by first | exact .inl rfl | (right; dsimp only; omega)) _ | with_reducible refine grw_alloc ?_ _ | with_reducible refine grw_drewN ?_ _))
      have hra6 : Arr Y5 g (pre ++ (o2 ++ [0]) ++ post) := by
       rw [← hY5]
       have := arr_set (arr_drewN hra m2) (pre.length + n) 0
       rw [seg_set pre o2 seg2 post n 0 Ho2.out (by have := HS2l.out; omega), List.drop_of_length_le (by have := HS2l.out; omega), List.append_nil] at this
       exact this
      rw [hY5]
      clear hY5
      have hK6 := hst6.keeps.same D2 _ hKD2 rfl
      have hK6D := hst6.keeps.same D _ hKY rfl
      have hDD : D ≠ D2 := by omega
      refine ⟨by simp, .inl ⟨_, _, rfl, run_takeDeferred hK6, ?_⟩⟩
      have hK7D : (Y5.putObj D2 (.deferred none)).heap[D]? = some (.deferred (some [])) := (World.putObj_heap_other hDD).trans hK6D
      refine ⟨by simp, .inl ⟨_, _, rfl, run_takeDeferred hK7D, ?_⟩⟩
      refine ⟨_, results_tmp rfl _ _ _, o2 ++ [0], by rw [← q2.out]; rfl, arr_putObj (arr_putObj hra6 _ hK6 rfl) _ hK7D rfl, by simp [Ho2.out], words_append.2 ⟨how, fun u hu => by simp at hu; rw [hu]; decide⟩, ?_, grw_put (grw_put hgr6 (by omega) _) (by omega) _⟩
      rw [val_snoc, Nat.mul_zero, Nat.add_zero]; exact hov'.out
 have hcv2' : w.cell? ⟨bv, ov + (n - 2), none⟩ = some (.int .u32 (v2 : Int)) := hcv2
 have cv1 := hv1b
 have cv2 := hv2b
 have HR0 := Lib.hid r3
 gi_loopw [8] (fun r W => ∃ G R : Nat, r = .int .u64 (R : Int) ∧ R < 4294967296 ∧ Hid (G * v1 + R = u0 * BB + u1) ∧ Hid (val seg / val vl ≤ G) ∧ G < 18446744073709551616 ∧ Boxed W w.heap.size 144 (.slice (some ⟨g, pre.length, none⟩) (n + 1) cu) ∧ Boxed W (w.heap.size + 1) 128 (.int .u64 (G : Int)) ∧ Arr W g (pre ++ seg ++ post) ∧ w.grownBy W (some g))
  (fun r _ => (4294967296 - intOf r).toNat)
 case atStart =>
  refine ⟨G0, R0, rfl, by omega, ?_, ?_, g3, hB0, hB1, hR, hG⟩
  · show G0 * v1 + R0 = u0 * BB + u1
    rw [g2.out, r2.out, ← t2.out, Nat.mul_comm]; exact Nat.div_add_mod _ _
  · show _ ≤ G0
    rw [g2.out, t2.out]; exact HD.out.start
 case round =>
  obtain ⟨G, R, rfl, hRb, hGR, hqG, hGb, b0, b1, hra, hgr⟩ := hrel
  have hgz := hgr.size
  have x2 := arr_cell hra (pre.length + (n - 2)) (by have := HS.out; simp; omega)
  rw [show (pre ++ seg ++ post).getD (pre.length + (n - 2)) 0 = u2 by
   have := seg_get pre [] seg post 0 (n - 2) rfl (by omega) (by have := HS.out; omega)
   simp only [List.drop_zero, List.nil_append] at this
   rw [this]; exact hu2.out] at x2
  have y1 : wr.cell? ⟨bv, ov + (n - 1), none⟩ = some (.int .u32 (v1 : Int)) := (World.cell?_of_block (hgr.block bv (by omega) (by intro e; cases e; omega))).trans hcv1
  have y2 : wr.cell? ⟨bv, ov + (n - 2), none⟩ = some (.int .u32 (v2 : Int)) := (World.cell?_of_block (hgr.block bv (by omega) (by intro e; cases e; omega))).trans hcv2
  have gb0 := b0.cell
  have fb0 := b0.frozen
  have tb0 := b0.lt
  have gb1 := b1.cell
  have fb1 := b1.frozen
  have tb1 := b1.lt
  have tg := arr_lt hra
  by_cases hGB : G < 4294967296
  · obtain ⟨p, p1, p2, p3⟩ : ∃ p : Nat, (G : Int) * (v2 : Int) = (p : Int) ∧ p ≤ 18446744065119617025 ∧ Hid (p = G * v2) := ⟨G * v2, (Int.natCast_mul G v2).symm, mul_words hGB (by have := hv2b; omega), rfl⟩
    obtain ⟨t, q1, q2, q3⟩ : ∃ t : Nat, bits .or .u64 ((R : Int) * 4294967296) (u2 : Int) = (t : Int) ∧ Hid (t = R * BB + u2) ∧ t < 18446744073709551616 := by
     have e : (R : Int) * 4294967296 = ((R * 4294967296 : Nat) : Int) := by simp
     refine ⟨R * BB + u2, ?_, rfl, by show R * 4294967296 + u2 < 18446744073709551616; omega⟩
     rw [e]
     exact or_u64' u2 (R * 4294967296) 32 hu2b (by show R * 4294967296 % 4294967296 = 0; omega) (by omega) (by omega)
    have c0 : ((4294967296 : Int) ≤ (G : Int)) ↔ False := by rw [iff_false]; omega
    have c00 : ((G : Int) < 4294967296) ↔ True := by rw [iff_true]; omega
    by_cases hpt : t < p
    · have d0 : ((t : Int) < (p : Int)) ↔ True := by rw [iff_true]; omega
      have d00 : ((p : Int) ≤ (t : Int)) ↔ False := by rw [iff_false]; omega
      have hlt : Hid (val seg / val vl < G) := HD.out.dec hGR.out (by rw [← q2.out, ← p3.out]; exact hpt)
      have hG0 : 0 < G := Nat.lt_of_le_of_lt (Nat.zero_le _) hlt.out
      obtain ⟨G1, k1, k2⟩ : ∃ z : Nat, IntKind.u64.wrap ((G : Int) - 1) = (z : Int) ∧ Hid (G = z + 1) := ⟨G - 1, (show ((G : Int) - 1) % 18446744073709551616 = _ by omega), by show G = _; omega⟩
      obtain ⟨R1, m1, m2⟩ : ∃ z : Nat, (R : Int) + (v1 : Int) = (z : Int) ∧ Hid (z = R + v1) := ⟨R + v1, by omega, rfl⟩
      have m3 : R1 < 8589934592 := by have := m2.out; omega
      have hG1 : G1 * v1 + R1 = u0 * BB + u1 := by
       have h1 := hGR.out
       rw [k2.out, Nat.add_mul, Nat.one_mul] at h1
       rw [m2.out]; omega
      have hq1 : val seg / val vl ≤ G1 := by
       have h1 := k2.out
       have h2 := hlt.out
       generalize val seg / val vl = Q at *
       omega
      have hk1 : G1 < G := by have := k2.out; omega
      have HG1 := Lib.hid hG1
      have Hq1 := Lib.hid hq1
      clear hG1 hq1
      by_cases hR1 : R1 < 4294967296
      · have c1 : ((4294967296 : Int) ≤ (R1 : Int)) ↔ False := by rw [iff_false]; omega
        have c10 : ((R1 : Int) < 4294967296) ↔ True := by rw [iff_true]; omega
        gi_wp2
        refine wpIn_region_all (by kernel_rfl) (by kernel_rfl) (by kernel_rfl) ?_
        repeat (gi_big_quiet_step (fail))
        refine wpQuietIn_nil ?_
        intro mm
        gi_wp2
        refine ⟨⟨G1, R1, rfl, hR1, HG1, Hq1, by omega, by (repeat (first | with_reducible exact b0 | with_reducible exact HasBox.of b0 | with_reducible refine boxed_other ?_ (by omega) _ | with_reducible refine boxed_set _ ?_ | with_reducible refine HasBox.set ?_ _ _ | with_reducible refine HasBox.alloc ?_ _ | with_reducible refine HasBox.drewN ?_ _ | with_reducible refine Boxed.alloc ?_ _ | with_reducible refine boxed_drewN ?_ _)), by (repeat (first | with_reducible exact b1 | with_reducible exact HasBox.of b1 | with_reducible refine boxed_other ?_ (by omega) _ | with_reducible refine boxed_set _ ?_ | with_reducible refine HasBox.set ?_ _ _ | with_reducible refine HasBox.alloc ?_ _ | with_reducible refine HasBox.drewN ?_ _ | with_reducible refine Boxed.alloc ?_ _ | with_reducible refine boxed_drewN ?_ _)), by (repeat (first | with_reducible exact hra | with_reducible refine arr_other ?_ (by omega) _ | with_reducible refine arr_set ?_ _ _ | with_reducible refine arr_alloc ?_ _ | with_reducible refine arr_drewN ?_ _)), by (repeat (first | with_reducible exact hgr | with_reducible refine grw_set ?_ (by first | exact .inl rfl | (right; dsimp only; omega)) _ | with_reducible refine grw_alloc ?_ _ | with_reducible refine grw_drewN ?_ _))⟩, ?_⟩
        simp only [intOf]
        have := m2.out
        have := hv1p
        omega
      · have hb := Lib.hid (HD.out.broke HG1.out (by show 4294967296 ≤ R1; omega))
        have c1 : ((4294967296 : Int) ≤ (R1 : Int)) ↔ True := by rw [iff_true]; omega
        have c10 : ((R1 : Int) < 4294967296) ↔ False := by rw [iff_false]; omega
        gi_wp2
        refine wpIn_region_all (by kernel_rfl) (by kernel_rfl) (by kernel_rfl) ?_
        repeat (gi_big_quiet_step (fail))
        refine wpQuietIn_nil ?_
        intro mm
        gi_wp2
        have hb1 : G1 < 4294967296 := hb.out.1
        have hb2 : Hid (G1 ≤ val seg / val vl + 1) := hb.out.2
        exact hrest G1 _ _ _ _ _ _ _ _ _ _ _ _ _ _ _ _ _ _ _ _ _ _ _ _ _ _ _ _ _ _ _ _ _ _ _ _ _ _ _ _ _ _ _ _ _ _ _ _ _ _ _ _ _ _ _ _ _ _ _ _ _ _ _ _ _ _ _ _ _ _ _ _ _ _ _ _ _ _ _ _ _ _ _ _ _ _ _ _ _ _ _ _ _ _ _ _ _ _ _ _ _ _ _ _ _ _ _ _ _ _ _ _ _ _ _ _ _ _ _ _ _ _ _ _ _ _ _ _ _ _ _ _ _ _ _ _ _ _ _ _ _ _ _ _ _ _ _ _ _ _ _ _ _ _ _ _ _ _ _ Hq1 hb2 hb1 (by (repeat (first | with_reducible exact b0 | with_reducible exact HasBox.of b0 | with_reducible refine boxed_other ?_ (by omega) _ | with_reducible refine boxed_set _ ?_ | with_reducible refine HasBox.set ?_ _ _ | with_reducible refine HasBox.alloc ?_ _ | with_reducible refine HasBox.drewN ?_ _ | with_reducible refine Boxed.alloc ?_ _ | with_reducible refine boxed_drewN ?_ _))) (by (repeat (first | with_reducible exact b1 | with_reducible exact HasBox.of b1 | with_reducible refine boxed_other ?_ (by omega) _ | with_reducible refine boxed_set _ ?_ | with_reducible refine HasBox.set ?_ _ _ | with_reducible refine HasBox.alloc ?_ _ | with_reducible refine HasBox.drewN ?_ _ | with_reducible refine Boxed.alloc ?_ _ | with_reducible refine boxed_drewN ?_ _))) (by (repeat (first | with_reducible exact hra | with_reducible refine arr_other ?_ (by omega) _ | with_reducible refine arr_set ?_ _ _ | with_reducible refine arr_alloc ?_ _ | with_reducible refine arr_drewN ?_ _))) (by (repeat (first | with_reducible exact hgr | with_reducible refine grw_set ?_ (by first | exact .inl rfl | (right; dsimp only; omega)) _ | with_reducible refine grw_alloc ?_ _ | with_reducible refine grw_drewN ?_ _)))
    · have d0 : ((t : Int) < (p : Int)) ↔ False := by rw [iff_false]; omega
      have d00 : ((p : Int) ≤ (t : Int)) ↔ True := by rw [iff_true]; omega
      have hb2 : Hid (G ≤ val seg / val vl + 1) := HD.out.good hGR.out hGB (by rw [← q2.out, ← p3.out]; omega)
      gi_wp2
      refine wpIn_region_all (by kernel_rfl) (by kernel_rfl) (by kernel_rfl) ?_
      repeat (gi_big_quiet_step (fail))
      refine wpQuietIn_nil ?_
      intro mm
      gi_wp2
      exact hrest G _ _ _ _ _ _ _ _ _ _ _ _ _ _ _ _ _ _ _ _ _ _ _ _ _ _ _ _ _ _ _ _ _ _ _ _ _ _ _ _ _ _ _ _ _ _ _ _ _ _ _ _ _ _ _ _ _ _ _ _ _ _ _ _ _ _ _ _ _ _ _ _ _ _ _ _ _ _ _ _ _ _ _ _ _ _ _ _ _ _ _ _ _ _ _ _ _ _ _ _ _ _ _ _ _ _ _ _ _ _ _ _ _ _ _ _ _ _ _ _ _ _ _ _ _ _ _ _ _ _ _ _ _ _ _ _ _ _ _ _ _ _ _ _ _ _ _ _ _ _ _ _ _ _ _ _ _ _ _ hqG hb2 hGB (by (repeat (first | with_reducible exact b0 | with_reducible exact HasBox.of b0 | with_reducible refine boxed_other ?_ (by omega) _ | with_reducible refine boxed_set _ ?_ | with_reducible refine HasBox.set ?_ _ _ | with_reducible refine HasBox.alloc ?_ _ | with_reducible refine HasBox.drewN ?_ _ | with_reducible refine Boxed.alloc ?_ _ | with_reducible refine boxed_drewN ?_ _))) (by (repeat (first | with_reducible exact b1 | with_reducible exact HasBox.of b1 | with_reducible refine boxed_other ?_ (by omega) _ | with_reducible refine boxed_set _ ?_ | with_reducible refine HasBox.set ?_ _ _ | with_reducible refine HasBox.alloc ?_ _ | with_reducible refine HasBox.drewN ?_ _ | with_reducible refine Boxed.alloc ?_ _ | with_reducible refine boxed_drewN ?_ _))) (by (repeat (first | with_reducible exact hra | with_reducible refine arr_other ?_ (by omega) _ | with_reducible refine arr_set ?_ _ _ | with_reducible refine arr_alloc ?_ _ | with_reducible refine arr_drewN ?_ _))) (by (repeat (first | with_reducible exact hgr | with_reducible refine grw_set ?_ (by first | exact .inl rfl | (right; dsimp only; omega)) _ | with_reducible refine grw_alloc ?_ _ | with_reducible refine grw_drewN ?_ _)))
  · have c0 : ((4294967296 : Int) ≤ (G : Int)) ↔ True := by rw [iff_true]; omega
    have c00 : ((G : Int) < 4294967296) ↔ False := by rw [iff_false]; omega
    have hlt : Hid (val seg / val vl < G) := by
     have h1 := HD.out.q_lt
     show _ < _
     exact Nat.lt_of_lt_of_le h1 (by show 4294967296 ≤ G; omega)
    obtain ⟨G1, k1, k2⟩ : ∃ z : Nat, IntKind.u64.wrap ((G : Int) - 1) = (z : Int) ∧ Hid (G = z + 1) := ⟨G - 1, (show ((G : Int) - 1) % 18446744073709551616 = _ by omega), by show G = _; omega⟩
    obtain ⟨R1, m1, m2⟩ : ∃ z : Nat, (R : Int) + (v1 : Int) = (z : Int) ∧ Hid (z = R + v1) := ⟨R + v1, by omega, rfl⟩
    have m3 : R1 < 8589934592 := by have := m2.out; omega
    have hG1 : G1 * v1 + R1 = u0 * BB + u1 := by
     have h1 := hGR.out
     rw [k2.out, Nat.add_mul, Nat.one_mul] at h1
     rw [m2.out]; omega
    have hq1 : val seg / val vl ≤ G1 := by
     have h1 := k2.out
     have h2 := hlt.out
     generalize val seg / val vl = Q at *
     omega
    have hk1 : G1 < G := by have := k2.out; omega
    have HG1 := Lib.hid hG1
    have Hq1 := Lib.hid hq1
    clear hG1 hq1
    by_cases hR1 : R1 < 4294967296
    · have c1 : ((4294967296 : Int) ≤ (R1 : Int)) ↔ False := by rw [iff_false]; omega
      have c10 : ((R1 : Int) < 4294967296) ↔ True := by rw [iff_true]; omega
      gi_wp2
      refine wpIn_region_all (by kernel_rfl) (by kernel_rfl) (by kernel_rfl) ?_
      repeat (gi_big_quiet_step (fail))
      refine wpQuietIn_nil ?_
      intro mm
      gi_wp2
      refine ⟨⟨G1, R1, rfl, hR1, HG1, Hq1, by omega, by (repeat (first | with_reducible exact b0 | with_reducible exact HasBox.of b0 | with_reducible refine boxed_other ?_ (by omega) _ | with_reducible refine boxed_set _ ?_ | with_reducible refine HasBox.set ?_ _ _ | with_reducible refine HasBox.alloc ?_ _ | with_reducible refine HasBox.drewN ?_ _ | with_reducible refine Boxed.alloc ?_ _ | with_reducible refine boxed_drewN ?_ _)), by (repeat (first | with_reducible exact b1 | with_reducible exact HasBox.of b1 | with_reducible refine boxed_other ?_ (by omega) _ | with_reducible refine boxed_set _ ?_ | with_reducible refine HasBox.set ?_ _ _ | with_reducible refine HasBox.alloc ?_ _ | with_reducible refine HasBox.drewN ?_ _ | with_reducible refine Boxed.alloc ?_ _ | with_reducible refine boxed_drewN ?_ _)), by (repeat (first | with_reducible exact hra | with_reducible refine arr_other ?_ (by omega) _ | with_reducible refine arr_set ?_ _ _ | with_reducible refine arr_alloc ?_ _ | with_reducible refine arr_drewN ?_ _)), by (repeat (first | with_reducible exact hgr | with_reducible refine grw_set ?_ (by first | exact .inl rfl | (right; dsimp only; omega)) _ | with_reducible refine grw_alloc ?_ _ | with_reducible refine grw_drewN ?_ _))⟩, ?_⟩
      simp only [intOf]
      have := m2.out
      have := hv1p
      omega
    · have hb := Lib.hid (HD.out.broke HG1.out (by show 4294967296 ≤ R1; omega))
      have c1 : ((4294967296 : Int) ≤ (R1 : Int)) ↔ True := by rw [iff_true]; omega
      have c10 : ((R1 : Int) < 4294967296) ↔ False := by rw [iff_false]; omega
      gi_wp2
      refine wpIn_region_all (by kernel_rfl) (by kernel_rfl) (by kernel_rfl) ?_
      repeat (gi_big_quiet_step (fail))
      refine wpQuietIn_nil ?_
      intro mm
      gi_wp2
      have hb1 : G1 < 4294967296 := hb.out.1
      have hb2 : Hid (G1 ≤ val seg / val vl + 1) := hb.out.2
      exact hrest G1 _ _ _ _ _ _ _ _ _ _ _ _ _ _ _ _ _ _ _ _ _ _ _ _ _ _ _ _ _ _ _ _ _ _ _ _ _ _ _ _ _ _ _ _ _ _ _ _ _ _ _ _ _ _ _ _ _ _ _ _ _ _ _ _ _ _ _ _ _ _ _ _ _ _ _ _ _ _ _ _ _ _ _ _ _ _ _ _ _ _ _ _ _ _ _ _ _ _ _ _ _ _ _ _ _ _ _ _ _ _ _ _ _ _ _ _ _ _ _ _ _ _ _ _ _ _ _ _ _ _ _ _ _ _ _ _ _ _ _ _ _ _ _ _ _ _ _ _ _ _ _ _ _ _ _ _ _ _ _ Hq1 hb2 hb1 (by (repeat (first | with_reducible exact b0 | with_reducible exact HasBox.of b0 | with_reducible refine boxed_other ?_ (by omega) _ | with_reducible refine boxed_set _ ?_ | with_reducible refine HasBox.set ?_ _ _ | with_reducible refine HasBox.alloc ?_ _ | with_reducible refine HasBox.drewN ?_ _ | with_reducible refine Boxed.alloc ?_ _ | with_reducible refine boxed_drewN ?_ _))) (by (repeat (first | with_reducible exact b1 | with_reducible exact HasBox.of b1 | with_reducible refine boxed_other ?_ (by omega) _ | with_reducible refine boxed_set _ ?_ | with_reducible refine HasBox.set ?_ _ _ | with_reducible refine HasBox.alloc ?_ _ | with_reducible refine HasBox.drewN ?_ _ | with_reducible refine Boxed.alloc ?_ _ | with_reducible refine boxed_drewN ?_ _))) (by (repeat (first | with_reducible exact hra | with_reducible refine arr_other ?_ (by omega) _ | with_reducible refine arr_set ?_ _ _ | with_reducible refine arr_alloc ?_ _ | with_reducible refine arr_drewN ?_ _))) (by (repeat (first | with_reducible exact hgr | with_reducible refine grw_set ?_ (by first | exact .inl rfl | (right; dsimp only; omega)) _ | with_reducible refine grw_alloc ?_ _ | with_reducible refine grw_drewN ?_ _)))
end Nm
end Go.Proofs.YtjghnghceeijeaaGreatDoor
