/-
  Contracts of the walks below.
-/
import Derived.Test.YtjghnghceeijeaaGreatDoorDb6
import Derived.Deep.RegionHeld3
import Derived.Deep.CutRange
import Derived.Laws.EntriesVeiled
set_option maxRecDepth 100000
set_option maxHeartbeats 4000000
set_option linter.unusedVariables false
set_option linter.unusedSimpArgs false
namespace Go.Proofs.YtjghnghceeijeaaGreatDoor
namespace Nm
open Go.RowKit Go.Shelf Go.BigFrame
attribute [local go_sem] Oper.semAt_some
theorem keeps_own {β : Type} {B b : Nat} {W0 : World} (hb : W0.heap.size ≤ b) : OwnFrom b (fun (_ : β) W => KeepsFrom B W0 W) := fun s X Y row h hg hr =>
 ⟨Nat.le_trans h.size hg.size, fun k o hB hk ho => by
  have h1 := h.same k o hB hk ho
  exact (hg.block k (Array.getElem?_eq_some_iff.1 h1).1 (fun e => by
   have := (hr k e.symm).1
   have := (Array.getElem?_eq_some_iff.1 hk).1
   omega)).trans h1⟩
theorem size_own {β : Type} {n b : Nat} : OwnFrom b (fun (_ : β) (W : World) => n ≤ W.heap.size) := fun _ _ _ _ h hg _ => Nat.le_trans h hg.size
section
variable {F : Fence} {n : Nat} {P : Program}
theorem wpIn_limbs_b {g : Operand} {ps : Array Tmp} {assign body : Code} {Q : Exit → Act → World → Prop} {a : Act} {w : World} {l : List Nat} {n₀ : Nat}
 (hro : F.round = none) (h1 : 1 ≤ n) {gf : Nat} {lb : Array Value} (hg : a.eval g = .func (.func gf) #[] lb) (hFg : F.fn gf) (eg : ∀ args w, (callFunc gf args).run P w = .ok (.enter gf args) w)
 {w0 : World} (hseq : LimbSeq F (n - 1) P gf lb l n₀ w0) (hn₀ : n₀ ≤ w.heap.size) (hb0 : Below w0.heap.size w0 w) (hps : ps.size = 2)
 (I : Nat → World → Prop) (hI : OwnFrom w.heap.size I) (h0 : I 0 w) (E : Nat → Nat → World → Prop) (hE : ∀ k B, OwnFrom w.heap.size (fun (_ : Unit) W => E k B W))
 (hround : ∀ (k : Nat) (W : World), I k W → k < l.length →
  assign.wpIn (F.inRound (w.heap.size + 1)) (n - 1 - 1) P (Exit.then (fun a' W' => KeepsFrom w.heap.size W W' ∧ Below n₀ W W' ∧ I k W' ∧ ∃ B, E k B W' ∧ ∀ W2, (∃ r, W2.heap[w.heap.size + 1]? = some (.loop r)) → I k W2 → E k B W2 →
   body.wpIn (F.inRound (w.heap.size + 1)) (n - 1 - 1) P (limbPost w.heap.size n₀ (I (k + 1)) W2) a' W2) (fun _ _ _ => False)) { tmps := (ps.zip #[.int .i64 (k : Int), .int .u32 (l.getD k 0 : Nat)]).foldl (fun t (p, v) => t.setIfInBounds p v) a.tmps, defers := [] } W)
 (hdone : ∀ (D : Nat) (W : World), w.heap.size ≤ D → I l.length W → W.heap[D]? = some (.deferred (some [])) → Q .normal { a with defers := { target := .collected D, args := #[] } :: a.defers } W) :
 (Code.rangeFunc g ps assign body).wpIn F n P Q a w :=
 wpIn_limbs hro h1 hg hFg eg hseq hn₀ hb0 hps I hI h0
  (fun k a' W => ∃ B, E k B W ∧ ∀ W2, (∃ r, W2.heap[w.heap.size + 1]? = some (.loop r)) → I k W2 → E k B W2 → body.wpIn (F.inRound (w.heap.size + 1)) (n - 1 - 1) P (limbPost w.heap.size n₀ (I (k + 1)) W2) a' W2)
  (fun k a' s X Y row hs hg hr => by obtain ⟨B, hb, h⟩ := hs; exact ⟨B, hE k B () X Y row hb hg hr, h⟩)
  (fun k W K hi hk hK => wpIn_mono (hround k W hi hk) (fun e a' W' h => by
   cases e with
   | normal => obtain ⟨h1, h2, h3, h4⟩ := h; exact hK _ _ h1 h2 h3 h4
   | ret => exact h.elim
   | exit id => exact h.elim
   | goto t => exact h.elim
   | panic ch => exact h.elim
   | outgrown => exact h.elim)) (fun k a' W hr hi e hk => by obtain ⟨B, hb, h⟩ := e; exact h W hr hi hb) hdone
end
theorem long_step {P B S O Y cy x y u t : Nat} (ht : t = cy + (x * y + u)) (h : O + P * cy = S + x * Y) : (O + P * (t % B)) + P * B * (t / B) = (S + P * u) + x * (Y + P * y) := by
 have e := Nat.mod_add_div t B
 have e2 : P * (t % B) + P * B * (t / B) = P * t := by rw [Nat.mul_assoc, ← Nat.mul_add, e]
 have e3 : x * (Y + P * y) = x * Y + P * (x * y) := by rw [Nat.mul_add, Nat.mul_left_comm]
 have e4 : P * t = P * cy + P * (x * y) + P * u := by rw [ht, ← Nat.mul_add, ← Nat.mul_add]; congr 1; omega
 rw [e3]
 omega
theorem long_calls (A1 A2 : Option Addr) (c1 c2 : Nat) (l1 l2 : List Nat) (w : World) (h1 : Rd w A1 l1) (h2 : Rd w A2 l2) (_hc1 : l1.length ≤ c1) (_hc2 : l2.length ≤ c2) (hs1 : l1.length ≤ 65536) (hs2 : l2.length ≤ 65536) :
 Calls Tryz.prog 208 #[.slice A1 l1.length c1, .slice A2 l2.length c2] w (RetNat (val l1 * val l2) w) := by
 obtain ⟨N, hN, hN'⟩ : ∃ N : Nat, (l1.length : Int) + (l2.length : Int) = (N : Int) ∧ Hid (N = l1.length + l2.length) := ⟨l1.length + l2.length, by omega, rfl⟩
 have hNb : N ≤ 131072 := by have := hN'.out; omega
 have hmk := make_nat (N : Int) (N : Int) N N rfl rfl (Nat.le_refl _) (by omega)
 have hwide : ∀ f, Fence.wide.fn f := fun _ => trivial
 refine (callsIn_wide (n := 5)).1 ?_
 refine callsIn_of_wp_marks Tryz.func208 rfl trivial ?_ rfl
 simp only [Tryz.ntmps208, List.size_toArray, List.length_cons, List.length_nil, Nat.reduceAdd, Nat.reduceSub, Array.replicate_succ, Array.replicate_zero, List.push_toArray, List.append_toArray, List.nil_append, List.cons_append]
 gi_wp2_with (gi_at_call 212; refine (callsIn_wide.2 (limbs_calls _ _ _ _)).mono ?_; rintro e w2 ⟨rfl, rfl⟩)
 clear hmk
 obtain ⟨w3, hw3⟩ : ∃ w3, allocs w [.cells #[.slice A2 l2.length c2] 144, .cells (warr (List.replicate N 0)) 127, .cells #[.slice (some ⟨w.heap.size + 1, 0, none⟩) N N] 144, .cells #[.slice A1 l1.length c1] 144] = w3 := ⟨_, rfl⟩
 have hget := allocs_get w [.cells #[.slice A2 l2.length c2] 144, .cells (warr (List.replicate N 0)) 127, .cells #[.slice (some ⟨w.heap.size + 1, 0, none⟩) N N] 144, .cells #[.slice A1 l1.length c1] 144]
 have hs3 := allocs_stp w [.cells #[.slice A2 l2.length c2] 144, .cells (warr (List.replicate N 0)) 127, .cells #[.slice (some ⟨w.heap.size + 1, 0, none⟩) N N] 144, .cells #[.slice A1 l1.length c1] 144] (Nat.le_refl w.heap.size)
 have hsz3 := allocs_size w [.cells #[.slice A2 l2.length c2] 144, .cells (warr (List.replicate N 0)) 127, .cells #[.slice (some ⟨w.heap.size + 1, 0, none⟩) N N] 144, .cells #[.slice A1 l1.length c1] 144]
 rw [hw3] at hget hs3 hsz3
 simp only [allocs] at hw3
 rw [hw3]
 clear hw3
 replace hsz3 : w.heap.size + 4 ≤ w3.heap.size := by rw [hsz3]; exact Nat.le_refl _
 have hB0 : Boxed w3 w.heap.size 144 (.slice A2 l2.length c2) := hget 0 (by simp)
 have hB1 : Arr w3 (w.heap.size + 1) (List.replicate N 0) := arr_of (hget 1 (by simp))
 have hB2 : Boxed w3 (w.heap.size + 2) 144 (.slice (some ⟨w.heap.size + 1, 0, none⟩) N N) := hget 2 (by simp)
 have hB3 : Boxed w3 (w.heap.size + 3) 144 (.slice A1 l1.length c1) := hget 3 (by simp)
 clear hget
 have hr13 := h1.below hs3.below rfl
 refine wpIn_limbs_b (n₀ := w.heap.size) (l := l1) rfl (by omega) (gf := 236) (lb := #[.pointer (some ⟨w.heap.size + 3, 0, none⟩)]) rfl trivial (enters_of Tryz.func236 (by kernel_rfl) rfl)
  (limbs1_in _ (w.heap.size + 3) A1 c1 l1 w.heap.size w3 hB3.cell hr13 (by omega) (rd_block h1)) (by omega) (Below.refl _ _) rfl
  (fun k W => ∃ lo : List Nat, Boxed W w.heap.size 144 (.slice A2 l2.length c2) ∧ Arr W (w.heap.size + 1) (lo ++ List.replicate (l1.length - k) 0) ∧ Boxed W (w.heap.size + 2) 144 (.slice (some ⟨w.heap.size + 1, 0, none⟩) N N) ∧ Below w.heap.size w W ∧ w3.heap.size ≤ W.heap.size ∧ Hid (lo.length = k + l2.length) ∧ Words lo ∧ Hid (val lo = val (l1.take k) * val l2)) ?own ?start
  (fun k B W => w3.heap.size ≤ B ∧ Boxed W B 3 (.int .i64 (k : Int)) ∧ Boxed W (B + 1) 127 (.int .u32 ((l1.getD k 0 : Nat) : Int))) ?ownE ?round ?done
 case own =>
  rintro k X Y row ⟨lo, a0, a1, a2, hbl, hsz, rest⟩ hg hr
  exact ⟨lo, boxed_ownF _ _ _ (fun _ => _) k X Y row a0 hg hr, arr_ownF _ _ (fun _ => _) k X Y row a1 hg hr, boxed_ownF _ _ _ (fun _ => _) k X Y row a2 hg hr, ownFrom_below (Nat.le_refl _) (by omega) k X Y row hbl hg hr, size_own k X Y row hsz hg hr, rest⟩
 case start => exact ⟨List.replicate l2.length 0, hB0, by rw [List.replicate_append_replicate, show l2.length + (l1.length - 0) = N by have := hN'.out; omega]; exact hB1, hB2, hs3.below, Nat.le_refl _, by simp [Hid], words_replicate _, by simp [Hid, val, val_replicate]⟩
 case ownE =>
  rintro k B s X Y row ⟨a0, a1, a2⟩ hg hr
  exact ⟨a0, boxed_ownF _ _ _ (fun _ => _) k X Y row a1 hg hr, boxed_ownF _ _ _ (fun _ => _) k X Y row a2 hg hr⟩
 case round =>
  rintro k W ⟨lo, b0, ar, b2, hbl, hsz, hlo, low, hval⟩ hk
  obtain ⟨x, hx, hxb⟩ : ∃ x, Hid (l1.getD k 0 = x) ∧ x < 4294967296 := ⟨_, rfl, words_getD h1.words k⟩
  rw [hx.out]
  gi_wp2
  refine ⟨((KeepsOthers.alloc W _).trans (KeepsOthers.alloc _ _)).from _, ((Below.refl w.heap.size W).alloc hbl.size _).alloc (by have := hbl.size; simp; omega) _, ⟨lo, (b0.alloc _).alloc _, arr_alloc (arr_alloc ar _) _, (b2.alloc _).alloc _, (hbl.alloc hbl.size _).alloc (by have := hbl.size; simp; omega) _, by simp; omega, hlo, low, hval⟩,
   W.heap.size, ⟨hsz, (Boxed.new _ _ _).alloc _, by have := Boxed.new (W.alloc (.cells #[.int .i64 (k : Int)] 3)) 127 (.int .u32 (x : Int)); simpa using this⟩, ?_⟩
  generalize W.heap.size = B
  clear b0 ar b2 hbl hsz hlo low hval
  clear W
  clear lo
  rintro W2 ⟨r, hr⟩ ⟨lo, b0, ar, b2, hbl, hsz, hlo, low, hval⟩ ⟨hB, e0, e1⟩
  have gb0 := b0.cell
  have gb2 := b2.cell
  have ge0 := e0.cell
  have ge1 := e1.cell
  have tb0 := b0.lt
  have te1 := e1.lt
  have tar := arr_lt ar
  have hlol := hlo.out
  gi_wp2_with (gi_at_call 212; refine (CallsIn.inRound _ (callsIn_wide.2 (limbs_calls _ _ _ _))).mono ?_; rintro e w5 ⟨rfl, rfl⟩)
  obtain ⟨W5, hw3⟩ : ∃ W5, allocs W2 [.cells #[.int .u64 0] 128, .cells #[.slice A2 l2.length c2] 144] = W5 := ⟨_, rfl⟩
  have hget := allocs_get W2 [.cells #[.int .u64 0] 128, .cells #[.slice A2 l2.length c2] 144]
  have ht3 := allocs_stp W2 [.cells #[.int .u64 0] 128, .cells #[.slice A2 l2.length c2] 144] (Nat.le_refl W2.heap.size)
  have hsz3 := allocs_size W2 [.cells #[.int .u64 0] 128, .cells #[.slice A2 l2.length c2] 144]
  rw [hw3] at hget ht3 hsz3
  simp only [allocs] at hw3
  rw [hw3]
  clear hw3
  replace hsz3 : W2.heap.size + 2 ≤ W5.heap.size := by rw [hsz3]; exact Nat.le_refl _
  have hC0 : Boxed W5 W2.heap.size 128 (.int .u64 0) := hget 0 (by simp)
  have hC1 : Boxed W5 (W2.heap.size + 1) 144 (.slice A2 l2.length c2) := hget 1 (by simp)
  clear hget
  obtain ⟨pre, hpre⟩ : ∃ pre, lo.take k = pre := ⟨_, rfl⟩
  obtain ⟨seg, hseg⟩ : ∃ seg, lo.drop k = seg := ⟨_, rfl⟩
  have hlo2 : lo = pre ++ seg := by rw [← hpre, ← hseg, List.take_append_drop]
  have hprel : pre.length = k := by rw [← hpre, List.length_take]; omega
  have hsegl : seg.length = l2.length := by rw [← hseg, List.length_drop]; omega
  obtain ⟨post, hpost, hpost'⟩ : ∃ post, List.replicate (l1.length - k) 0 = 0 :: post ∧ post = List.replicate (l1.length - (k + 1)) 0 := ⟨List.replicate (l1.length - (k + 1)) 0, by rw [show l1.length - k = (l1.length - (k + 1)) + 1 by omega]; rfl, rfl⟩
  have ar5 : Arr W5 (w.heap.size + 1) (pre ++ (([] : List Nat) ++ seg.drop 0) ++ (0 :: post)) := by
   rw [List.nil_append, List.drop_zero, ← hlo2, ← hpost]; exact arr_below ar ht3.below (by omega)
  have b05 : Boxed W5 w.heap.size 144 (.slice A2 l2.length c2) := (ht3.below.block w.heap.size (by omega)).trans b0
  have b25 : Boxed W5 (w.heap.size + 2) 144 (.slice (some ⟨w.heap.size + 1, 0, none⟩) N N) := (ht3.below.block (w.heap.size + 2) (by omega)).trans b2
  have e05 : Boxed W5 B 3 (.int .i64 (k : Int)) := (ht3.below.block B (by omega)).trans e0
  have e15 : Boxed W5 (B + 1) 127 (.int .u32 (x : Int)) := (ht3.below.block (B + 1) (by omega)).trans e1
  have hr5 : W5.heap[w3.heap.size + 1]? = some (.loop r) := (ht3.below.block (w3.heap.size + 1) (Array.getElem?_eq_some_iff.1 hr).1).trans hr
  have wseg : Words seg := by rw [← hseg]; exact words_drop low k
  have wpre : Words pre := by rw [← hpre]; exact words_take low k
  have hvlo : val lo = val pre + BB ^ k * val seg := by rw [hlo2, val_append, hprel]
  have Hpost := Lib.hid hpost'
  have Hprel := Lib.hid hprel
  have Hsegl := Lib.hid hsegl
  have Hvlo := Lib.hid hvlo
  clear hpost' hprel hsegl hvlo hlo2 hpre hseg hpost ar b0 b2 e0 e1 gb0 gb2 ge0 ge1
  refine wpIn_limbs_in (n₀ := w.heap.size) (l := l2) (l₀ := w3.heap.size + 1) (r₀ := r) rfl hr5 (by omega) (gf := 236) (lb := #[.pointer (some ⟨W2.heap.size + 1, 0, none⟩)]) rfl trivial (enters_of Tryz.func236 (by kernel_rfl) rfl)
   (limbs1_in _ (W2.heap.size + 1) A2 c2 l2 w.heap.size W5 hC1.cell (h2.below (hbl.trans (ht3.below.mono hbl.size)) rfl) (by omega) (rd_block h2)) (by omega) (Below.refl _ _) rfl
   (fun j Y => ∃ (os : List Nat) (cy : Nat), Boxed Y w.heap.size 144 (.slice A2 l2.length c2) ∧ Arr Y (w.heap.size + 1) (pre ++ (os ++ seg.drop j) ++ (0 :: post)) ∧ Boxed Y (w.heap.size + 2) 144 (.slice (some ⟨w.heap.size + 1, 0, none⟩) N N) ∧ Boxed Y B 3 (.int .i64 (k : Int)) ∧ Boxed Y (B + 1) 127 (.int .u32 (x : Int)) ∧ Boxed Y W2.heap.size 128 (.int .u64 (cy : Int)) ∧
    KeepsFrom w3.heap.size W2 Y ∧ Below w.heap.size W2 Y ∧ W5.heap.size ≤ Y.heap.size ∧ cy < 4294967296 ∧ os.length = j ∧ Words os ∧ Hid (val os + BB ^ j * cy = val (seg.take j) + x * val (l2.take j)))
   ?own2 ?start2 ?round2 ?done2
  case own2 =>
   rintro j X Y row ⟨os, cy, a0, a1, a2, a3, a4, a5, a6, a7, a8, rest⟩ hg hr'
   exact ⟨os, cy, boxed_ownF _ _ _ (fun _ => _) j X Y row a0 hg hr', arr_ownF _ _ (fun _ => _) j X Y row a1 hg hr', boxed_ownF _ _ _ (fun _ => _) j X Y row a2 hg hr', boxed_ownF _ _ _ (fun _ => _) j X Y row a3 hg hr', boxed_ownF _ _ _ (fun _ => _) j X Y row a4 hg hr', boxed_ownF _ _ _ (fun _ => _) j X Y row a5 hg hr',
    keeps_own (by omega) j X Y row a6 hg hr', ownFrom_below hbl.size (by omega) j X Y row a7 hg hr', size_own j X Y row a8 hg hr', rest⟩
  case start2 => exact ⟨[], 0, b05, ar5, b25, e05, e15, hC0, ht3.keeps.from _, ht3.below.mono hbl.size, Nat.le_refl _, by omega, rfl, words_nil, by simp [Hid, val]⟩
  case round2 =>
   intro j Y hj
   obtain ⟨y, hy, hyb⟩ : ∃ y, Hid (l2.getD j 0 = y) ∧ y < 4294967296 := ⟨_, rfl, words_getD h2.words j⟩
   obtain ⟨u, hu, hub⟩ : ∃ y, Hid (seg.getD j 0 = y) ∧ y < 4294967296 := ⟨_, rfl, words_getD wseg j⟩
   rw [hy.out]
   gi_wp2
   refine ⟨trivial, ?_⟩
   clear Y
   rintro Y ⟨os, cy, b0, ar, b2, e0, e1, c0, hKY, hblY, hszY, hcy, hol, how, hv⟩
   have Hol := Lib.hid hol
   clear hol
   have g4 := arr_cell ar (k + j) (by have := Hol.out; have := Hsegl.out; have := Hprel.out; simp; omega)
   have hsg := seg_get pre os seg (0 :: post) j j Hol.out (Nat.le_refl _) (by have := Hsegl.out; omega)
   rw [Hprel.out] at hsg
   rw [hsg, hu.out] at g4
   clear hsg
   have f4 := arr_frozen ar (k + j)
   have tg := arr_lt ar
   have gb0 := b0.cell
   have fb0 := b0.frozen
   have tb0 := b0.lt
   have gb2 := b2.cell
   have fb2 := b2.frozen
   have tb2 := b2.lt
   have ge0 := e0.cell
   have fe0 := e0.frozen
   have te0 := e0.lt
   have ge1 := e1.cell
   have fe1 := e1.frozen
   have te1 := e1.lt
   have gc0 := c0.cell
   have fc0 := c0.frozen
   have tc0 := c0.lt
   obtain ⟨p, hp, hp2, hp3⟩ : ∃ p : Nat, (x : Int) * (y : Int) = (p : Int) ∧ p ≤ 18446744065119617025 ∧ Hid (p = x * y) := ⟨x * y, (Int.natCast_mul x y).symm, mul_words hxb hyb, rfl⟩
   obtain ⟨t, ht, ht2, ht3'⟩ : ∃ t : Nat, (cy : Int) + ((p : Int) + (u : Int)) = (t : Int) ∧ t < 18446744073709551616 ∧ Hid (t = cy + (p + u)) := ⟨cy + (p + u), by omega, by omega, rfl⟩
   obtain ⟨z, z1, z2⟩ : ∃ z : Nat, (t : Int) % 4294967296 = (z : Int) ∧ Hid (z = t % BB) := ⟨t % 4294967296, by omega, rfl⟩
   gi_wp2
   refine wpIn_region_tail 15 (by kernel_rfl) (by kernel_rfl) (by kernel_rfl) ?_
   simp only [List.take_succ_cons, List.take_zero, List.drop_succ_cons, List.drop_zero]
   repeat (gi_big_quiet_step (fail))
   refine wpQuietIn_nil ?_
   intro m2
   gi_wp2
   obtain ⟨hi, hi1, hi2⟩ : ∃ q : Nat, (t : Int) / 4294967296 = (q : Int) ∧ q = t / BB := ⟨t / 4294967296, by omega, rfl⟩
   rw [hi1]
   simp only [Nat.add_assoc, Nat.reduceAdd]
   have hh : hi < 4294967296 := by rw [hi2]; show t / 4294967296 < _; omega
   have hset := fun z => seg_set pre os seg (0 :: post) j z Hol.out (by have := Hsegl.out; omega)
   rw [Hprel.out] at hset
   refine limb_end (by (repeat (first | with_reducible exact Stp.refl _ _ | with_reducible refine Stp.set ?_ (by first | (dsimp only; omega) | omega) _ | with_reducible refine Stp.alloc ?_ (by simp; omega) _ | with_reducible refine Stp.drewN ?_ _))) (fun hst => ⟨os ++ [z], hi, by (repeat (first | with_reducible exact b0 | with_reducible exact HasBox.of b0 | with_reducible refine boxed_other ?_ (by omega) _ | with_reducible refine boxed_set _ ?_ | with_reducible refine HasBox.set ?_ _ _ | with_reducible refine HasBox.alloc ?_ _ | with_reducible refine HasBox.drewN ?_ _ | with_reducible refine Boxed.alloc ?_ _ | with_reducible refine boxed_drewN ?_ _)), ?_, by (repeat (first | with_reducible exact b2 | with_reducible exact HasBox.of b2 | with_reducible refine boxed_other ?_ (by omega) _ | with_reducible refine boxed_set _ ?_ | with_reducible refine HasBox.set ?_ _ _ | with_reducible refine HasBox.alloc ?_ _ | with_reducible refine HasBox.drewN ?_ _ | with_reducible refine Boxed.alloc ?_ _ | with_reducible refine boxed_drewN ?_ _)), by (repeat (first | with_reducible exact e0 | with_reducible exact HasBox.of e0 | with_reducible refine boxed_other ?_ (by omega) _ | with_reducible refine boxed_set _ ?_ | with_reducible refine HasBox.set ?_ _ _ | with_reducible refine HasBox.alloc ?_ _ | with_reducible refine HasBox.drewN ?_ _ | with_reducible refine Boxed.alloc ?_ _ | with_reducible refine boxed_drewN ?_ _)), by (repeat (first | with_reducible exact e1 | with_reducible exact HasBox.of e1 | with_reducible refine boxed_other ?_ (by omega) _ | with_reducible refine boxed_set _ ?_ | with_reducible refine HasBox.set ?_ _ _ | with_reducible refine HasBox.alloc ?_ _ | with_reducible refine HasBox.drewN ?_ _ | with_reducible refine Boxed.alloc ?_ _ | with_reducible refine boxed_drewN ?_ _)), by (repeat (first | with_reducible exact c0 | with_reducible exact HasBox.of c0 | with_reducible refine boxed_other ?_ (by omega) _ | with_reducible refine boxed_set _ ?_ | with_reducible refine HasBox.set ?_ _ _ | with_reducible refine HasBox.alloc ?_ _ | with_reducible refine HasBox.drewN ?_ _ | with_reducible refine Boxed.alloc ?_ _ | with_reducible refine boxed_drewN ?_ _)), hKY.trans (hst.keeps.from _), hblY.trans hst.below, Nat.le_trans hszY hst.size, hh, by simp [Hol.out], ?_, ?_⟩)
   · rw [← hset z]
     (repeat (first | with_reducible exact ar | with_reducible refine arr_other ?_ (by omega) _ | with_reducible refine arr_set ?_ _ _ | with_reducible refine arr_alloc ?_ _ | with_reducible refine arr_drewN ?_ _))
   · exact words_append.2 ⟨how, fun u hu => by simp at hu; rw [hu, z2.out]; exact Nat.mod_lt _ (by decide)⟩
   · show val (os ++ [z]) + BB ^ (j + 1) * hi = val (seg.take (j + 1)) + x * val (l2.take (j + 1))
     rw [val_take_succ seg j u hu.out, val_take_succ l2 j y hy.out, val_snoc, Hol.out, Nat.pow_succ, hi2, z2.out]
     exact long_step (by rw [ht3'.out, hp3.out]) hv.out
  case done2 =>
   rintro Y ⟨os, cy, b0, ar, b2, e0, e1, c0, hKY, hblY, hszY, hcy, hol, how, hv⟩
   have Hol := Lib.hid hol
   clear hol
   rw [List.drop_of_length_le (Nat.le_of_eq Hsegl.out), List.append_nil] at ar
   have hlen1 : (pre ++ os).length = k + l2.length := by rw [List.length_append, Hprel.out, Hol.out]
   have g4 := arr_cell ar (k + l2.length) (by rw [List.length_append, hlen1]; simp)
   have hsg : (pre ++ os ++ (0 :: post)).getD (k + l2.length) 0 = 0 := by
    rw [List.getD_eq_getElem?_getD, List.getElem?_append_right (by omega), hlen1, Nat.sub_self]; rfl
   rw [hsg] at g4
   have f4 := arr_frozen ar (k + l2.length)
   have tg := arr_lt ar
   have gb0 := b0.cell
   have fb0 := b0.frozen
   have tb0 := b0.lt
   have gb2 := b2.cell
   have fb2 := b2.frozen
   have tb2 := b2.lt
   have ge0 := e0.cell
   have fe0 := e0.frozen
   have te0 := e0.lt
   have ge1 := e1.cell
   have fe1 := e1.frozen
   have te1 := e1.lt
   have gc0 := c0.cell
   have fc0 := c0.frozen
   have tc0 := c0.lt
   have hcy' : (cy : Int) % 4294967296 = (cy : Int) := by omega
   have Hlen1 := Lib.hid hlen1
   clear hsg hlen1
   gi_wp2
   have hY2 : Below w.heap.size W2 (Y.setCell ⟨w.heap.size + 1, k + l2.length, none⟩ (.int .u32 (cy : Int))) := hblY.setCell (by dsimp only; omega) _
   refine ⟨hKY.trans ((KeepsOthers.setCell Y _ _).from _), hY2, pre ++ os ++ [cy], by (repeat (first | with_reducible exact b0 | with_reducible exact HasBox.of b0 | with_reducible refine boxed_other ?_ (by omega) _ | with_reducible refine boxed_set _ ?_ | with_reducible refine HasBox.set ?_ _ _ | with_reducible refine HasBox.alloc ?_ _ | with_reducible refine HasBox.drewN ?_ _ | with_reducible refine Boxed.alloc ?_ _ | with_reducible refine boxed_drewN ?_ _)), ?_, by (repeat (first | with_reducible exact b2 | with_reducible exact HasBox.of b2 | with_reducible refine boxed_other ?_ (by omega) _ | with_reducible refine boxed_set _ ?_ | with_reducible refine HasBox.set ?_ _ _ | with_reducible refine HasBox.alloc ?_ _ | with_reducible refine HasBox.drewN ?_ _ | with_reducible refine Boxed.alloc ?_ _ | with_reducible refine boxed_drewN ?_ _)), hbl.trans hY2, Nat.le_trans hsz hY2.size, ?_, words_append.2 ⟨words_append.2 ⟨wpre, how⟩, fun u hu => by simp at hu; rw [hu]; exact hcy⟩, ?_⟩
   · have e : (pre ++ os ++ (0 :: post)).set (k + l2.length) cy = pre ++ os ++ [cy] ++ List.replicate (l1.length - (k + 1)) 0 := by
      rw [List.set_append_right _ _ (by have := Hlen1.out; omega), Hlen1.out, Nat.sub_self, List.set_cons_zero, ← Hpost.out]
      simp
     rw [← e]
     exact arr_set ar (k + l2.length) cy
   · show (pre ++ os ++ [cy]).length = k + 1 + l2.length
     rw [List.length_append, Hlen1.out]; simp; omega
   · show val (pre ++ os ++ [cy]) = val (l1.take (k + 1)) * val l2
     have h := hv.out
     rw [List.take_of_length_le (Nat.le_of_eq Hsegl.out), List.take_of_length_le (Nat.le_refl l2.length)] at h
     rw [val_take_succ l1 k x hx.out, List.append_assoc, val_append, Hprel.out, val_snoc, Hol.out, h, Nat.add_mul, Nat.mul_add, ← hval.out, Hvlo.out, Nat.mul_assoc, Nat.add_assoc]
 case done =>
  rintro D W hD ⟨lo, b0, ar, b2, hbl, hsz, hlo, low, hval⟩ hK
  rw [Nat.sub_self, List.replicate_zero, List.append_nil] at ar
  have hlen : lo.length = N := by rw [hlo.out, hN'.out]
  have hrd := arr_rd ar low (by omega)
  have ht := fun n => trim_in n (some ⟨w.heap.size + 1, 0, none⟩) N lo W hrd (by omega)
  have hval' : trim lo = lim (val l1 * val l2) := by
   have := hval.out
   rw [List.take_of_length_le (Nat.le_refl _)] at this
   unfold trim; rw [this]
  rw [hval', hlen] at ht
  have hrd2 := hrd.trim
  have htl := trim_length_le low
  rw [hval', hlen] at htl
  rw [hval'] at hrd2
  have gb2 := b2.cell
  have Hval' := Lib.hid hval'
  clear hval' hlen hval
  gi_wp2_with (gi_at_call 164; refine (ht _).mono ?_; rintro e w' ⟨rfl, rfl⟩)
  refine ⟨by simp, .inl ⟨_, _, rfl, run_takeDeferred hK, ?_⟩⟩
  exact ⟨_, results_tmp rfl _ _ _, _, _, rfl, htl, hrd2.putObj _ hK rfl, hbl.trans (belowK_b (w := w) (Nat.le_refl _) W D _ _ (by omega) hK rfl rfl)⟩
end Nm
end Go.Proofs.YtjghnghceeijeaaGreatDoor
namespace Go.Proofs.YtjghnghceeijeaaGreatDoor
namespace Nm
theorem half_parts (a k q : Nat) (hq : q = min k (lim a).length) :
 a = val ((lim a).take q) + BB ^ k * val ((lim a).drop q) ∧ (lim (val ((lim a).take q))).length ≤ q ∧ (lim a).drop q = lim (val ((lim a).drop q)) := by
 have hc := canon_lim a
 refine ⟨?_, ?_, ?_⟩
 · have e := List.take_append_drop q (lim a)
   have h1 : a = val ((lim a).take q) + BB ^ ((lim a).take q).length * val ((lim a).drop q) := by
    rw [← val_append, e, val_lim]
   rcases Nat.lt_or_ge (lim a).length k with h | h
   · have e2 : (lim a).drop q = [] := List.drop_of_length_le (by omega)
     rw [e2] at h1 ⊢
     simpa [val] using h1
   · have e2 : ((lim a).take q).length = k := by rw [List.length_take]; omega
     rw [e2] at h1
     exact h1
 · refine length_le_of_lt ?_
   have := val_lt (words_take hc.1 q)
   refine Nat.lt_of_lt_of_le this (Nat.pow_le_pow_right (by decide) ?_)
   rw [List.length_take]; omega
 · refine (lim_val ⟨words_drop hc.1 q, fun h => ?_⟩).symm
   rw [List.getLast_drop]
   exact hc.2 _
theorem lt_of_length_le {x k : Nat} (h : (lim x).length ≤ k) : x < BB ^ k := length_le_iff.1 h
theorem sum_length {x y k : Nat} (hx : (lim x).length ≤ k) (hy : (lim y).length ≤ k) : (lim (x + y)).length ≤ k + 1 := by
 refine length_le_of_lt ?_
 have h1 := lt_of_length_le hx
 have h2 := lt_of_length_le hy
 rw [Nat.pow_succ]
 have : BB ^ k * 2 ≤ BB ^ k * BB := Nat.mul_le_mul (Nat.le_refl _) (by decide)
 generalize BB ^ k = P at *
 generalize P * BB = R at *
 omega
theorem prod_length {x y k j : Nat} (hx : (lim x).length ≤ k) (hy : (lim y).length ≤ j) : (lim (x * y)).length ≤ k + j := by
 refine length_le_of_lt ?_
 rw [Nat.pow_add]
 exact Nat.mul_lt_mul'' (lt_of_length_le hx) (lt_of_length_le hy)
theorem up_length {x k j : Nat} (hx : (lim x).length ≤ j) : (lim (BB ^ k * x)).length ≤ k + j := by
 refine length_le_of_lt ?_
 rw [Nat.pow_add]
 exact Nat.mul_lt_mul_of_pos_left (lt_of_length_le hx) (Nat.pow_pos (by decide))
theorem halves_sum {a b a0 a1 b0 b1 P : Nat} (ha : a = a0 + P * a1) (hb : b = b0 + P * b1) :
 a0 * b0 + P * ((a0 + a1) * (b0 + b1) - a0 * b0 - a1 * b1) + P * P * (a1 * b1) = a * b := by
 have e : (a0 + a1) * (b0 + b1) - a0 * b0 - a1 * b1 = a0 * b1 + a1 * b0 := by
  rw [Nat.add_mul, Nat.mul_add, Nat.mul_add]; omega
 rw [e, ha, hb, Nat.add_mul, Nat.mul_add, Nat.mul_add, Nat.mul_add]
 have e1 : a0 * (P * b1) = P * (a0 * b1) := Nat.mul_left_comm _ _ _
 have e2 : P * a1 * b0 = P * (a1 * b0) := Nat.mul_assoc _ _ _
 have e3 : P * a1 * (P * b1) = P * P * (a1 * b1) := by rw [Nat.mul_assoc, Nat.mul_left_comm a1, ← Nat.mul_assoc]
 rw [e1, e2, e3]
 omega
theorem mul_le_parts (a0 a1 b0 b1 : Nat) : a0 * b0 ≤ (a0 + a1) * (b0 + b1) ∧ a1 * b1 ≤ (a0 + a1) * (b0 + b1) - a0 * b0 := by
 rw [Nat.add_mul, Nat.mul_add, Nat.mul_add]; omega
structure Halves (a b k q1 q2 : Nat) (a0 a1 b0 b1 M : Nat) : Prop where
 ha : a = a0 + BB ^ k * a1
 hb : b = b0 + BB ^ k * b1
 i1 : (lim a0).length + (lim b0).length < M
 i2 : (lim a1).length + (lim b1).length < M
 i3 : (lim (a0 + a1)).length + (lim (b0 + b1)).length < M
 la0 : (lim a0).length ≤ k
 lb0 : (lim b0).length ≤ k
 la1 : (lim a1).length ≤ k + 1
 lb1 : (lim b1).length ≤ k + 1
 lm : (lim ((a0 + a1) * (b0 + b1))).length ≤ 2 * k + 4
theorem halves_of {a b k n q1 q2 M : Nat} (hn : n = max (lim a).length (lim b).length) (hk : k = n / 2) (hq1 : q1 = min k (lim a).length) (hq2 : q2 = min k (lim b).length) (hM : (lim a).length + (lim b).length = M) (hlg : 40 ≤ min (lim a).length (lim b).length) :
 Halves a b k q1 q2 (val ((lim a).take q1)) (val ((lim a).drop q1)) (val ((lim b).take q2)) (val ((lim b).drop q2)) M := by
 obtain ⟨p1, p2, p3⟩ := half_parts a k q1 hq1
 obtain ⟨r1, r2, r3⟩ := half_parts b k q2 hq2
 have p4 : (lim (val ((lim a).drop q1))).length = (lim a).length - q1 := by rw [← p3, List.length_drop]
 have r4 : (lim (val ((lim b).drop q2))).length = (lim b).length - q2 := by rw [← r3, List.length_drop]
 generalize val ((lim a).take q1) = a0 at *
 generalize val ((lim a).drop q1) = a1 at *
 generalize val ((lim b).take q2) = b0 at *
 generalize val ((lim b).drop q2) = b1 at *
 have s1 : (lim (a0 + a1)).length ≤ k + 2 := sum_length (k := k + 1) (by omega) (by omega)
 have s2 : (lim (b0 + b1)).length ≤ k + 2 := sum_length (k := k + 1) (by omega) (by omega)
 exact ⟨p1, r1, by omega, by omega, by omega, by omega, by omega, by omega, by omega, by have := prod_length s1 s2; omega⟩
end Nm
end Go.Proofs.YtjghnghceeijeaaGreatDoor
namespace Go.Proofs.YtjghnghceeijeaaGreatDoor
namespace Nm
open Go.RowKit Go.Shelf Go.BigFrame
attribute [local go_sem] Oper.semAt_some
abbrev hv (Bh : Nat) : Value := .func (.func 207) #[] #[.pointer (some ⟨Bh, 0, none⟩)]
theorem cell_keep {W W' : World} {B : Nat} {v : Value} (h : W.cell? ⟨B, 0, none⟩ = some v) (hb : Below W.heap.size W W') : W'.cell? ⟨B, 0, none⟩ = some v :=
 (hb.cell (p := ⟨B, 0, none⟩) (World.block_lt_of_cell? W _ h)).trans h
theorem Rd.drop {w : World} {b o : Nat} {l : List Nat} (h : Rd w (some ⟨b, o, none⟩) l) (q : Nat) (A' : Option Addr) (hA : q < l.length → A' = some ⟨b, o + q, none⟩) : Rd w A' (l.drop q) := by
 refine ⟨fun i hi => ?_, words_drop h.words q, by have := h.small; rw [List.length_drop]; omega⟩
 rw [List.length_drop] at hi
 obtain ⟨b', o', e, hc⟩ := h.cell (q + i) (by omega)
 cases e
 refine ⟨b, o + q, hA (by omega), ?_⟩
 rw [Nat.add_assoc, hc, List.getD_eq_getElem?_getD, List.getD_eq_getElem?_getD, List.getElem?_drop]
theorem Rd.on {W W' : World} {A : Option Addr} {l : List Nat} (h : Rd W A l) (hb : Below W.heap.size W W') : Rd W' A l := h.below hb rfl
theorem halves_short (Bh : Nat) (A1 A2 : Option Addr) (c1 c2 : Nat) (l1 l2 : List Nat) (w : World) (h1 : Rd w A1 l1) (h2 : Rd w A2 l2) (hc1 : l1.length ≤ c1) (hc2 : l2.length ≤ c2) (hs1 : l1.length ≤ 65536) (hs2 : l2.length ≤ 65536)
 (hsh : min l1.length l2.length < 40) :
 Calls Tryz.prog 207 #[.slice A1 l1.length c1, .slice A2 l2.length c2, .pointer (some ⟨Bh, 0, none⟩)] w (RetNat (val l1 * val l2) w) := by
 go_enter Tryz.func207, Tryz.ntmps207
 go_wp2_with first
  | (go_at_call 208; refine (long_calls A1 A2 c1 c2 l1 l2 _ h1 h2 hc1 hc2 hs1 hs2).mono ?_; rintro e w' ⟨A, c, rfl, hr1, hr2, hr3⟩)
 go_ret
 exact ⟨_, _, rfl, hr1, hr2, hr3⟩
theorem halves_step (Bh M : Nat) (hM : M ≤ 32768)
 (ih : ∀ (x y : Nat) (A A' : Option Addr) (c c' : Nat) (W : World), (lim x).length + (lim y).length < M → Rd W A (lim x) → Rd W A' (lim y) → (lim x).length ≤ c → (lim y).length ≤ c' → W.cell? ⟨Bh, 0, none⟩ = some (hv Bh) →
  Calls Tryz.prog 207 #[.slice A (lim x).length c, .slice A' (lim y).length c', .pointer (some ⟨Bh, 0, none⟩)] W (RetNat (x * y) W))
 (A1 A2 : Option Addr) (c1 c2 a b : Nat) (w : World) (hlen : (lim a).length + (lim b).length = M) (h1 : Rd w A1 (lim a)) (h2 : Rd w A2 (lim b)) (hc1 : (lim a).length ≤ c1) (hc2 : (lim b).length ≤ c2)
 (hB : w.cell? ⟨Bh, 0, none⟩ = some (hv Bh)) (hlg : 40 ≤ min (lim a).length (lim b).length) :
 Calls Tryz.prog 207 #[.slice A1 (lim a).length c1, .slice A2 (lim b).length c2, .pointer (some ⟨Bh, 0, none⟩)] w (RetNat (a * b) w) := by
 obtain ⟨n, hn, hn'⟩ : ∃ n : Nat, max ((lim a).length : Int) ((lim b).length : Int) = (n : Int) ∧ Hid (n = max (lim a).length (lim b).length) := ⟨max (lim a).length (lim b).length, by omega, rfl⟩
 obtain ⟨k, hk, hk'⟩ : ∃ k : Nat, (n : Int) / 2 = (k : Int) ∧ Hid (k = n / 2) := ⟨n / 2, by omega, rfl⟩
 obtain ⟨q1, hq1, hq1'⟩ : ∃ q : Nat, min (k : Int) ((lim a).length : Int) = (q : Int) ∧ Hid (q = min k (lim a).length) := ⟨min k (lim a).length, by omega, rfl⟩
 obtain ⟨q2, hq2, hq2'⟩ : ∃ q : Nat, min (k : Int) ((lim b).length : Int) = (q : Int) ∧ Hid (q = min k (lim b).length) := ⟨min k (lim b).length, by omega, rfl⟩
 have hH := halves_of hn'.out hk'.out hq1'.out hq2'.out hlen hlg
 obtain ⟨-, hp2, hp3⟩ := half_parts a k q1 hq1'.out
 obtain ⟨-, hr2, hr3⟩ := half_parts b k q2 hq2'.out
 have hnb : n ≤ 32768 := by have := hn'.out; omega
 have hkb : k ≤ 16384 := by have := hk'.out; omega
 have hq1b : q1 ≤ (lim a).length := by have := hq1'.out; omega
 have hq2b : q2 ≤ (lim b).length := by have := hq2'.out; omega
 have hl1b : (lim a).length ≤ 32768 := by omega
 have hl2b : (lim b).length ≤ 32768 := by omega
 obtain ⟨b1, o1, rfl⟩ := h1.head (by omega)
 obtain ⟨b2, o2, rfl⟩ := h2.head (by omega)
 have e1 : ((lim a).take q1).length = q1 := by rw [List.length_take]; omega
 have e2 : ((lim b).take q2).length = q2 := by rw [List.length_take]; omega
 have d1 : ((lim a).drop q1).length = (lim a).length - q1 := List.length_drop
 have d2 : ((lim b).drop q2).length = (lim b).length - q2 := List.length_drop
 have hT1 : ∀ W, Below w.heap.size w W → Calls Tryz.prog 164 #[.slice (some ⟨b1, o1, none⟩) q1 c1] W fun e w' => e = .returned (.slice (some ⟨b1, o1, none⟩) (lim (val ((lim a).take q1))).length c1) ∧ w' = W := by
  intro W hW
  have := trim_calls (some ⟨b1, o1, none⟩) c1 ((lim a).take q1) W ((h1.take q1).on hW) (by omega)
  rw [e1] at this
  exact this.mono fun e w' h => ⟨h.1, h.2.symm⟩
 have hT2 : ∀ W, Below w.heap.size w W → Calls Tryz.prog 164 #[.slice (some ⟨b2, o2, none⟩) q2 c2] W fun e w' => e = .returned (.slice (some ⟨b2, o2, none⟩) (lim (val ((lim b).take q2))).length c2) ∧ w' = W := by
  intro W hW
  have := trim_calls (some ⟨b2, o2, none⟩) c2 ((lim b).take q2) W ((h2.take q2).on hW) (by omega)
  rw [e2] at this
  exact this.mono fun e w' h => ⟨h.1, h.2.symm⟩
 have hra := (h1.take q1).trim
 have hrb := (h2.take q2).trim
 unfold trim at hra hrb
 have hda := h1.drop q1
 have hdb := h2.drop q2
 rw [hp3] at hda d1
 rw [hr3] at hdb d2
 generalize val ((lim a).take q1) = a0 at *
 generalize val ((lim a).drop q1) = a1 at *
 generalize val ((lim b).take q2) = b0 at *
 generalize val ((lim b).drop q2) = b1' at *
 clear hp3 hr3 e1 e2 hn' hk' hq1' hq2'
 have hq1c := fun (r : Nat) (W : World) (h : Below w.heap.size w W) => Calls.quiet_of_same (n := r) (hT1 (W.drewN r) (below_drewN h r))
 have hq2c := fun (r : Nat) (W : World) (h : Below w.heap.size w W) => Calls.quiet_of_same (n := r) (hT2 (W.drewN r) (below_drewN h r))
 have D1 := Lib.hid d1
 have D2 := Lib.hid d2
 have HH := Lib.hid hH
 clear hH d1 d2 hT1 hT2
 go_enter Tryz.func207, Tryz.ntmps207
 go_wp2_with fail
 go_quiet ((go_at_call 164; exact hq1c _ w (Below.refl _ _)))
 generalize hA9 : (if c1 = q1 then (some ⟨b1, o1, none⟩ : Option Addr) else some ⟨b1, o1 + q1, none⟩) = A9
 have hr9 := hda A9 (by intro h; rw [← hA9, if_neg (by omega)])
 clear hA9 hda hq1c
 rw [← D1.out]
 obtain ⟨w1, hw1⟩ : ∃ w1, w.drewN nq = w1 := ⟨_, rfl⟩
 have hbw1 : Below w.heap.size w w1 := by rw [← hw1]; exact below_drewN (Below.refl _ _) _
 rw [hw1]
 clear hw1
 go_wp2_with fail
 go_quiet ((go_at_call 164; exact hq2c _ w1 hbw1))
 generalize hA11 : (if c2 = q2 then (some ⟨b2, o2, none⟩ : Option Addr) else some ⟨b2, o2 + q2, none⟩) = A11
 have hr11 := hdb A11 (by intro h; rw [← hA11, if_neg (by omega)])
 clear hA11 hdb hq2c
 rw [← D2.out]
 obtain ⟨w2, hw2⟩ : ∃ w2, w1.drewN nq = w2 := ⟨_, rfl⟩
 have hbw2 : Below w.heap.size w w2 := by rw [← hw2]; exact below_drewN hbw1 _
 rw [hw2]
 clear hw2
 replace hr9 := hr9.on hbw2
 replace hr11 := hr11.on hbw2
 replace hra := hra.on hbw2
 replace hrb := hrb.on hbw2
 replace hB := cell_keep hB hbw2
 clear hbw1
 have hBl := World.block_lt_of_cell? w2 _ hB
 have hcx1 : (lim a0).length ≤ c1 := by have := hp2; omega
 have hcx2 : (lim b0).length ≤ c2 := by have := hr2; omega
 have hcd1 : (lim a1).length ≤ c1 - q1 := by have := D1.out; omega
 have hcd2 : (lim b1').length ≤ c2 - q2 := by have := D2.out; omega
 obtain ⟨L, hL⟩ : ∃ L, a0 * b0 = L := ⟨_, rfl⟩
 obtain ⟨H, hH⟩ : ∃ L, a1 * b1' = L := ⟨_, rfl⟩
 obtain ⟨S1, hS1⟩ : ∃ L, a0 + a1 = L := ⟨_, rfl⟩
 obtain ⟨S2, hS2⟩ : ∃ L, b0 + b1' = L := ⟨_, rfl⟩
 obtain ⟨Mm, hMm⟩ : ∃ L, S1 * S2 = L := ⟨_, rfl⟩
 obtain ⟨k2, hk2, hk2'⟩ : ∃ k2 : Nat, 2 * (k : Int) = (k2 : Int) ∧ Hid (k2 = 2 * k) := ⟨2 * k, by omega, rfl⟩
 have hk2b : k2 ≤ 32768 := by have := hk2'.out; omega
 have hparts := mul_le_parts a0 a1 b0 b1'
 rw [hS1, hS2, hMm, hL, hH] at hparts
 have hsum := halves_sum HH.out.ha HH.out.hb
 rw [hS1, hS2, hMm, hL, hH] at hsum
 have hlm := HH.out.lm
 have hi3' := HH.out.i3
 rw [hS1, hS2] at hi3' hlm
 rw [hMm] at hlm
 have hlL := prod_length HH.out.la0 HH.out.lb0
 have hlH := prod_length HH.out.la1 HH.out.lb1
 rw [hL] at hlL
 rw [hH] at hlH
 have hl5 := length_mono hparts.1
 have hl6 := length_mono hparts.2
 have hl7 := length_mono (show Mm - L ≤ Mm by omega)
 have hl8 := length_mono (show Mm - L - H ≤ Mm by omega)
 have hla0 := HH.out.la0
 have hla1 := HH.out.la1
 have hlb0 := HH.out.lb0
 have hlb1 := HH.out.lb1
 have hl9 := up_length (k := k) (Nat.le_trans hl8 hlm)
 have hl10 := up_length (k := k2) hlH
 have hl11 := sum_length (x := L) (y := BB ^ k * (Mm - L - H)) (k := 3 * k + 4) (by omega) (by omega)
 have hPP : BB ^ k2 = BB ^ k * BB ^ k := by rw [hk2'.out, ← Nat.pow_add]; congr 1; omega
 rw [← hPP] at hsum
 obtain ⟨md, hmd⟩ : ∃ L', Mm - L - H = L' := ⟨_, rfl⟩
 obtain ⟨m1, hm1⟩ : ∃ L', Mm - L = L' := ⟨_, rfl⟩
 rw [hm1] at hmd
 obtain ⟨u1, hu1⟩ : ∃ L', BB ^ k * md = L' := ⟨_, rfl⟩
 obtain ⟨u2, hu2⟩ : ∃ L', BB ^ k2 * H = L' := ⟨_, rfl⟩
 rw [hm1, hmd] at hsum
 rw [hu1, hu2] at hsum
 rw [hu2] at hl10
 rw [hm1, hmd] at hl8 hl9 hl11
 rw [hu1] at hl9 hl11
 rw [hm1] at hl6 hl7
 have hpL := Lib.hid hparts
 have HL := Lib.hid hL
 have HHH := Lib.hid hH
 have HS1 := Lib.hid hS1
 have HS2 := Lib.hid hS2
 have HMm := Lib.hid hMm
 have Hmd := Lib.hid hmd
 have Hm1 := Lib.hid hm1
 have Hu1 := Lib.hid hu1
 have Hu2 := Lib.hid hu2
 have Hsum := Lib.hid hsum
 rw [hm1] at hparts
 clear hPP hsum hmd hu1 hu2 
 have hlow : ∀ W, Below w2.heap.size w2 W → Calls Tryz.prog 207 #[.slice (some ⟨b1, o1, none⟩) (lim a0).length c1, .slice (some ⟨b2, o2, none⟩) (lim b0).length c2, .pointer (some ⟨Bh, 0, none⟩)] W (RetNat L W) := by
  rw [← hL]; exact fun W hW => ih a0 b0 _ _ _ _ W HH.out.i1 (hra.on hW) (hrb.on hW) hcx1 hcx2 (cell_keep hB hW)
 have hhigh : ∀ W, Below w2.heap.size w2 W → Calls Tryz.prog 207 #[.slice A9 (lim a1).length (c1 - q1), .slice A11 (lim b1').length (c2 - q2), .pointer (some ⟨Bh, 0, none⟩)] W (RetNat H W) := by
  rw [← hH]; exact fun W hW => ih a1 b1' _ _ _ _ W HH.out.i2 (hr9.on hW) (hr11.on hW) hcd1 hcd2 (cell_keep hB hW)
 clear hL hH hS1 hS2 hMm hm1 hparts
 go_wp2_with fail
 go_region_held3 (fun w' => w'.cell? ⟨Bh, 0, none⟩ = some (.func (.func 207) #[] #[.pointer (some ⟨Bh, 0, none⟩)])) ((first | assumption | exact hB))
  ((first
   | (go_at_call 207; refine (hhigh w3 hb3).mono ?_; rintro e w4 ⟨Ahi, chi, rfl, hi1, hi2, hi3⟩; have hb4 : Below w2.heap.size w2 w4 := hb3.trans (hi3.mono hb3.size); have hB4 := cell_keep hB hb4)
   | (go_at_call 207; refine (hlow w2.drew (below_drewN (Below.refl _ w2) 1)).mono ?_; rintro e w3 ⟨Alo, clo, rfl, lo1, lo2, lo3⟩; have hb3 : Below w2.heap.size w2 w3 := (below_drewN (Below.refl _ w2) 1).trans lo3; have hB3 := cell_keep hB hb3)))
 clear hlow hhigh
 replace lo2 := lo2.on hi3
 replace hr9 := hr9.on hb4
 replace hr11 := hr11.on hb4
 replace hra := hra.on hb4
 replace hrb := hrb.on hb4
 have hb04 : Below w.heap.size w w4 := hbw2.trans (hb4.mono hbw2.size)
 clear hB hB3 hb3 hi3 lo3 hb4 hBl
 have hs1 : ∀ W, Below w4.heap.size w4 W → Calls Tryz.prog 160 #[.slice (some ⟨b1, o1, none⟩) (lim a0).length c1, .slice A9 (lim a1).length (c1 - q1)] W (RetNat S1 W) := by
  intro W hW
  have := add_calls (some ⟨b1, o1, none⟩) A9 c1 (c1 - q1) (lim a0) (lim a1) W (hra.on hW) (hr9.on hW) hcx1 hcd1 (by omega) (by omega)
  rwa [val_lim, val_lim, HS1.out] at this
 have hs2 : ∀ W, Below w4.heap.size w4 W → Calls Tryz.prog 160 #[.slice (some ⟨b2, o2, none⟩) (lim b0).length c2, .slice A11 (lim b1').length (c2 - q2)] W (RetNat S2 W) := by
  intro W hW
  have := add_calls (some ⟨b2, o2, none⟩) A11 c2 (c2 - q2) (lim b0) (lim b1') W (hrb.on hW) (hr11.on hW) hcx2 hcd2 (by omega) (by omega)
  rwa [val_lim, val_lim, HS2.out] at this
 have hmm : ∀ W A A' c c', Below w4.heap.size w4 W → Rd W A (lim S1) → Rd W A' (lim S2) → (lim S1).length ≤ c → (lim S2).length ≤ c' → Calls Tryz.prog 207 #[.slice A (lim S1).length c, .slice A' (lim S2).length c', .pointer (some ⟨Bh, 0, none⟩)] W (RetNat Mm W) := by
  intro W A A' c c' hW r1 r2 n1 n2
  have := ih S1 S2 A A' c c' W hi3' r1 r2 n1 n2 (cell_keep hB4 hW)
  rwa [HMm.out] at this
 have hd1 : ∀ W A c, Below w4.heap.size w4 W → Rd W A (lim Mm) → (lim Mm).length ≤ c → Calls Tryz.prog 201 #[.slice A (lim Mm).length c, .slice Alo (lim L).length clo] W (RetNat m1 W) := by
  intro W A c hW r1 n1
  have := sub_calls A Alo c clo (lim Mm) (lim L) W r1 (lo2.on hW) n1 lo1 (by rw [val_lim, val_lim]; exact hpL.out.1) hl5 (by omega)
  rwa [val_lim, val_lim, Hm1.out] at this
 have hd2 : ∀ W A c, Below w4.heap.size w4 W → Rd W A (lim m1) → (lim m1).length ≤ c → Calls Tryz.prog 201 #[.slice A (lim m1).length c, .slice Ahi (lim H).length chi] W (RetNat md W) := by
  intro W A c hW r1 n1
  have := sub_calls A Ahi c chi (lim m1) (lim H) W r1 (hi2.on hW) n1 hi1 (by rw [val_lim, val_lim, ← Hm1.out]; exact hpL.out.2) hl6 (by omega)
  rwa [val_lim, val_lim, Hmd.out] at this
 have hup1 : ∀ W A c, Below w4.heap.size w4 W → Rd W A (lim md) → (lim md).length ≤ c → Calls Tryz.prog 209 #[.slice A (lim md).length c, .int .i64 (k : Int)] W (RetNat u1 W) := by
  intro W A c hW r1 n1
  have := up_calls A c k (lim md) W r1 n1 (canon_lim _) (by omega) (by omega)
  rwa [val_lim, Hu1.out] at this
 have hup2 : ∀ W, Below w4.heap.size w4 W → Calls Tryz.prog 209 #[.slice Ahi (lim H).length chi, .int .i64 (k2 : Int)] W (RetNat u2 W) := by
  intro W hW
  have := up_calls Ahi chi k2 (lim H) W (hi2.on hW) hi1 (canon_lim _) (by omega) (by omega)
  rwa [val_lim, Hu2.out] at this
 have ha1 : ∀ W A c, Below w4.heap.size w4 W → Rd W A (lim u1) → (lim u1).length ≤ c → Calls Tryz.prog 160 #[.slice Alo (lim L).length clo, .slice A (lim u1).length c] W (RetNat (L + u1) W) := by
  intro W A c hW r1 n1
  have := add_calls Alo A clo c (lim L) (lim u1) W (lo2.on hW) r1 lo1 n1 (by omega) (by omega)
  rwa [val_lim, val_lim] at this
 have ha2 : ∀ W A c A' c', Rd W A (lim (L + u1)) → (lim (L + u1)).length ≤ c → Rd W A' (lim u2) → (lim u2).length ≤ c' → Calls Tryz.prog 160 #[.slice A (lim (L + u1)).length c, .slice A' (lim u2).length c'] W (RetNat (a * b) W) := by
  intro W A c A' c' r1 n1 r2 n2
  have := add_calls A A' c c' (lim (L + u1)) (lim u2) W r1 r2 n1 n2 (by omega) (by omega)
  rwa [val_lim, val_lim, Hsum.out] at this
 go_wp2_with fail
 go_region_held3 (fun w' => w'.cell? ⟨Bh, 0, none⟩ = some (.func (.func 207) #[] #[.pointer (some ⟨Bh, 0, none⟩)])) ((first | assumption | exact hB4))
  ((first
   | (go_at_call 207; refine (hmm w6 A5 A6 c5 c6 hb6 (r5.on x6) r6 n5 n6).mono ?_; rintro e w7 ⟨A7, c7, rfl, n7, r7, x7⟩; have hb7 : Below w4.heap.size w4 w7 := hb6.trans (x7.mono hb6.size); have hB7 := cell_keep hB4 hb7)
   | (go_at_call 201; refine (hd2 w8 A8 c8 hb8 r8 n8).mono ?_; rintro e w9 ⟨A99, c9, rfl, n9, r99, x9⟩; have hb9 : Below w4.heap.size w4 w9 := hb8.trans (x9.mono hb8.size); have hB9 := cell_keep hB4 hb9)
   | (go_at_call 201; refine (hd1 w7 A7 c7 hb7 r7 n7).mono ?_; rintro e w8 ⟨A8, c8, rfl, n8, r8, x8⟩; have hb8 : Below w4.heap.size w4 w8 := hb7.trans (x8.mono hb7.size); have hB8 := cell_keep hB4 hb8)
   | (go_at_call 160; refine (hs2 w5 hb5).mono ?_; rintro e w6 ⟨A6, c6, rfl, n6, r6, x6⟩; have hb6 : Below w4.heap.size w4 w6 := hb5.trans (x6.mono hb5.size); have hB6 := cell_keep hB4 hb6)
   | (go_at_call 160; refine (hs1 w4.drew (below_drewN (Below.refl _ w4) 1)).mono ?_; rintro e w5 ⟨A5, c5, rfl, n5, r5, x5⟩; have hb5 : Below w4.heap.size w4 w5 := (below_drewN (Below.refl _ w4) 1).trans x5; have hB5 := cell_keep hB4 hb5)))
 clear hs1 hs2 hmm hd1 hd2
 go_wp2_with first
  | (go_at_call 209; refine (hup2 w11 hb11).mono ?_; rintro e w12 ⟨A12, c12, rfl, n12, r12, x12⟩; have hb12 : Below w4.heap.size w4 w12 := hb11.trans (x12.mono hb11.size))
  | (go_at_call 209; refine (hup1 w9 A99 c9 hb9 r99 n9).mono ?_; rintro e w10 ⟨A10, c10, rfl, n10, r10, x10⟩; have hb10 : Below w4.heap.size w4 w10 := hb9.trans (x10.mono hb9.size))
  | (go_at_call 160; refine (ha2 w12 A13 c13 A12 c12 (r13.on x12) n13 r12 n12).mono ?_; rintro e w14 ⟨A14, c14, rfl, n14, r14, x14⟩)
  | (go_at_call 160; refine (ha1 w10 A10 c10 hb10 r10 n10).mono ?_; rintro e w11 ⟨A13, c13, rfl, n13, r13, x11⟩; have hb11 : Below w4.heap.size w4 w11 := hb10.trans (x11.mono hb10.size))
 go_ret
 exact ⟨_, _, rfl, n14, r14, hb04.trans ((hb12.trans (x14.mono hb12.size)).mono hb04.size)⟩
theorem halves_calls (Bh : Nat) (M : Nat) : M ≤ 32768 → ∀ (x y : Nat) (A A' : Option Addr) (c c' : Nat) (W : World), (lim x).length + (lim y).length = M → Rd W A (lim x) → Rd W A' (lim y) → (lim x).length ≤ c → (lim y).length ≤ c' → W.cell? ⟨Bh, 0, none⟩ = some (hv Bh) →
      Calls Tryz.prog 207 #[.slice A (lim x).length c, .slice A' (lim y).length c', .pointer (some ⟨Bh, 0, none⟩)] W (RetNat (x * y) W) := by
 induction M using Nat.strongRecOn with
 | ind M ih =>
  intro hM x y A A' c c' W hlen h1 h2 hc1 hc2 hB
  rcases Nat.lt_or_ge (min (lim x).length (lim y).length) 40 with h | h
  · have := halves_short Bh A A' c c' (lim x) (lim y) W h1 h2 hc1 hc2 (by omega) (by omega) h
    rwa [val_lim, val_lim] at this
  · exact halves_step Bh M hM (fun x y A A' c c' W hlt h1 h2 hc1 hc2 hB => ih _ hlt (by omega) x y A A' c c' W rfl h1 h2 hc1 hc2 hB) A A' c c' x y W hlen h1 h2 hc1 hc2 hB h
theorem mul_calls (A1 A2 : Option Addr) (c1 c2 : Nat) (l1 l2 : List Nat) (w : World) (h1 : Rd w A1 l1) (h2 : Rd w A2 l2) (hc1 : l1.length ≤ c1) (hc2 : l2.length ≤ c2) (k1 : Canon l1) (k2 : Canon l2) (hs : l1.length + l2.length ≤ 32768) :
 Calls Tryz.prog 158 #[.slice A1 l1.length c1, .slice A2 l2.length c2] w (RetNat (val l1 * val l2) w) := by
 have hb : ∀ o, Below w.heap.size w (w.alloc o) := fun o => (Below.refl _ _).alloc (Nat.le_refl _) _
 have hh : ∀ t, Calls Tryz.prog 207 #[.slice A1 l1.length c1, .slice A2 l2.length c2, .pointer (some ⟨w.heap.size, 0, none⟩)] (w.alloc (.cells #[hv w.heap.size] t)) (RetNat (val l1 * val l2) (w.alloc (.cells #[hv w.heap.size] t))) := by
  intro t
  have := halves_calls w.heap.size _ hs (val l1) (val l2) A1 A2 c1 c2 (w.alloc (.cells #[hv w.heap.size] t)) (by rw [lim_val k1, lim_val k2]) (by rw [lim_val k1]; exact h1.on (hb _)) (by rw [lim_val k2]; exact h2.on (hb _)) (by rw [lim_val k1]; exact hc1) (by rw [lim_val k2]; exact hc2)
   (Boxed.new w t (hv w.heap.size)).cell
  rwa [lim_val k1, lim_val k2] at this
 go_enter Tryz.func158, Tryz.ntmps158
 go_wp2_with first
  | (go_at_call 207; refine (hh _).mono ?_; rintro e w' ⟨A, c, rfl, r1, r2, r3⟩)
 go_ret
 exact ⟨_, _, rfl, r1, r2, (hb _).trans (r3.mono (by simp))⟩
end Nm
end Go.Proofs.YtjghnghceeijeaaGreatDoor
