/-
  The product limb by limb: the law of a loop whose variables lie in boxes; the walk. (printed by mkQ.py)
  The product by halves: the plain arithmetic.
  The product by halves: the walk.
  Signed sums, whole, order: the walks.
  Order, formed, bitsOf, power: the walks.
  bitsOf, power, root: the walks.
  Newton's step towards a root: the plain arithmetic.
  root: the walk.
  try: the deferred closures; the walk.
  The closures of Add and Sub.
-/
import Derived.Test.YtlhmbbpkhahbeaaDoorNumMh2
import Derived.Deep.RegionHeld3
import Derived.Deep.CutRange
import Derived.BigQuiet
import Derived.Laws.EntriesVeiled
import Derived.Defers
import Derived.Recover
namespace Go.Proofs.YtlhmbbpkhahbeaaDoor
namespace Nm
open Go.RowKit Go.Shelf Go.BigFrame
attribute [local go_sem] Oper.semAt_some

theorem keeps_own {β : Type} {B b : Nat} {W0 : World} (hb : W0.heap.size ≤ b) : OwnFrom b (fun (_ : β) W => KeepsFrom B W0 W) := fun s X Y row h hg hr =>
  ⟨Nat.le_trans h.size hg.size, fun k o hB hk ho => by
    have h1 := h.same k o hB hk ho
    exact (hg.block k (Array.getElem?_eq_some_iff.1 h1).1 (fun e => by
      have := (hr k e.symm).1
      have := (Array.getElem?_eq_some_iff.1 hk).1
      omega)).trans h1⟩

theorem size_own {β : Type} {n b : Nat} : OwnFrom b (fun (_ : β) (W : World) => n ≤ W.heap.size) := fun _ _ _ _ h hg _ => Nat.le_trans h hg.size

section
variable {F : Fence} {n : Nat} {P : Program}
/-- the loop outside every round, its variables in boxes -/
theorem wpIn_limbs_b {g : Operand} {ps : Array Tmp} {assign body : Code} {Q : Exit → Act → World → Prop} {a : Act} {w : World} {l : List Nat} {n₀ : Nat}
    (hro : F.round = none) (h1 : 1 ≤ n) {gf : Nat} {lb : Array Value} (hg : a.eval g = .func (.func gf) #[] lb) (hFg : F.fn gf) (eg : ∀ args w, (callFunc gf args).run P w = .ok (.enter gf args) w)
    {w0 : World} (hseq : LimbSeq F (n - 1) P gf lb l n₀ w0) (hn₀ : n₀ ≤ w.heap.size) (hb0 : Below w0.heap.size w0 w) (hps : ps.size = 2)
    (I : Nat → World → Prop) (hI : OwnFrom w.heap.size I) (h0 : I 0 w) (E : Nat → Nat → World → Prop) (hE : ∀ k B, OwnFrom w.heap.size (fun (_ : Unit) W => E k B W))
    (hround : ∀ (k : Nat) (W : World), I k W → k < l.length →
      assign.wpIn (F.inRound (w.heap.size + 1)) (n - 1 - 1) P (Exit.then (fun a' W' => KeepsFrom w.heap.size W W' ∧ Below n₀ W W' ∧ I k W' ∧ ∃ B, E k B W' ∧ ∀ W2, (∃ r, W2.heap[w.heap.size + 1]? = some (.loop r)) → I k W2 → E k B W2 →
        body.wpIn (F.inRound (w.heap.size + 1)) (n - 1 - 1) P (limbPost w.heap.size n₀ (I (k + 1)) W2) a' W2) (fun _ _ _ => False)) { tmps := (ps.zip #[.int .i64 (k : Int), .int .u32 (l.getD k 0 : Nat)]).foldl (fun t (p, v) => t.setIfInBounds p v) a.tmps, defers := [] } W)
    (hdone : ∀ (D : Nat) (W : World), w.heap.size ≤ D → I l.length W → W.heap[D]? = some (.deferred (some [])) → Q .normal { a with defers := { target := .collected D, args := #[] } :: a.defers } W) :
    (Code.rangeFunc g ps assign body).wpIn F n P Q a w :=
  wpIn_limbs hro h1 hg hFg eg hseq hn₀ hb0 hps I hI h0
    (fun k a' W => ∃ B, E k B W ∧ ∀ W2, (∃ r, W2.heap[w.heap.size + 1]? = some (.loop r)) → I k W2 → E k B W2 → body.wpIn (F.inRound (w.heap.size + 1)) (n - 1 - 1) P (limbPost w.heap.size n₀ (I (k + 1)) W2) a' W2)
    (fun k a' s X Y row hs hg hr => by obtain ⟨B, hb, h⟩ := hs; exact ⟨B, hE k B () X Y row hb hg hr, h⟩)
    (fun k W K hi hk hK => wpIn_mono (hround k W hi hk) (fun e a' W' h => by
      cases e with
      | normal => obtain ⟨h1, h2, h3, h4⟩ := h; exact hK _ _ h1 h2 h3 h4
      | ret => exact h.elim
      | exit id => exact h.elim
      | goto t => exact h.elim
      | panic ch => exact h.elim
      | outgrown => exact h.elim)) (fun k a' W hr hi e hk => by obtain ⟨B, hb, h⟩ := e; exact h W hr hi hb) hdone
end

/-- a step of the inner loop -/
theorem long_step {P B S O Y cy x y u t : Nat} (ht : t = cy + (x * y + u)) (h : O + P * cy = S + x * Y) : (O + P * (t % B)) + P * B * (t / B) = (S + P * u) + x * (Y + P * y) := by
  have e := Nat.mod_add_div t B
  have e2 : P * (t % B) + P * B * (t / B) = P * t := by rw [Nat.mul_assoc, ← Nat.mul_add, e]
  have e3 : x * (Y + P * y) = x * Y + P * (x * y) := by rw [Nat.mul_add, Nat.mul_left_comm]
  have e4 : P * t = P * cy + P * (x * y) + P * u := by rw [ht, ← Nat.mul_add, ← Nat.mul_add]; congr 1; omega
  rw [e3]
  omega

set_option maxRecDepth 100000 in
set_option maxHeartbeats 4000000 in
theorem long_calls (A1 A2 : Option Addr) (c1 c2 : Nat) (l1 l2 : List Nat) (w : World) (h1 : Rd w A1 l1) (h2 : Rd w A2 l2) (_hc1 : l1.length ≤ c1) (_hc2 : l2.length ≤ c2) (hs1 : l1.length ≤ 65536) (hs2 : l2.length ≤ 65536) :
    Calls Tryd.prog 112 #[.slice A1 l1.length c1, .slice A2 l2.length c2] w (RetNat (val l1 * val l2) w) := by
  obtain ⟨N, hN, hN'⟩ : ∃ N : Nat, (l1.length : Int) + (l2.length : Int) = (N : Int) ∧ Hid (N = l1.length + l2.length) := ⟨l1.length + l2.length, by omega, rfl⟩
  have hNb : N ≤ 131072 := by have := hN'.out; omega
  have hmk := make_nat (N : Int) (N : Int) N N rfl rfl (Nat.le_refl _) (by omega)
  have hwide : ∀ f, Fence.wide.fn f := fun _ => trivial
  refine (callsIn_wide (n := 5)).1 ?_
  refine callsIn_of_wp_marks Tryd.func112 rfl trivial ?_ rfl
  simp only [Tryd.ntmps112, List.size_toArray, List.length_cons, List.length_nil, Nat.reduceAdd, Nat.reduceSub, Array.replicate_succ, Array.replicate_zero, List.push_toArray, List.append_toArray, List.nil_append, List.cons_append]
  gi_wp2_with (gi_at_call 100; refine (callsIn_wide.2 (limbs_calls _ _ _ _)).mono ?_; rintro e w2 ⟨rfl, rfl⟩)
  clear hmk
  obtain ⟨w3, hw3⟩ : ∃ w3, allocs w [.cells #[.slice A2 l2.length c2] 79, .cells (warr (List.replicate N 0)) 72, .cells #[.slice (some ⟨w.heap.size + 1, 0, none⟩) N N] 79, .cells #[.slice A1 l1.length c1] 79] = w3 := ⟨_, rfl⟩
  have hget := allocs_get w [.cells #[.slice A2 l2.length c2] 79, .cells (warr (List.replicate N 0)) 72, .cells #[.slice (some ⟨w.heap.size + 1, 0, none⟩) N N] 79, .cells #[.slice A1 l1.length c1] 79]
  have hs3 := allocs_stp w [.cells #[.slice A2 l2.length c2] 79, .cells (warr (List.replicate N 0)) 72, .cells #[.slice (some ⟨w.heap.size + 1, 0, none⟩) N N] 79, .cells #[.slice A1 l1.length c1] 79] (Nat.le_refl w.heap.size)
  have hsz3 := allocs_size w [.cells #[.slice A2 l2.length c2] 79, .cells (warr (List.replicate N 0)) 72, .cells #[.slice (some ⟨w.heap.size + 1, 0, none⟩) N N] 79, .cells #[.slice A1 l1.length c1] 79]
  rw [hw3] at hget hs3 hsz3
  simp only [allocs] at hw3
  rw [hw3]
  clear hw3
  replace hsz3 : w.heap.size + 4 ≤ w3.heap.size := by rw [hsz3]; exact Nat.le_refl _
  have hB0 : Boxed w3 w.heap.size 79 (.slice A2 l2.length c2) := hget 0 (by simp)
  have hB1 : Arr w3 (w.heap.size + 1) (List.replicate N 0) := arr_of (hget 1 (by simp))
  have hB2 : Boxed w3 (w.heap.size + 2) 79 (.slice (some ⟨w.heap.size + 1, 0, none⟩) N N) := hget 2 (by simp)
  have hB3 : Boxed w3 (w.heap.size + 3) 79 (.slice A1 l1.length c1) := hget 3 (by simp)
  clear hget
  have hr13 := h1.below hs3.below rfl
  refine wpIn_limbs_b (n₀ := w.heap.size) (l := l1) rfl (by omega) (gf := 122) (lb := #[.pointer (some ⟨w.heap.size + 3, 0, none⟩)]) rfl trivial (enters_of Tryd.func122 (by kernel_rfl) rfl)
    (limbs1_in _ (w.heap.size + 3) A1 c1 l1 w.heap.size w3 hB3.cell hr13 (by omega) (rd_block h1)) (by omega) (Below.refl _ _) rfl
    (fun k W => ∃ lo : List Nat, Boxed W w.heap.size 79 (.slice A2 l2.length c2) ∧ Arr W (w.heap.size + 1) (lo ++ List.replicate (l1.length - k) 0) ∧ Boxed W (w.heap.size + 2) 79 (.slice (some ⟨w.heap.size + 1, 0, none⟩) N N) ∧ Below w.heap.size w W ∧ w3.heap.size ≤ W.heap.size ∧ Hid (lo.length = k + l2.length) ∧ Words lo ∧ Hid (val lo = val (l1.take k) * val l2)) ?own ?start
    (fun k B W => w3.heap.size ≤ B ∧ Boxed W B 3 (.int .i64 (k : Int)) ∧ Boxed W (B + 1) 72 (.int .u32 ((l1.getD k 0 : Nat) : Int))) ?ownE ?round ?done
  case own =>
    rintro k X Y row ⟨lo, a0, a1, a2, hbl, hsz, rest⟩ hg hr
    exact ⟨lo, boxed_ownF _ _ _ (fun _ => _) k X Y row a0 hg hr, arr_ownF _ _ (fun _ => _) k X Y row a1 hg hr, boxed_ownF _ _ _ (fun _ => _) k X Y row a2 hg hr, ownFrom_below (Nat.le_refl _) (by omega) k X Y row hbl hg hr, size_own k X Y row hsz hg hr, rest⟩
  case start => exact ⟨List.replicate l2.length 0, hB0, by rw [List.replicate_append_replicate, show l2.length + (l1.length - 0) = N by have := hN'.out; omega]; exact hB1, hB2, hs3.below, Nat.le_refl _, by simp [Hid], words_replicate _, by simp [Hid, val, val_replicate]⟩
  case ownE =>
    rintro k B s X Y row ⟨a0, a1, a2⟩ hg hr
    exact ⟨a0, boxed_ownF _ _ _ (fun _ => _) k X Y row a1 hg hr, boxed_ownF _ _ _ (fun _ => _) k X Y row a2 hg hr⟩
  case round =>
    rintro k W ⟨lo, b0, ar, b2, hbl, hsz, hlo, low, hval⟩ hk
    obtain ⟨x, hx, hxb⟩ : ∃ x, Hid (l1.getD k 0 = x) ∧ x < 4294967296 := ⟨_, rfl, words_getD h1.words k⟩
    rw [hx.out]
    gi_wp2
    refine ⟨((KeepsOthers.alloc W _).trans (KeepsOthers.alloc _ _)).from _, ((Below.refl w.heap.size W).alloc hbl.size _).alloc (by have := hbl.size; simp; omega) _, ⟨lo, (b0.alloc _).alloc _, arr_alloc (arr_alloc ar _) _, (b2.alloc _).alloc _, (hbl.alloc hbl.size _).alloc (by have := hbl.size; simp; omega) _, by simp; omega, hlo, low, hval⟩,
      W.heap.size, ⟨hsz, (Boxed.new _ _ _).alloc _, by have := Boxed.new (W.alloc (.cells #[.int .i64 (k : Int)] 3)) 72 (.int .u32 (x : Int)); simpa using this⟩, ?_⟩
    generalize W.heap.size = B
    clear b0 ar b2 hbl hsz hlo low hval
    clear W
    clear lo
    rintro W2 ⟨r, hr⟩ ⟨lo, b0, ar, b2, hbl, hsz, hlo, low, hval⟩ ⟨hB, e0, e1⟩
    have gb0 := b0.cell
    have gb2 := b2.cell
    have ge0 := e0.cell
    have ge1 := e1.cell
    have tb0 := b0.lt
    have te1 := e1.lt
    have tar := arr_lt ar
    have hlol := hlo.out
    gi_wp2_with (gi_at_call 100; refine (CallsIn.inRound _ (callsIn_wide.2 (limbs_calls _ _ _ _))).mono ?_; rintro e w5 ⟨rfl, rfl⟩)
    obtain ⟨W5, hw3⟩ : ∃ W5, allocs W2 [.cells #[.int .u64 0] 102, .cells #[.slice A2 l2.length c2] 79] = W5 := ⟨_, rfl⟩
    have hget := allocs_get W2 [.cells #[.int .u64 0] 102, .cells #[.slice A2 l2.length c2] 79]
    have ht3 := allocs_stp W2 [.cells #[.int .u64 0] 102, .cells #[.slice A2 l2.length c2] 79] (Nat.le_refl W2.heap.size)
    have hsz3 := allocs_size W2 [.cells #[.int .u64 0] 102, .cells #[.slice A2 l2.length c2] 79]
    rw [hw3] at hget ht3 hsz3
    simp only [allocs] at hw3
    rw [hw3]
    clear hw3
    replace hsz3 : W2.heap.size + 2 ≤ W5.heap.size := by rw [hsz3]; exact Nat.le_refl _
    have hC0 : Boxed W5 W2.heap.size 102 (.int .u64 0) := hget 0 (by simp)
    have hC1 : Boxed W5 (W2.heap.size + 1) 79 (.slice A2 l2.length c2) := hget 1 (by simp)
    clear hget

    obtain ⟨pre, hpre⟩ : ∃ pre, lo.take k = pre := ⟨_, rfl⟩
    obtain ⟨seg, hseg⟩ : ∃ seg, lo.drop k = seg := ⟨_, rfl⟩
    have hlo2 : lo = pre ++ seg := by rw [← hpre, ← hseg, List.take_append_drop]
    have hprel : pre.length = k := by rw [← hpre, List.length_take]; omega
    have hsegl : seg.length = l2.length := by rw [← hseg, List.length_drop]; omega
    obtain ⟨post, hpost, hpost'⟩ : ∃ post, List.replicate (l1.length - k) 0 = 0 :: post ∧ post = List.replicate (l1.length - (k + 1)) 0 := ⟨List.replicate (l1.length - (k + 1)) 0, by rw [show l1.length - k = (l1.length - (k + 1)) + 1 by omega]; rfl, rfl⟩
    have ar5 : Arr W5 (w.heap.size + 1) (pre ++ (([] : List Nat) ++ seg.drop 0) ++ (0 :: post)) := by
      rw [List.nil_append, List.drop_zero, ← hlo2, ← hpost]; exact arr_below ar ht3.below (by omega)
    have b05 : Boxed W5 w.heap.size 79 (.slice A2 l2.length c2) := (ht3.below.block w.heap.size (by omega)).trans b0
    have b25 : Boxed W5 (w.heap.size + 2) 79 (.slice (some ⟨w.heap.size + 1, 0, none⟩) N N) := (ht3.below.block (w.heap.size + 2) (by omega)).trans b2
    have e05 : Boxed W5 B 3 (.int .i64 (k : Int)) := (ht3.below.block B (by omega)).trans e0
    have e15 : Boxed W5 (B + 1) 72 (.int .u32 (x : Int)) := (ht3.below.block (B + 1) (by omega)).trans e1
    have hr5 : W5.heap[w3.heap.size + 1]? = some (.loop r) := (ht3.below.block (w3.heap.size + 1) (Array.getElem?_eq_some_iff.1 hr).1).trans hr
    have wseg : Words seg := by rw [← hseg]; exact words_drop low k
    have wpre : Words pre := by rw [← hpre]; exact words_take low k
    have hvlo : val lo = val pre + BB ^ k * val seg := by rw [hlo2, val_append, hprel]
    have Hpost := Lib.hid hpost'
    have Hprel := Lib.hid hprel
    have Hsegl := Lib.hid hsegl
    have Hvlo := Lib.hid hvlo
    clear hpost' hprel hsegl hvlo hlo2 hpre hseg hpost ar b0 b2 e0 e1 gb0 gb2 ge0 ge1
    refine wpIn_limbs_in (n₀ := w.heap.size) (l := l2) (l₀ := w3.heap.size + 1) (r₀ := r) rfl hr5 (by omega) (gf := 122) (lb := #[.pointer (some ⟨W2.heap.size + 1, 0, none⟩)]) rfl trivial (enters_of Tryd.func122 (by kernel_rfl) rfl)
      (limbs1_in _ (W2.heap.size + 1) A2 c2 l2 w.heap.size W5 hC1.cell (h2.below (hbl.trans (ht3.below.mono hbl.size)) rfl) (by omega) (rd_block h2)) (by omega) (Below.refl _ _) rfl
      (fun j Y => ∃ (os : List Nat) (cy : Nat), Boxed Y w.heap.size 79 (.slice A2 l2.length c2) ∧ Arr Y (w.heap.size + 1) (pre ++ (os ++ seg.drop j) ++ (0 :: post)) ∧ Boxed Y (w.heap.size + 2) 79 (.slice (some ⟨w.heap.size + 1, 0, none⟩) N N) ∧ Boxed Y B 3 (.int .i64 (k : Int)) ∧ Boxed Y (B + 1) 72 (.int .u32 (x : Int)) ∧ Boxed Y W2.heap.size 102 (.int .u64 (cy : Int)) ∧
        KeepsFrom w3.heap.size W2 Y ∧ Below w.heap.size W2 Y ∧ W5.heap.size ≤ Y.heap.size ∧ cy < 4294967296 ∧ os.length = j ∧ Words os ∧ Hid (val os + BB ^ j * cy = val (seg.take j) + x * val (l2.take j)))
      ?own2 ?start2 ?round2 ?done2
    case own2 =>
      rintro j X Y row ⟨os, cy, a0, a1, a2, a3, a4, a5, a6, a7, a8, rest⟩ hg hr'
      exact ⟨os, cy, boxed_ownF _ _ _ (fun _ => _) j X Y row a0 hg hr', arr_ownF _ _ (fun _ => _) j X Y row a1 hg hr', boxed_ownF _ _ _ (fun _ => _) j X Y row a2 hg hr', boxed_ownF _ _ _ (fun _ => _) j X Y row a3 hg hr', boxed_ownF _ _ _ (fun _ => _) j X Y row a4 hg hr', boxed_ownF _ _ _ (fun _ => _) j X Y row a5 hg hr',
        keeps_own (by omega) j X Y row a6 hg hr', ownFrom_below hbl.size (by omega) j X Y row a7 hg hr', size_own j X Y row a8 hg hr', rest⟩
    case start2 => exact ⟨[], 0, b05, ar5, b25, e05, e15, hC0, ht3.keeps.from _, ht3.below.mono hbl.size, Nat.le_refl _, by omega, rfl, words_nil, by simp [Hid, val]⟩
    case round2 =>
      intro j Y hj
      obtain ⟨y, hy, hyb⟩ : ∃ y, Hid (l2.getD j 0 = y) ∧ y < 4294967296 := ⟨_, rfl, words_getD h2.words j⟩
      obtain ⟨u, hu, hub⟩ : ∃ y, Hid (seg.getD j 0 = y) ∧ y < 4294967296 := ⟨_, rfl, words_getD wseg j⟩
      rw [hy.out]
      gi_wp2
      refine ⟨trivial, ?_⟩
      clear Y
      rintro Y ⟨os, cy, b0, ar, b2, e0, e1, c0, hKY, hblY, hszY, hcy, hol, how, hv⟩
      have Hol := Lib.hid hol
      clear hol
      have g4 := arr_cell ar (k + j) (by have := Hol.out; have := Hsegl.out; have := Hprel.out; simp; omega)
      have hsg := seg_get pre os seg (0 :: post) j j Hol.out (Nat.le_refl _) (by have := Hsegl.out; omega)
      rw [Hprel.out] at hsg
      rw [hsg, hu.out] at g4
      clear hsg
      have f4 := arr_frozen ar (k + j)
      have tg := arr_lt ar
      have gb0 := b0.cell
      have fb0 := b0.frozen
      have tb0 := b0.lt
      have gb2 := b2.cell
      have fb2 := b2.frozen
      have tb2 := b2.lt
      have ge0 := e0.cell
      have fe0 := e0.frozen
      have te0 := e0.lt
      have ge1 := e1.cell
      have fe1 := e1.frozen
      have te1 := e1.lt
      have gc0 := c0.cell
      have fc0 := c0.frozen
      have tc0 := c0.lt

      obtain ⟨p, hp, hp2, hp3⟩ : ∃ p : Nat, (x : Int) * (y : Int) = (p : Int) ∧ p ≤ 18446744065119617025 ∧ Hid (p = x * y) := ⟨x * y, (Int.natCast_mul x y).symm, mul_words hxb hyb, rfl⟩
      obtain ⟨t, ht, ht2, ht3'⟩ : ∃ t : Nat, (cy : Int) + ((p : Int) + (u : Int)) = (t : Int) ∧ t < 18446744073709551616 ∧ Hid (t = cy + (p + u)) := ⟨cy + (p + u), by omega, by omega, rfl⟩
      obtain ⟨z, z1, z2⟩ : ∃ z : Nat, (t : Int) % 4294967296 = (z : Int) ∧ Hid (z = t % BB) := ⟨t % 4294967296, by omega, rfl⟩
      gi_wp2
      refine wpIn_region_tail 15 (by kernel_rfl) (by kernel_rfl) (by kernel_rfl) ?_
      simp only [List.take_succ_cons, List.take_zero, List.drop_succ_cons, List.drop_zero]
      repeat (gi_big_quiet_step (fail))
      refine wpQuietIn_nil ?_
      intro m2
      gi_wp2
      obtain ⟨hi, hi1, hi2⟩ : ∃ q : Nat, (t : Int) / 4294967296 = (q : Int) ∧ q = t / BB := ⟨t / 4294967296, by omega, rfl⟩
      rw [hi1]
      simp only [Nat.add_assoc, Nat.reduceAdd]
      have hh : hi < 4294967296 := by rw [hi2]; show t / 4294967296 < _; omega
      have hset := fun z => seg_set pre os seg (0 :: post) j z Hol.out (by have := Hsegl.out; omega)
      rw [Hprel.out] at hset
      refine limb_end (by (repeat (first | with_reducible exact Stp.refl _ _ | with_reducible refine Stp.set ?_ (by first | (dsimp only; omega) | omega) _ | with_reducible refine Stp.alloc ?_ (by simp; omega) _ | with_reducible refine Stp.drewN ?_ _))) (fun hst => ⟨os ++ [z], hi, by (repeat (first | with_reducible exact b0 | with_reducible exact HasBox.of b0 | with_reducible refine boxed_other ?_ (by omega) _ | with_reducible refine boxed_set _ ?_ | with_reducible refine HasBox.set ?_ _ _ | with_reducible refine HasBox.alloc ?_ _ | with_reducible refine HasBox.drewN ?_ _ | with_reducible refine Boxed.alloc ?_ _ | with_reducible refine boxed_drewN ?_ _)), ?_, by (repeat (first | with_reducible exact b2 | with_reducible exact HasBox.of b2 | with_reducible refine boxed_other ?_ (by omega) _ | with_reducible refine boxed_set _ ?_ | with_reducible refine HasBox.set ?_ _ _ | with_reducible refine HasBox.alloc ?_ _ | with_reducible refine HasBox.drewN ?_ _ | with_reducible refine Boxed.alloc ?_ _ | with_reducible refine boxed_drewN ?_ _)), by (repeat (first | with_reducible exact e0 | with_reducible exact HasBox.of e0 | with_reducible refine boxed_other ?_ (by omega) _ | with_reducible refine boxed_set _ ?_ | with_reducible refine HasBox.set ?_ _ _ | with_reducible refine HasBox.alloc ?_ _ | with_reducible refine HasBox.drewN ?_ _ | with_reducible refine Boxed.alloc ?_ _ | with_reducible refine boxed_drewN ?_ _)), by (repeat (first | with_reducible exact e1 | with_reducible exact HasBox.of e1 | with_reducible refine boxed_other ?_ (by omega) _ | with_reducible refine boxed_set _ ?_ | with_reducible refine HasBox.set ?_ _ _ | with_reducible refine HasBox.alloc ?_ _ | with_reducible refine HasBox.drewN ?_ _ | with_reducible refine Boxed.alloc ?_ _ | with_reducible refine boxed_drewN ?_ _)), by (repeat (first | with_reducible exact c0 | with_reducible exact HasBox.of c0 | with_reducible refine boxed_other ?_ (by omega) _ | with_reducible refine boxed_set _ ?_ | with_reducible refine HasBox.set ?_ _ _ | with_reducible refine HasBox.alloc ?_ _ | with_reducible refine HasBox.drewN ?_ _ | with_reducible refine Boxed.alloc ?_ _ | with_reducible refine boxed_drewN ?_ _)), hKY.trans (hst.keeps.from _), hblY.trans hst.below, Nat.le_trans hszY hst.size, hh, by simp [Hol.out], ?_, ?_⟩)
      · rw [← hset z]
        (repeat (first | with_reducible exact ar | with_reducible refine arr_other ?_ (by omega) _ | with_reducible refine arr_set ?_ _ _ | with_reducible refine arr_alloc ?_ _ | with_reducible refine arr_drewN ?_ _))
      · exact words_append.2 ⟨how, fun u hu => by simp at hu; rw [hu, z2.out]; exact Nat.mod_lt _ (by decide)⟩
      · show val (os ++ [z]) + BB ^ (j + 1) * hi = val (seg.take (j + 1)) + x * val (l2.take (j + 1))
        rw [val_take_succ seg j u hu.out, val_take_succ l2 j y hy.out, val_snoc, Hol.out, Nat.pow_succ, hi2, z2.out]
        exact long_step (by rw [ht3'.out, hp3.out]) hv.out
    case done2 =>
      rintro Y ⟨os, cy, b0, ar, b2, e0, e1, c0, hKY, hblY, hszY, hcy, hol, how, hv⟩
      have Hol := Lib.hid hol
      clear hol
      rw [List.drop_of_length_le (Nat.le_of_eq Hsegl.out), List.append_nil] at ar
      have hlen1 : (pre ++ os).length = k + l2.length := by rw [List.length_append, Hprel.out, Hol.out]
      have g4 := arr_cell ar (k + l2.length) (by rw [List.length_append, hlen1]; simp)
      have hsg : (pre ++ os ++ (0 :: post)).getD (k + l2.length) 0 = 0 := by
        rw [List.getD_eq_getElem?_getD, List.getElem?_append_right (by omega), hlen1, Nat.sub_self]; rfl
      rw [hsg] at g4
      have f4 := arr_frozen ar (k + l2.length)
      have tg := arr_lt ar
      have gb0 := b0.cell
      have fb0 := b0.frozen
      have tb0 := b0.lt
      have gb2 := b2.cell
      have fb2 := b2.frozen
      have tb2 := b2.lt
      have ge0 := e0.cell
      have fe0 := e0.frozen
      have te0 := e0.lt
      have ge1 := e1.cell
      have fe1 := e1.frozen
      have te1 := e1.lt
      have gc0 := c0.cell
      have fc0 := c0.frozen
      have tc0 := c0.lt

      have hcy' : (cy : Int) % 4294967296 = (cy : Int) := by omega
      have Hlen1 := Lib.hid hlen1
      clear hsg hlen1
      gi_wp2
      have hY2 : Below w.heap.size W2 (Y.setCell ⟨w.heap.size + 1, k + l2.length, none⟩ (.int .u32 (cy : Int))) := hblY.setCell (by dsimp only; omega) _
      refine ⟨hKY.trans ((KeepsOthers.setCell Y _ _).from _), hY2, pre ++ os ++ [cy], by (repeat (first | with_reducible exact b0 | with_reducible exact HasBox.of b0 | with_reducible refine boxed_other ?_ (by omega) _ | with_reducible refine boxed_set _ ?_ | with_reducible refine HasBox.set ?_ _ _ | with_reducible refine HasBox.alloc ?_ _ | with_reducible refine HasBox.drewN ?_ _ | with_reducible refine Boxed.alloc ?_ _ | with_reducible refine boxed_drewN ?_ _)), ?_, by (repeat (first | with_reducible exact b2 | with_reducible exact HasBox.of b2 | with_reducible refine boxed_other ?_ (by omega) _ | with_reducible refine boxed_set _ ?_ | with_reducible refine HasBox.set ?_ _ _ | with_reducible refine HasBox.alloc ?_ _ | with_reducible refine HasBox.drewN ?_ _ | with_reducible refine Boxed.alloc ?_ _ | with_reducible refine boxed_drewN ?_ _)), hbl.trans hY2, Nat.le_trans hsz hY2.size, ?_, words_append.2 ⟨words_append.2 ⟨wpre, how⟩, fun u hu => by simp at hu; rw [hu]; exact hcy⟩, ?_⟩
      · have e : (pre ++ os ++ (0 :: post)).set (k + l2.length) cy = pre ++ os ++ [cy] ++ List.replicate (l1.length - (k + 1)) 0 := by
          rw [List.set_append_right _ _ (by have := Hlen1.out; omega), Hlen1.out, Nat.sub_self, List.set_cons_zero, ← Hpost.out]
          simp
        rw [← e]
        exact arr_set ar (k + l2.length) cy
      · show (pre ++ os ++ [cy]).length = k + 1 + l2.length
        rw [List.length_append, Hlen1.out]; simp; omega
      · show val (pre ++ os ++ [cy]) = val (l1.take (k + 1)) * val l2
        have h := hv.out
        rw [List.take_of_length_le (Nat.le_of_eq Hsegl.out), List.take_of_length_le (Nat.le_refl l2.length)] at h
        rw [val_take_succ l1 k x hx.out, List.append_assoc, val_append, Hprel.out, val_snoc, Hol.out, h, Nat.add_mul, Nat.mul_add, ← hval.out, Hvlo.out, Nat.mul_assoc, Nat.add_assoc]
  case done =>
    rintro D W hD ⟨lo, b0, ar, b2, hbl, hsz, hlo, low, hval⟩ hK
    rw [Nat.sub_self, List.replicate_zero, List.append_nil] at ar
    have hlen : lo.length = N := by rw [hlo.out, hN'.out]
    have hrd := arr_rd ar low (by omega)
    have ht := fun n => trim_in n (some ⟨w.heap.size + 1, 0, none⟩) N lo W hrd (by omega)
    have hval' : trim lo = lim (val l1 * val l2) := by
      have := hval.out
      rw [List.take_of_length_le (Nat.le_refl _)] at this
      unfold trim; rw [this]
    rw [hval', hlen] at ht
    have hrd2 := hrd.trim
    have htl := trim_length_le low
    rw [hval', hlen] at htl
    rw [hval'] at hrd2
    have gb2 := b2.cell
    have Hval' := Lib.hid hval'
    clear hval' hlen hval
    gi_wp2_with (gi_at_call 101; refine (ht _).mono ?_; rintro e w' ⟨rfl, rfl⟩)
    refine ⟨by simp, .inl ⟨_, _, rfl, run_takeDeferred hK, ?_⟩⟩
    exact ⟨_, results_tmp rfl _ _ _, _, _, rfl, htl, hrd2.putObj _ hK rfl, hbl.trans (belowK_b (w := w) (Nat.le_refl _) W D _ _ (by omega) hK rfl rfl)⟩

end Nm
end Go.Proofs.YtlhmbbpkhahbeaaDoor
namespace Go.Proofs.YtlhmbbpkhahbeaaDoor
namespace Nm

/-- a magnitude in two parts -/
theorem half_parts (a k q : Nat) (hq : q = min k (lim a).length) :
    a = val ((lim a).take q) + BB ^ k * val ((lim a).drop q) ∧ (lim (val ((lim a).take q))).length ≤ q ∧ (lim a).drop q = lim (val ((lim a).drop q)) := by
  have hc := canon_lim a
  refine ⟨?_, ?_, ?_⟩
  · have e := List.take_append_drop q (lim a)
    have h1 : a = val ((lim a).take q) + BB ^ ((lim a).take q).length * val ((lim a).drop q) := by
      rw [← val_append, e, val_lim]
    rcases Nat.lt_or_ge (lim a).length k with h | h
    · have e2 : (lim a).drop q = [] := List.drop_of_length_le (by omega)
      rw [e2] at h1 ⊢
      simpa [val] using h1
    · have e2 : ((lim a).take q).length = k := by rw [List.length_take]; omega
      rw [e2] at h1
      exact h1
  · refine length_le_of_lt ?_
    have := val_lt (words_take hc.1 q)
    refine Nat.lt_of_lt_of_le this (Nat.pow_le_pow_right (by decide) ?_)
    rw [List.length_take]; omega
  · refine (lim_val ⟨words_drop hc.1 q, fun h => ?_⟩).symm
    rw [List.getLast_drop]
    exact hc.2 _

theorem lt_of_length_le {x k : Nat} (h : (lim x).length ≤ k) : x < BB ^ k := length_le_iff.1 h

theorem sum_length {x y k : Nat} (hx : (lim x).length ≤ k) (hy : (lim y).length ≤ k) : (lim (x + y)).length ≤ k + 1 := by
  refine length_le_of_lt ?_
  have h1 := lt_of_length_le hx
  have h2 := lt_of_length_le hy
  rw [Nat.pow_succ]
  have : BB ^ k * 2 ≤ BB ^ k * BB := Nat.mul_le_mul (Nat.le_refl _) (by decide)
  generalize BB ^ k = P at *
  generalize P * BB = R at *
  omega

theorem prod_length {x y k j : Nat} (hx : (lim x).length ≤ k) (hy : (lim y).length ≤ j) : (lim (x * y)).length ≤ k + j := by
  refine length_le_of_lt ?_
  rw [Nat.pow_add]
  exact Nat.mul_lt_mul'' (lt_of_length_le hx) (lt_of_length_le hy)

theorem up_length {x k j : Nat} (hx : (lim x).length ≤ j) : (lim (BB ^ k * x)).length ≤ k + j := by
  refine length_le_of_lt ?_
  rw [Nat.pow_add]
  exact Nat.mul_lt_mul_of_pos_left (lt_of_length_le hx) (Nat.pow_pos (by decide))

/-- the product out of three products -/
theorem halves_sum {a b a0 a1 b0 b1 P : Nat} (ha : a = a0 + P * a1) (hb : b = b0 + P * b1) :
    a0 * b0 + P * ((a0 + a1) * (b0 + b1) - a0 * b0 - a1 * b1) + P * P * (a1 * b1) = a * b := by
  have e : (a0 + a1) * (b0 + b1) - a0 * b0 - a1 * b1 = a0 * b1 + a1 * b0 := by
    rw [Nat.add_mul, Nat.mul_add, Nat.mul_add]; omega
  rw [e, ha, hb, Nat.add_mul, Nat.mul_add, Nat.mul_add, Nat.mul_add]
  have e1 : a0 * (P * b1) = P * (a0 * b1) := Nat.mul_left_comm _ _ _
  have e2 : P * a1 * b0 = P * (a1 * b0) := Nat.mul_assoc _ _ _
  have e3 : P * a1 * (P * b1) = P * P * (a1 * b1) := by rw [Nat.mul_assoc, Nat.mul_left_comm a1, ← Nat.mul_assoc]
  rw [e1, e2, e3]
  omega

theorem mul_le_parts (a0 a1 b0 b1 : Nat) : a0 * b0 ≤ (a0 + a1) * (b0 + b1) ∧ a1 * b1 ≤ (a0 + a1) * (b0 + b1) - a0 * b0 := by
  rw [Nat.add_mul, Nat.mul_add, Nat.mul_add]; omega

/-- all that is asked of the sizes -/
structure Halves (a b k q1 q2 : Nat) (a0 a1 b0 b1 M : Nat) : Prop where
  ha : a = a0 + BB ^ k * a1
  hb : b = b0 + BB ^ k * b1
  i1 : (lim a0).length + (lim b0).length < M
  i2 : (lim a1).length + (lim b1).length < M
  i3 : (lim (a0 + a1)).length + (lim (b0 + b1)).length < M
  la0 : (lim a0).length ≤ k
  lb0 : (lim b0).length ≤ k
  la1 : (lim a1).length ≤ k + 1
  lb1 : (lim b1).length ≤ k + 1
  lm : (lim ((a0 + a1) * (b0 + b1))).length ≤ 2 * k + 4

theorem halves_of {a b k n q1 q2 M : Nat} (hn : n = max (lim a).length (lim b).length) (hk : k = n / 2) (hq1 : q1 = min k (lim a).length) (hq2 : q2 = min k (lim b).length) (hM : (lim a).length + (lim b).length = M) (hlg : 40 ≤ min (lim a).length (lim b).length) :
    Halves a b k q1 q2 (val ((lim a).take q1)) (val ((lim a).drop q1)) (val ((lim b).take q2)) (val ((lim b).drop q2)) M := by
  obtain ⟨p1, p2, p3⟩ := half_parts a k q1 hq1
  obtain ⟨r1, r2, r3⟩ := half_parts b k q2 hq2
  have p4 : (lim (val ((lim a).drop q1))).length = (lim a).length - q1 := by rw [← p3, List.length_drop]
  have r4 : (lim (val ((lim b).drop q2))).length = (lim b).length - q2 := by rw [← r3, List.length_drop]
  generalize val ((lim a).take q1) = a0 at *
  generalize val ((lim a).drop q1) = a1 at *
  generalize val ((lim b).take q2) = b0 at *
  generalize val ((lim b).drop q2) = b1 at *
  have s1 : (lim (a0 + a1)).length ≤ k + 2 := sum_length (k := k + 1) (by omega) (by omega)
  have s2 : (lim (b0 + b1)).length ≤ k + 2 := sum_length (k := k + 1) (by omega) (by omega)
  exact ⟨p1, r1, by omega, by omega, by omega, by omega, by omega, by omega, by omega, by have := prod_length s1 s2; omega⟩

end Nm
end Go.Proofs.YtlhmbbpkhahbeaaDoor
namespace Go.Proofs.YtlhmbbpkhahbeaaDoor
namespace Nm
open Go.RowKit Go.Shelf Go.BigFrame
attribute [local go_sem] Oper.semAt_some

/-- the function value that lies in the box of 'halves' -/
abbrev hv (Bh : Nat) : Value := .func (.func 111) #[] #[.pointer (some ⟨Bh, 0, none⟩)]

theorem cell_keep {W W' : World} {B : Nat} {v : Value} (h : W.cell? ⟨B, 0, none⟩ = some v) (hb : Below W.heap.size W W') : W'.cell? ⟨B, 0, none⟩ = some v :=
  (hb.cell (p := ⟨B, 0, none⟩) (World.block_lt_of_cell? W _ h)).trans h

theorem Rd.drop {w : World} {b o : Nat} {l : List Nat} (h : Rd w (some ⟨b, o, none⟩) l) (q : Nat) (A' : Option Addr) (hA : q < l.length → A' = some ⟨b, o + q, none⟩) : Rd w A' (l.drop q) := by
  refine ⟨fun i hi => ?_, words_drop h.words q, by have := h.small; rw [List.length_drop]; omega⟩
  rw [List.length_drop] at hi
  obtain ⟨b', o', e, hc⟩ := h.cell (q + i) (by omega)
  cases e
  refine ⟨b, o + q, hA (by omega), ?_⟩
  rw [Nat.add_assoc, hc, List.getD_eq_getElem?_getD, List.getD_eq_getElem?_getD, List.getElem?_drop]

theorem Rd.on {W W' : World} {A : Option Addr} {l : List Nat} (h : Rd W A l) (hb : Below W.heap.size W W') : Rd W' A l := h.below hb rfl

set_option maxRecDepth 100000 in
set_option maxHeartbeats 4000000 in
theorem halves_short (Bh : Nat) (A1 A2 : Option Addr) (c1 c2 : Nat) (l1 l2 : List Nat) (w : World) (h1 : Rd w A1 l1) (h2 : Rd w A2 l2) (hc1 : l1.length ≤ c1) (hc2 : l2.length ≤ c2) (hs1 : l1.length ≤ 65536) (hs2 : l2.length ≤ 65536)
    (hsh : min l1.length l2.length < 40) :
    Calls Tryd.prog 111 #[.slice A1 l1.length c1, .slice A2 l2.length c2, .pointer (some ⟨Bh, 0, none⟩)] w (RetNat (val l1 * val l2) w) := by
  go_enter Tryd.func111, Tryd.ntmps111
  go_wp2_with first
    | (go_at_call 112; refine (long_calls A1 A2 c1 c2 l1 l2 _ h1 h2 hc1 hc2 hs1 hs2).mono ?_; rintro e w' ⟨A, c, rfl, hr1, hr2, hr3⟩)
  go_ret
  exact ⟨_, _, rfl, hr1, hr2, hr3⟩

set_option maxRecDepth 100000 in
set_option maxHeartbeats 4000000 in
theorem halves_step (Bh M : Nat) (hM : M ≤ 32768)
    (ih : ∀ (x y : Nat) (A A' : Option Addr) (c c' : Nat) (W : World), (lim x).length + (lim y).length < M → Rd W A (lim x) → Rd W A' (lim y) → (lim x).length ≤ c → (lim y).length ≤ c' → W.cell? ⟨Bh, 0, none⟩ = some (hv Bh) →
      Calls Tryd.prog 111 #[.slice A (lim x).length c, .slice A' (lim y).length c', .pointer (some ⟨Bh, 0, none⟩)] W (RetNat (x * y) W))
    (A1 A2 : Option Addr) (c1 c2 a b : Nat) (w : World) (hlen : (lim a).length + (lim b).length = M) (h1 : Rd w A1 (lim a)) (h2 : Rd w A2 (lim b)) (hc1 : (lim a).length ≤ c1) (hc2 : (lim b).length ≤ c2)
    (hB : w.cell? ⟨Bh, 0, none⟩ = some (hv Bh)) (hlg : 40 ≤ min (lim a).length (lim b).length) :
    Calls Tryd.prog 111 #[.slice A1 (lim a).length c1, .slice A2 (lim b).length c2, .pointer (some ⟨Bh, 0, none⟩)] w (RetNat (a * b) w) := by
  obtain ⟨n, hn, hn'⟩ : ∃ n : Nat, max ((lim a).length : Int) ((lim b).length : Int) = (n : Int) ∧ Hid (n = max (lim a).length (lim b).length) := ⟨max (lim a).length (lim b).length, by omega, rfl⟩
  obtain ⟨k, hk, hk'⟩ : ∃ k : Nat, (n : Int) / 2 = (k : Int) ∧ Hid (k = n / 2) := ⟨n / 2, by omega, rfl⟩
  obtain ⟨q1, hq1, hq1'⟩ : ∃ q : Nat, min (k : Int) ((lim a).length : Int) = (q : Int) ∧ Hid (q = min k (lim a).length) := ⟨min k (lim a).length, by omega, rfl⟩
  obtain ⟨q2, hq2, hq2'⟩ : ∃ q : Nat, min (k : Int) ((lim b).length : Int) = (q : Int) ∧ Hid (q = min k (lim b).length) := ⟨min k (lim b).length, by omega, rfl⟩
  have hH := halves_of hn'.out hk'.out hq1'.out hq2'.out hlen hlg
  obtain ⟨-, hp2, hp3⟩ := half_parts a k q1 hq1'.out
  obtain ⟨-, hr2, hr3⟩ := half_parts b k q2 hq2'.out
  have hnb : n ≤ 32768 := by have := hn'.out; omega
  have hkb : k ≤ 16384 := by have := hk'.out; omega
  have hq1b : q1 ≤ (lim a).length := by have := hq1'.out; omega
  have hq2b : q2 ≤ (lim b).length := by have := hq2'.out; omega
  have hl1b : (lim a).length ≤ 32768 := by omega
  have hl2b : (lim b).length ≤ 32768 := by omega
  obtain ⟨b1, o1, rfl⟩ := h1.head (by omega)
  obtain ⟨b2, o2, rfl⟩ := h2.head (by omega)
  have e1 : ((lim a).take q1).length = q1 := by rw [List.length_take]; omega
  have e2 : ((lim b).take q2).length = q2 := by rw [List.length_take]; omega
  have d1 : ((lim a).drop q1).length = (lim a).length - q1 := List.length_drop
  have d2 : ((lim b).drop q2).length = (lim b).length - q2 := List.length_drop
  have hT1 : ∀ W, Below w.heap.size w W → Calls Tryd.prog 101 #[.slice (some ⟨b1, o1, none⟩) q1 c1] W fun e w' => e = .returned (.slice (some ⟨b1, o1, none⟩) (lim (val ((lim a).take q1))).length c1) ∧ w' = W := by
    intro W hW
    have := trim_calls (some ⟨b1, o1, none⟩) c1 ((lim a).take q1) W ((h1.take q1).on hW) (by omega)
    rw [e1] at this
    exact this.mono fun e w' h => ⟨h.1, h.2.symm⟩
  have hT2 : ∀ W, Below w.heap.size w W → Calls Tryd.prog 101 #[.slice (some ⟨b2, o2, none⟩) q2 c2] W fun e w' => e = .returned (.slice (some ⟨b2, o2, none⟩) (lim (val ((lim b).take q2))).length c2) ∧ w' = W := by
    intro W hW
    have := trim_calls (some ⟨b2, o2, none⟩) c2 ((lim b).take q2) W ((h2.take q2).on hW) (by omega)
    rw [e2] at this
    exact this.mono fun e w' h => ⟨h.1, h.2.symm⟩
  have hra := (h1.take q1).trim
  have hrb := (h2.take q2).trim
  unfold trim at hra hrb
  have hda := h1.drop q1
  have hdb := h2.drop q2
  rw [hp3] at hda d1
  rw [hr3] at hdb d2
  generalize val ((lim a).take q1) = a0 at *
  generalize val ((lim a).drop q1) = a1 at *
  generalize val ((lim b).take q2) = b0 at *
  generalize val ((lim b).drop q2) = b1' at *
  clear hp3 hr3 e1 e2 hn' hk' hq1' hq2'
  have hq1c := fun (r : Nat) (W : World) (h : Below w.heap.size w W) => Calls.quiet_of_same (n := r) (hT1 (W.drewN r) (below_drewN h r))
  have hq2c := fun (r : Nat) (W : World) (h : Below w.heap.size w W) => Calls.quiet_of_same (n := r) (hT2 (W.drewN r) (below_drewN h r))
  have D1 := Lib.hid d1
  have D2 := Lib.hid d2
  have HH := Lib.hid hH
  clear hH d1 d2 hT1 hT2
  go_enter Tryd.func111, Tryd.ntmps111
  go_wp2_with fail
  go_quiet ((go_at_call 101; exact hq1c _ w (Below.refl _ _)))
  generalize hA9 : (if c1 = q1 then (some ⟨b1, o1, none⟩ : Option Addr) else some ⟨b1, o1 + q1, none⟩) = A9
  have hr9 := hda A9 (by intro h; rw [← hA9, if_neg (by omega)])
  clear hA9 hda hq1c
  rw [← D1.out]
  obtain ⟨w1, hw1⟩ : ∃ w1, w.drewN nq = w1 := ⟨_, rfl⟩
  have hbw1 : Below w.heap.size w w1 := by rw [← hw1]; exact below_drewN (Below.refl _ _) _
  rw [hw1]
  clear hw1
  go_wp2_with fail
  go_quiet ((go_at_call 101; exact hq2c _ w1 hbw1))
  generalize hA11 : (if c2 = q2 then (some ⟨b2, o2, none⟩ : Option Addr) else some ⟨b2, o2 + q2, none⟩) = A11
  have hr11 := hdb A11 (by intro h; rw [← hA11, if_neg (by omega)])
  clear hA11 hdb hq2c
  rw [← D2.out]
  obtain ⟨w2, hw2⟩ : ∃ w2, w1.drewN nq = w2 := ⟨_, rfl⟩
  have hbw2 : Below w.heap.size w w2 := by rw [← hw2]; exact below_drewN hbw1 _
  rw [hw2]
  clear hw2
  replace hr9 := hr9.on hbw2
  replace hr11 := hr11.on hbw2
  replace hra := hra.on hbw2
  replace hrb := hrb.on hbw2
  replace hB := cell_keep hB hbw2
  clear hbw1
  have hBl := World.block_lt_of_cell? w2 _ hB
  have hcx1 : (lim a0).length ≤ c1 := by have := hp2; omega
  have hcx2 : (lim b0).length ≤ c2 := by have := hr2; omega
  have hcd1 : (lim a1).length ≤ c1 - q1 := by have := D1.out; omega
  have hcd2 : (lim b1').length ≤ c2 - q2 := by have := D2.out; omega
  obtain ⟨L, hL⟩ : ∃ L, a0 * b0 = L := ⟨_, rfl⟩
  obtain ⟨H, hH⟩ : ∃ L, a1 * b1' = L := ⟨_, rfl⟩
  obtain ⟨S1, hS1⟩ : ∃ L, a0 + a1 = L := ⟨_, rfl⟩
  obtain ⟨S2, hS2⟩ : ∃ L, b0 + b1' = L := ⟨_, rfl⟩
  obtain ⟨Mm, hMm⟩ : ∃ L, S1 * S2 = L := ⟨_, rfl⟩
  obtain ⟨k2, hk2, hk2'⟩ : ∃ k2 : Nat, 2 * (k : Int) = (k2 : Int) ∧ Hid (k2 = 2 * k) := ⟨2 * k, by omega, rfl⟩
  have hk2b : k2 ≤ 32768 := by have := hk2'.out; omega
  have hparts := mul_le_parts a0 a1 b0 b1'
  rw [hS1, hS2, hMm, hL, hH] at hparts
  have hsum := halves_sum HH.out.ha HH.out.hb
  rw [hS1, hS2, hMm, hL, hH] at hsum
  have hlm := HH.out.lm
  have hi3' := HH.out.i3
  rw [hS1, hS2] at hi3' hlm
  rw [hMm] at hlm
  have hlL := prod_length HH.out.la0 HH.out.lb0
  have hlH := prod_length HH.out.la1 HH.out.lb1
  rw [hL] at hlL
  rw [hH] at hlH
  have hl5 := length_mono hparts.1
  have hl6 := length_mono hparts.2
  have hl7 := length_mono (show Mm - L ≤ Mm by omega)
  have hl8 := length_mono (show Mm - L - H ≤ Mm by omega)
  have hla0 := HH.out.la0
  have hla1 := HH.out.la1
  have hlb0 := HH.out.lb0
  have hlb1 := HH.out.lb1
  have hl9 := up_length (k := k) (Nat.le_trans hl8 hlm)
  have hl10 := up_length (k := k2) hlH
  have hl11 := sum_length (x := L) (y := BB ^ k * (Mm - L - H)) (k := 3 * k + 4) (by omega) (by omega)
  have hPP : BB ^ k2 = BB ^ k * BB ^ k := by rw [hk2'.out, ← Nat.pow_add]; congr 1; omega
  rw [← hPP] at hsum
  obtain ⟨md, hmd⟩ : ∃ L', Mm - L - H = L' := ⟨_, rfl⟩
  obtain ⟨m1, hm1⟩ : ∃ L', Mm - L = L' := ⟨_, rfl⟩
  rw [hm1] at hmd
  obtain ⟨u1, hu1⟩ : ∃ L', BB ^ k * md = L' := ⟨_, rfl⟩
  obtain ⟨u2, hu2⟩ : ∃ L', BB ^ k2 * H = L' := ⟨_, rfl⟩
  rw [hm1, hmd] at hsum
  rw [hu1, hu2] at hsum
  rw [hu2] at hl10
  rw [hm1, hmd] at hl8 hl9 hl11
  rw [hu1] at hl9 hl11
  rw [hm1] at hl6 hl7
  have hpL := Lib.hid hparts
  have HL := Lib.hid hL
  have HHH := Lib.hid hH
  have HS1 := Lib.hid hS1
  have HS2 := Lib.hid hS2
  have HMm := Lib.hid hMm
  have Hmd := Lib.hid hmd
  have Hm1 := Lib.hid hm1
  have Hu1 := Lib.hid hu1
  have Hu2 := Lib.hid hu2
  have Hsum := Lib.hid hsum
  rw [hm1] at hparts
  clear hPP hsum hmd hu1 hu2 
  have hlow : ∀ W, Below w2.heap.size w2 W → Calls Tryd.prog 111 #[.slice (some ⟨b1, o1, none⟩) (lim a0).length c1, .slice (some ⟨b2, o2, none⟩) (lim b0).length c2, .pointer (some ⟨Bh, 0, none⟩)] W (RetNat L W) := by
    rw [← hL]; exact fun W hW => ih a0 b0 _ _ _ _ W HH.out.i1 (hra.on hW) (hrb.on hW) hcx1 hcx2 (cell_keep hB hW)
  have hhigh : ∀ W, Below w2.heap.size w2 W → Calls Tryd.prog 111 #[.slice A9 (lim a1).length (c1 - q1), .slice A11 (lim b1').length (c2 - q2), .pointer (some ⟨Bh, 0, none⟩)] W (RetNat H W) := by
    rw [← hH]; exact fun W hW => ih a1 b1' _ _ _ _ W HH.out.i2 (hr9.on hW) (hr11.on hW) hcd1 hcd2 (cell_keep hB hW)
  clear hL hH hS1 hS2 hMm hm1 hparts
  go_wp2_with fail
  go_region_held3 (fun w' => w'.cell? ⟨Bh, 0, none⟩ = some (.func (.func 111) #[] #[.pointer (some ⟨Bh, 0, none⟩)])) ((first | assumption | exact hB))
    ((first
      | (go_at_call 111; refine (hhigh w3 hb3).mono ?_; rintro e w4 ⟨Ahi, chi, rfl, hi1, hi2, hi3⟩; have hb4 : Below w2.heap.size w2 w4 := hb3.trans (hi3.mono hb3.size); have hB4 := cell_keep hB hb4)
      | (go_at_call 111; refine (hlow w2.drew (below_drewN (Below.refl _ w2) 1)).mono ?_; rintro e w3 ⟨Alo, clo, rfl, lo1, lo2, lo3⟩; have hb3 : Below w2.heap.size w2 w3 := (below_drewN (Below.refl _ w2) 1).trans lo3; have hB3 := cell_keep hB hb3)))
  clear hlow hhigh
  replace lo2 := lo2.on hi3
  replace hr9 := hr9.on hb4
  replace hr11 := hr11.on hb4
  replace hra := hra.on hb4
  replace hrb := hrb.on hb4
  have hb04 : Below w.heap.size w w4 := hbw2.trans (hb4.mono hbw2.size)
  clear hB hB3 hb3 hi3 lo3 hb4 hBl
  have hs1 : ∀ W, Below w4.heap.size w4 W → Calls Tryd.prog 58 #[.slice (some ⟨b1, o1, none⟩) (lim a0).length c1, .slice A9 (lim a1).length (c1 - q1)] W (RetNat S1 W) := by
    intro W hW
    have := add_calls (some ⟨b1, o1, none⟩) A9 c1 (c1 - q1) (lim a0) (lim a1) W (hra.on hW) (hr9.on hW) hcx1 hcd1 (by omega) (by omega)
    rwa [val_lim, val_lim, HS1.out] at this
  have hs2 : ∀ W, Below w4.heap.size w4 W → Calls Tryd.prog 58 #[.slice (some ⟨b2, o2, none⟩) (lim b0).length c2, .slice A11 (lim b1').length (c2 - q2)] W (RetNat S2 W) := by
    intro W hW
    have := add_calls (some ⟨b2, o2, none⟩) A11 c2 (c2 - q2) (lim b0) (lim b1') W (hrb.on hW) (hr11.on hW) hcx2 hcd2 (by omega) (by omega)
    rwa [val_lim, val_lim, HS2.out] at this
  have hmm : ∀ W A A' c c', Below w4.heap.size w4 W → Rd W A (lim S1) → Rd W A' (lim S2) → (lim S1).length ≤ c → (lim S2).length ≤ c' → Calls Tryd.prog 111 #[.slice A (lim S1).length c, .slice A' (lim S2).length c', .pointer (some ⟨Bh, 0, none⟩)] W (RetNat Mm W) := by
    intro W A A' c c' hW r1 r2 n1 n2
    have := ih S1 S2 A A' c c' W hi3' r1 r2 n1 n2 (cell_keep hB4 hW)
    rwa [HMm.out] at this
  have hd1 : ∀ W A c, Below w4.heap.size w4 W → Rd W A (lim Mm) → (lim Mm).length ≤ c → Calls Tryd.prog 59 #[.slice A (lim Mm).length c, .slice Alo (lim L).length clo] W (RetNat m1 W) := by
    intro W A c hW r1 n1
    have := sub_calls A Alo c clo (lim Mm) (lim L) W r1 (lo2.on hW) n1 lo1 (by rw [val_lim, val_lim]; exact hpL.out.1) hl5 (by omega)
    rwa [val_lim, val_lim, Hm1.out] at this
  have hd2 : ∀ W A c, Below w4.heap.size w4 W → Rd W A (lim m1) → (lim m1).length ≤ c → Calls Tryd.prog 59 #[.slice A (lim m1).length c, .slice Ahi (lim H).length chi] W (RetNat md W) := by
    intro W A c hW r1 n1
    have := sub_calls A Ahi c chi (lim m1) (lim H) W r1 (hi2.on hW) n1 hi1 (by rw [val_lim, val_lim, ← Hm1.out]; exact hpL.out.2) hl6 (by omega)
    rwa [val_lim, val_lim, Hmd.out] at this
  have hup1 : ∀ W A c, Below w4.heap.size w4 W → Rd W A (lim md) → (lim md).length ≤ c → Calls Tryd.prog 113 #[.slice A (lim md).length c, .int .i64 (k : Int)] W (RetNat u1 W) := by
    intro W A c hW r1 n1
    have := up_calls A c k (lim md) W r1 n1 (canon_lim _) (by omega) (by omega)
    rwa [val_lim, Hu1.out] at this
  have hup2 : ∀ W, Below w4.heap.size w4 W → Calls Tryd.prog 113 #[.slice Ahi (lim H).length chi, .int .i64 (k2 : Int)] W (RetNat u2 W) := by
    intro W hW
    have := up_calls Ahi chi k2 (lim H) W (hi2.on hW) hi1 (canon_lim _) (by omega) (by omega)
    rwa [val_lim, Hu2.out] at this
  have ha1 : ∀ W A c, Below w4.heap.size w4 W → Rd W A (lim u1) → (lim u1).length ≤ c → Calls Tryd.prog 58 #[.slice Alo (lim L).length clo, .slice A (lim u1).length c] W (RetNat (L + u1) W) := by
    intro W A c hW r1 n1
    have := add_calls Alo A clo c (lim L) (lim u1) W (lo2.on hW) r1 lo1 n1 (by omega) (by omega)
    rwa [val_lim, val_lim] at this
  have ha2 : ∀ W A c A' c', Rd W A (lim (L + u1)) → (lim (L + u1)).length ≤ c → Rd W A' (lim u2) → (lim u2).length ≤ c' → Calls Tryd.prog 58 #[.slice A (lim (L + u1)).length c, .slice A' (lim u2).length c'] W (RetNat (a * b) W) := by
    intro W A c A' c' r1 n1 r2 n2
    have := add_calls A A' c c' (lim (L + u1)) (lim u2) W r1 r2 n1 n2 (by omega) (by omega)
    rwa [val_lim, val_lim, Hsum.out] at this
  go_wp2_with fail
  go_region_held3 (fun w' => w'.cell? ⟨Bh, 0, none⟩ = some (.func (.func 111) #[] #[.pointer (some ⟨Bh, 0, none⟩)])) ((first | assumption | exact hB4))
    ((first
      | (go_at_call 111; refine (hmm w6 A5 A6 c5 c6 hb6 (r5.on x6) r6 n5 n6).mono ?_; rintro e w7 ⟨A7, c7, rfl, n7, r7, x7⟩; have hb7 : Below w4.heap.size w4 w7 := hb6.trans (x7.mono hb6.size); have hB7 := cell_keep hB4 hb7)
      | (go_at_call 59; refine (hd2 w8 A8 c8 hb8 r8 n8).mono ?_; rintro e w9 ⟨A99, c9, rfl, n9, r99, x9⟩; have hb9 : Below w4.heap.size w4 w9 := hb8.trans (x9.mono hb8.size); have hB9 := cell_keep hB4 hb9)
      | (go_at_call 59; refine (hd1 w7 A7 c7 hb7 r7 n7).mono ?_; rintro e w8 ⟨A8, c8, rfl, n8, r8, x8⟩; have hb8 : Below w4.heap.size w4 w8 := hb7.trans (x8.mono hb7.size); have hB8 := cell_keep hB4 hb8)
      | (go_at_call 58; refine (hs2 w5 hb5).mono ?_; rintro e w6 ⟨A6, c6, rfl, n6, r6, x6⟩; have hb6 : Below w4.heap.size w4 w6 := hb5.trans (x6.mono hb5.size); have hB6 := cell_keep hB4 hb6)
      | (go_at_call 58; refine (hs1 w4.drew (below_drewN (Below.refl _ w4) 1)).mono ?_; rintro e w5 ⟨A5, c5, rfl, n5, r5, x5⟩; have hb5 : Below w4.heap.size w4 w5 := (below_drewN (Below.refl _ w4) 1).trans x5; have hB5 := cell_keep hB4 hb5)))
  clear hs1 hs2 hmm hd1 hd2
  go_wp2_with first
    | (go_at_call 113; refine (hup2 w11 hb11).mono ?_; rintro e w12 ⟨A12, c12, rfl, n12, r12, x12⟩; have hb12 : Below w4.heap.size w4 w12 := hb11.trans (x12.mono hb11.size))
    | (go_at_call 113; refine (hup1 w9 A99 c9 hb9 r99 n9).mono ?_; rintro e w10 ⟨A10, c10, rfl, n10, r10, x10⟩; have hb10 : Below w4.heap.size w4 w10 := hb9.trans (x10.mono hb9.size))
    | (go_at_call 58; refine (ha2 w12 A13 c13 A12 c12 (r13.on x12) n13 r12 n12).mono ?_; rintro e w14 ⟨A14, c14, rfl, n14, r14, x14⟩)
    | (go_at_call 58; refine (ha1 w10 A10 c10 hb10 r10 n10).mono ?_; rintro e w11 ⟨A13, c13, rfl, n13, r13, x11⟩; have hb11 : Below w4.heap.size w4 w11 := hb10.trans (x11.mono hb10.size))
  go_ret
  exact ⟨_, _, rfl, n14, r14, hb04.trans ((hb12.trans (x14.mono hb12.size)).mono hb04.size)⟩

theorem halves_calls (Bh : Nat) (M : Nat) : M ≤ 32768 → ∀ (x y : Nat) (A A' : Option Addr) (c c' : Nat) (W : World), (lim x).length + (lim y).length = M → Rd W A (lim x) → Rd W A' (lim y) → (lim x).length ≤ c → (lim y).length ≤ c' → W.cell? ⟨Bh, 0, none⟩ = some (hv Bh) →
      Calls Tryd.prog 111 #[.slice A (lim x).length c, .slice A' (lim y).length c', .pointer (some ⟨Bh, 0, none⟩)] W (RetNat (x * y) W) := by
  induction M using Nat.strongRecOn with
  | ind M ih =>
    intro hM x y A A' c c' W hlen h1 h2 hc1 hc2 hB
    rcases Nat.lt_or_ge (min (lim x).length (lim y).length) 40 with h | h
    · have := halves_short Bh A A' c c' (lim x) (lim y) W h1 h2 hc1 hc2 (by omega) (by omega) h
      rwa [val_lim, val_lim] at this
    · exact halves_step Bh M hM (fun x y A A' c c' W hlt h1 h2 hc1 hc2 hB => ih _ hlt (by omega) x y A A' c c' W rfl h1 h2 hc1 hc2 hB) A A' c c' x y W hlen h1 h2 hc1 hc2 hB h

set_option maxRecDepth 100000 in
set_option maxHeartbeats 4000000 in
/-- '(nat).mul' -/
theorem mul_calls (A1 A2 : Option Addr) (c1 c2 : Nat) (l1 l2 : List Nat) (w : World) (h1 : Rd w A1 l1) (h2 : Rd w A2 l2) (hc1 : l1.length ≤ c1) (hc2 : l2.length ≤ c2) (k1 : Canon l1) (k2 : Canon l2) (hs : l1.length + l2.length ≤ 32768) :
    Calls Tryd.prog 68 #[.slice A1 l1.length c1, .slice A2 l2.length c2] w (RetNat (val l1 * val l2) w) := by
  have hb : ∀ o, Below w.heap.size w (w.alloc o) := fun o => (Below.refl _ _).alloc (Nat.le_refl _) _
  have hh : ∀ t, Calls Tryd.prog 111 #[.slice A1 l1.length c1, .slice A2 l2.length c2, .pointer (some ⟨w.heap.size, 0, none⟩)] (w.alloc (.cells #[hv w.heap.size] t)) (RetNat (val l1 * val l2) (w.alloc (.cells #[hv w.heap.size] t))) := by
    intro t
    have := halves_calls w.heap.size _ hs (val l1) (val l2) A1 A2 c1 c2 (w.alloc (.cells #[hv w.heap.size] t)) (by rw [lim_val k1, lim_val k2]) (by rw [lim_val k1]; exact h1.on (hb _)) (by rw [lim_val k2]; exact h2.on (hb _)) (by rw [lim_val k1]; exact hc1) (by rw [lim_val k2]; exact hc2)
      (Boxed.new w t (hv w.heap.size)).cell
    rwa [lim_val k1, lim_val k2] at this
  go_enter Tryd.func68, Tryd.ntmps68
  go_wp2_with first
    | (go_at_call 111; refine (hh _).mono ?_; rintro e w' ⟨A, c, rfl, r1, r2, r3⟩)
  go_ret
  exact ⟨_, _, rfl, r1, r2, (hb _).trans (r3.mono (by simp))⟩

end Nm
end Go.Proofs.YtlhmbbpkhahbeaaDoor
namespace Go
variable {P : Program}

/-- an append asks of its second type no more than that it is a slice -/
theorem append_types (t u e e' : TypeId) (ht : P.underlying t = some (.slice e)) (hu : P.underlying u = some (.slice e')) (ty : TypeId) (s x : Value) (w : World) :
    (Builtin.append_ #[t, u] ty #[s, x]).run P w = (Builtin.append_ #[t, t] ty #[s, x]).run P w := by
  cases s with
  | slice base l c =>
    simp only [Builtin.append_, underlying]
    simp [go_sem, ht, hu]
  | _ => simp [Builtin.append_, underlying, Sem.run_bind, go_sem, ht]

theorem wp_append_own2 (w : World) {o : Oper} {a : Act} {K : Act → World → Prop} {Q : Exit → Act → World → Prop} (s x : Operand) (t u : TypeId)
    (ho : o.op = .call { callee := .builtin .append, args := #[s, x], argTypes := #[t, u] })
    (base : Nat) (e e' : TypeId) (i : TypeInfo) (z : Value) (size bytes : Nat) (ht : P.underlying t = some (.slice e)) (hu : P.underlying u = some (.slice e')) (hi : P.info? e = some i) (hz : i.zero = some z)
    (hsize : i.size = size) (hby : i.bytes = bytes) (hzs : z.cells.size = size) (hsz : 0 < size)
    (v : Value) (n : Nat) (xs : List Value) (hs : a.eval s = v) (hown : w.ownsRow base e size v n xs)
    (ad : Addr) (m c : Nat) (news : List Value) (hx : a.eval x = .slice (some ad) m c) (hl : news.length = m * size) (hnews : ∀ j u, news[j]? = some u → w.cell? (ad.add j) = some u) (h1 : ∀ u ∈ news, u.oneCell' = true)
    (h63 : n + m ≤ maxLen) (hbytes : (n + m) * bytes ≤ 140737488355328) (hbase : base ≤ w.heap.size)
    (h : ∀ v' w', w'.ownsRow base e size v' (n + m) (xs ++ news) → w.grownBy w' v.ownBlock → (v' = .slice none 0 0 ↔ v = .slice none 0 0 ∧ m = 0) → K (a.put o.dst v') w') : o.wp P a w K Q := by
  obtain ⟨v', w', hr, h2, h3, h4⟩ := run_append_own (P := P) w base t o.type e i z size bytes ht hi hz hsize hby hzs hsz v n xs hown ad m c news hl hnews h1 h63 hbytes hbase
  rw [← append_types t u e e' ht hu] at hr
  unfold Oper.wp execOp
  simp only [ho, resolve, invoke, builtin, Sem.run_bind, Sem.run_pure, Result.andThen_ok, List.map_toArray, List.map_cons, List.map_nil, hs, hx, hr]
  exact h v' w' h2 h3 h4

theorem wpList_append_own2 (w : World) {ops : Array Oper} {rest : List Oper} {o : Oper} {a : Act} {Q : Exit → Act → World → Prop} (hgd : o.guard = none) (s x : Operand) (t u : TypeId)
    (ho : o.op = .call { callee := .builtin .append, args := #[s, x], argTypes := #[t, u] })
    (base : Nat) (e e' : TypeId) (i : TypeInfo) (z : Value) (size bytes : Nat) (ht : P.underlying t = some (.slice e)) (hu : P.underlying u = some (.slice e')) (hi : P.info? e = some i) (hz : i.zero = some z)
    (hsize : i.size = size) (hby : i.bytes = bytes) (hzs : z.cells.size = size) (hsz : 0 < size)
    (v : Value) (n : Nat) (xs : List Value) (hs : a.eval s = v) (hown : w.ownsRow base e size v n xs)
    (ad : Addr) (m c : Nat) (news : List Value) (hx : a.eval x = .slice (some ad) m c) (hl : news.length = m * size) (hnews : ∀ j u, news[j]? = some u → w.cell? (ad.add j) = some u) (h1 : ∀ u ∈ news, u.oneCell' = true)
    (h63 : n + m ≤ maxLen) (hbytes : (n + m) * bytes ≤ 140737488355328) (hbase : base ≤ w.heap.size)
    (h : ∀ v' w', w'.ownsRow base e size v' (n + m) (xs ++ news) → w.grownBy w' v.ownBlock → (v' = .slice none 0 0 ↔ v = .slice none 0 0 ∧ m = 0) → wpList P ops Q rest (a.put o.dst v') w') : wpList P ops Q (o :: rest) a w :=
  wpList_plain hgd fun _ hK => wp_append_own2 w s x t u ho base e e' i z size bytes ht hu hi hz hsize hby hzs hsz v n xs hs hown ad m c news hx hl hnews h1 h63 hbytes hbase fun v' w' h2 h3 h4 => hK _ _ (h v' w' h2 h3 h4)

/-- nothing appended to nothing -/
theorem run_append_none (t u e e' : TypeId) (i : TypeInfo) (ht : P.underlying t = some (.slice e)) (hu : P.underlying u = some (.slice e')) (hi : P.info? e = some i) (ty : TypeId) (A : Option Addr) (c : Nat) (w : World) :
    (Builtin.append_ #[t, u] ty #[.slice none 0 0, .slice A 0 c]).run P w = .ok (.slice none 0 0) w := by
  cases A
  all_goals
    simp only [Builtin.append_, underlying]
    simp [go_sem, ht, hu, sizeOf, typeInfo, hi, Result.andThen]

theorem wpList_append_none (w : World) {ops : Array Oper} {rest : List Oper} {o : Oper} {a : Act} {Q : Exit → Act → World → Prop} (hgd : o.guard = none) (s x : Operand) (t u : TypeId)
    (ho : o.op = .call { callee := .builtin .append, args := #[s, x], argTypes := #[t, u] }) (e e' : TypeId) (i : TypeInfo) (ht : P.underlying t = some (.slice e)) (hu : P.underlying u = some (.slice e')) (hi : P.info? e = some i)
    (A : Option Addr) (c : Nat) (hs : a.eval s = .slice none 0 0) (hx : a.eval x = .slice A 0 c)
    (h : wpList P ops Q rest (a.put o.dst (.slice none 0 0)) w) : wpList P ops Q (o :: rest) a w :=
  wpList_plain hgd fun _ hK => by
    have hr := run_append_none (P := P) t u e e' i ht hu hi o.type A c w
    unfold Oper.wp execOp
    simp only [ho, resolve, invoke, builtin, Sem.run_bind, Sem.run_pure, Result.andThen_ok, List.map_toArray, List.map_cons, List.map_nil, hs, hx, hr]
    exact hK _ _ h

end Go
namespace Go.Proofs.YtlhmbbpkhahbeaaDoor
namespace Nm
open Go.RowKit Go.Shelf Go.BigFrame
attribute [local go_sem] Oper.semAt_some

/-- the sum of two signed magnitudes -/
def addS (an : Bool) (a : Nat) (bn : Bool) (b : Nat) : Bool × Nat := if an = bn then (an, a + b) else if b ≤ a then (an, a - b) else (bn, b - a)

def RetSgn (s : Bool) (n : Nat) (w : World) (e : Ending) (w' : World) : Prop :=
  ∃ A c, e = .returned (.tuple #[.bool s, .slice A (lim n).length c]) ∧ (lim n).length ≤ c ∧ Rd w' A (lim n) ∧ Below w.heap.size w w'

set_option maxRecDepth 100000 in
set_option maxHeartbeats 2000000 in
theorem total_calls (an bn : Bool) (A1 A2 : Option Addr) (c1 c2 : Nat) (l1 l2 : List Nat) (w : World) (h1 : Rd w A1 l1) (h2 : Rd w A2 l2) (hc1 : l1.length ≤ c1) (hc2 : l2.length ≤ c2) (k1 : Canon l1) (k2 : Canon l2) (hs1 : l1.length ≤ 65536) (hs2 : l2.length ≤ 65536) :
    Calls Tryd.prog 96 #[.bool an, .slice A1 l1.length c1, .bool bn, .slice A2 l2.length c2] w (RetSgn (addS an (val l1) bn (val l2)).1 (addS an (val l1) bn (val l2)).2 w) := by
  have hadd := add_calls A1 A2 c1 c2 l1 l2 w h1 h2 hc1 hc2 (by omega) (by omega)
  have hcm := compare_calls A1 A2 c1 c2 l1 l2 w h1 h2 hc1 hc2 k1 k2
  by_cases he : an = bn
  · subst he
    rw [show addS an (val l1) an (val l2) = (an, val l1 + val l2) from by unfold addS; rw [if_pos rfl]]
    cases an
    all_goals
      go_enter Tryd.func96, Tryd.ntmps96
      go_wp2_with (go_at_call 58; refine hadd.mono ?_; rintro e w' ⟨A, c, rfl, r1, r2, r3⟩)
      go_ret2
      exact ⟨_, _, rfl, r1, r2, r3⟩
  · by_cases hle : val l2 ≤ val l1
    · rw [show addS an (val l1) bn (val l2) = (an, val l1 - val l2) from by unfold addS; rw [if_neg he, if_pos hle]]
      obtain ⟨z, hz⟩ : ∃ z : Nat, cmpZ (val l1 : Int) (val l2 : Int) = (z : Int) := by
        unfold cmpZ; rw [if_neg (by omega)]; split
        · exact ⟨1, rfl⟩
        · exact ⟨0, rfl⟩
      rw [hz] at hcm
      have hll : l2.length ≤ l1.length := by
        have := length_mono hle
        rwa [lim_val k1, lim_val k2] at this
      have hsub := fun nn => sub_calls A1 A2 c1 c2 l1 l2 (w.drewN nn) (h1.on (below_drewN (Below.refl _ _) nn)) (h2.on (below_drewN (Below.refl _ _) nn)) hc1 hc2 hle hll (by omega)
      cases an <;> cases bn <;> first | exact absurd rfl he | skip
      all_goals
        go_enter Tryd.func96, Tryd.ntmps96
        go_wp2_with first
          | (go_at_call 69; refine hcm.mono ?_; rintro e w' ⟨rfl, nn, rfl⟩)
          | (go_at_call 59; refine (hsub nn).mono ?_; rintro e w' ⟨A, c, rfl, r1, r2, r3⟩)
        go_ret2
        exact ⟨_, _, rfl, r1, r2, (below_drewN (Below.refl _ _) nn).trans r3⟩
    · rw [show addS an (val l1) bn (val l2) = (bn, val l2 - val l1) from by unfold addS; rw [if_neg he, if_neg hle]]
      rw [show cmpZ (val l1 : Int) (val l2 : Int) = -1 from by unfold cmpZ; rw [if_pos (by omega)]] at hcm
      have hll : l1.length ≤ l2.length := by
        have := length_mono (show val l1 ≤ val l2 by omega)
        rwa [lim_val k1, lim_val k2] at this
      have hsub := fun nn => sub_calls A2 A1 c2 c1 l2 l1 (w.drewN nn) (h2.on (below_drewN (Below.refl _ _) nn)) (h1.on (below_drewN (Below.refl _ _) nn)) hc2 hc1 (by omega) hll (by omega)
      cases an <;> cases bn <;> first | exact absurd rfl he | skip
      all_goals
        go_enter Tryd.func96, Tryd.ntmps96
        go_wp2_with first
          | (go_at_call 69; refine hcm.mono ?_; rintro e w' ⟨rfl, nn, rfl⟩)
          | (go_at_call 59; refine (hsub nn).mono ?_; rintro e w' ⟨A, c, rfl, r1, r2, r3⟩)
        go_ret2
        exact ⟨_, _, rfl, r1, r2, (below_drewN (Below.refl _ _) nn).trans r3⟩

theorem cell_at {W : World} {B : Nat} {cur : Array Value} {t : TypeId} (h : W.heap[B]? = some (.cells cur t (0, 0))) (i : Nat) (v : Value) (hi : cur[i]? = some v) : W.cell? ⟨B, i, none⟩ = some v := by
  simp only [World.cell?, h, Option.isSome_none, Bool.false_eq_true, if_false]
  exact hi
theorem frozen_at {W : World} {B : Nat} {cur : Array Value} {t : TypeId} (h : W.heap[B]? = some (.cells cur t (0, 0))) (i : Nat) : W.frozen? ⟨B, i, none⟩ = false := by
  simp [World.frozen?, h]

theorem set_blk {W : World} {B : Nat} {cur : Array Value} {t : TypeId} (h : W.heap[B]? = some (.cells cur t (0, 0))) (i : Nat) (v : Value) : (W.setCell ⟨B, i, none⟩ v).heap[B]? = some (.cells (cur.setIfInBounds i v) t (0, 0)) := by
  obtain ⟨hlt, hk⟩ := Array.getElem?_eq_some_iff.1 h
  show (W.heap.modify B _)[B]? = _
  rw [Array.getElem?_eq_getElem (by rw [Array.size_modify]; exact hlt), Array.getElem_modify_self, hk]
  rfl

theorem int_size : (Tryd.prog.info? 24).map (·.size) = some 2 := by kernel_rfl

/-- a result that lies in a cell of type Int -/
theorem ret_cell {fn : Func} {p : Tmp} (h : fn.results = #[.cell p 24]) {a : Act} {w : World} {g : Nat} {x y : Value} {R : Ending → World → Prop} (hd0 : a.defers = []) (hp : a.tmps.getD p undef = .pointer (some ⟨g, 0, none⟩))
    (hg : w.heap[g]? = some (.cells #[x, y] 24 (0, 0))) (hR : R (.returned (.agg #[x, y])) w) : bodyPost Tryd.prog fn R .ret a w := by
  exact bodyPost_ret (results_cell_row h _ _ g 24 #[x, y] (0, 0) _ hp hg Tryd.underlying24 rfl int_size) hd0 hR

/-- an integer that is handed back -/
def RetInt (s : Bool) (n : Nat) (w : World) (e : Ending) (w' : World) : Prop :=
  ∃ A c, e = .returned (iv s A (lim n).length c) ∧ (lim n).length ≤ c ∧ Rd w' A (lim n) ∧ Below w.heap.size w w'

set_option maxRecDepth 100000 in
set_option maxHeartbeats 2000000 in
theorem whole_no (neg : Bool) (A : Option Addr) (c : Nat) (l : List Nat) (w : World) (hA : Rd w A l) (hc : l.length ≤ c) (hl : 300 < (lim (val l)).length) :
    Calls Tryd.prog 60 #[.bool neg, .slice A l.length c] w fun e w' => e = .panicked (wrong 3) ∧ Below w.heap.size w w' := by
  have ht := fun W h => trim_calls A c l W h hc
  unfold trim at ht
  have hb : ∀ o, Below w.heap.size w (w.alloc o) := fun o => (Below.refl _ _).alloc (Nat.le_refl _) _
  have hlt := trim_length_le hA.words
  have hs := hA.small
  unfold trim at hlt
  have h3 : (((lim (val l)).length : Int) ≤ 300) ↔ False := by rw [iff_false]; omega
  go_enter Tryd.func60, Tryd.ntmps60
  go_wp2_with first
    | (go_at_call 101; refine (ht _ (hA.on (hb _))).mono ?_; rintro e w' ⟨rfl, rfl⟩)
    | (go_at_call 56; refine (must_no 3 _).mono ?_; rintro e w' ⟨rfl, rfl⟩)
  exact ⟨rfl, rfl, hb _⟩

set_option maxRecDepth 100000 in
set_option maxHeartbeats 2000000 in
theorem whole_ok (neg : Bool) (A : Option Addr) (c : Nat) (l : List Nat) (w : World) (hA : Rd w A l) (hc : l.length ≤ c) (hl : (lim (val l)).length ≤ 300) :
    Calls Tryd.prog 60 #[.bool neg, .slice A l.length c] w (RetInt (neg && val l != 0) (val l) w) := by
  have ht := fun W h => trim_calls A c l W h hc
  have hlt := trim_length_le hA.words
  have hrt := hA.trim
  unfold trim at ht hlt hrt
  have hb : ∀ o, Below w.heap.size w (w.alloc o) := fun o => (Below.refl _ _).alloc (Nat.le_refl _) _
  have hs := hA.small
  have h3 : (((lim (val l)).length : Int) ≤ 300) ↔ True := by rw [iff_true]; omega
  obtain ⟨i0, hi, hz0, hz1, hz2⟩ := info_parts info_u32
  have hbt : Tryd.prog.underlying 22 = some (.slice 72) := by kernel_rfl
  by_cases h0 : val l = 0
  · rw [h0, lim_zero] at ht hlt hrt h3
    rw [h0]
    have e0 : (neg && (0 : Nat) != 0) = false := by cases neg <;> rfl
    rw [e0]
    cases neg
    all_goals
      go_enter Tryd.func60, Tryd.ntmps60
      go_wp2_with first
        | (go_at_call 101; refine (ht _ (hA.on (hb _))).mono ?_; rintro e w' ⟨rfl, rfl⟩)
        | (go_at_call 56; refine (must_ok 3 _).mono ?_; rintro e w' ⟨rfl, rfl⟩)
        | (at_builtin; (refine wpList_append_none _ rfl _ _ 22 79 rfl 72 72 i0 hbt Tryd.underlying79 hi A c rfl rfl ?_))
    all_goals
      exact ret_cell rfl rfl rfl (World.alloc_heap_new w _) ⟨none, 0, by rw [lim_zero]; rfl, by rw [lim_zero]; exact Nat.le_refl _, by rw [lim_zero]; exact Rd.nil _ _, hb _⟩
  · have hp : 0 < val l := Nat.pos_of_ne_zero h0
    have hlp := lim_length_pos hp
    obtain ⟨b, o, rfl⟩ := hrt.head hlp
    have e0 : (neg && val l != 0) = neg := by
      have : (val l != 0) = true := by simpa using h0
      rw [this]; cases neg <;> rfl
    rw [e0]
    have hnews := rd_news (hrt.on (hb (.cells #[.bool false, .slice none 0 0] 24)))
    have hlp' : ((0 : Int) < ((lim (val l)).length : Int)) ↔ True := by rw [iff_true]; omega
    clear h0
    cases neg
    all_goals
      go_enter Tryd.func60, Tryd.ntmps60
      go_wp2_with first
        | (go_at_call 101; refine (ht _ (hA.on (hb _))).mono ?_; rintro e w' ⟨rfl, rfl⟩)
        | (go_at_call 56; refine (must_ok 3 _).mono ?_; rintro e w' ⟨rfl, rfl⟩)
        | (at_builtin; (refine wpList_append_own2 _ rfl _ _ 22 79 rfl (w.heap.size + 1) 72 72 i0 (.int .u32 0) 1 4 hbt Tryd.underlying79 hi hz0 hz1 hz2 rfl (by decide) _ _ _ rfl (World.ownsRow_nil _ _ _ _) ⟨b, o, none⟩ (lim (val l)).length c (wvals (lim (val l))) rfl (by simp) hnews (wvals_one _) (by unfold maxLen; omega) (by omega) (by simp) ?_); intro v' w4 hown' hg4 _; obtain ⟨A', c', hv', hn', hc', hrd', hab⟩ := own_rd (l := lim (val l)) hown' (words_lim _) (by omega); subst hv'; have hblk : w4.heap[w.heap.size]? = some (.cells #[.bool false, .slice none 0 0] 24 (0, 0)) := (hg4.block w.heap.size (by simp) (fun e => by cases e)).trans (World.alloc_heap_new w _); have x0 : w4.cell? ⟨w.heap.size, 0, none⟩ = some (.bool false) := cell_at hblk 0 _ rfl; have x1 : w4.cell? ⟨w.heap.size, 1, none⟩ = some (.slice none 0 0) := cell_at hblk 1 _ rfl; have y0 := frozen_at hblk 0; have y1 := frozen_at hblk 1; have hb4 : Below w.heap.size w w4 := (hb _).grown hg4 (by simp) (fun j e => by cases e))
      refine ret_cell rfl rfl rfl (set_blk (set_blk hblk 0 _) 1 _) ⟨A', c', rfl, by omega, ?_, (hb4.setCell (Nat.le_refl _) _).setCell (Nat.le_refl _) _⟩
      exact grw_rd (grownBy_setCell_at _ _ _ _) (grw_rd (grownBy_setCell_at _ _ _ _) hrd' (fun b o e => by have := hab b o e; omega)) (fun b o e => by have := hab b o e; omega)

end Nm
end Go.Proofs.YtlhmbbpkhahbeaaDoor
namespace Go.Proofs.YtlhmbbpkhahbeaaDoor
namespace Nm
open Go.RowKit Go.Shelf Go.BigFrame
attribute [local go_sem] Oper.semAt_some

/-- formed -/
structure IsInt (neg : Bool) (l : List Nat) : Prop where
  canon : Canon l
  small : l.length ≤ 300
  sign : neg = true → l ≠ []

theorem sgn_order {n1 n2 : Bool} {l1 l2 : List Nat} (h1 : IsInt n1 l1) (h2 : IsInt n2 l2) (hne : sgn n1 l1 ≠ sgn n2 l2) : cmpZ (sgn n1 l1) (sgn n2 l2) = cmpZ (toZ n1 l1) (toZ n2 l2) := by
  have p1 : l1 ≠ [] → 0 < val l1 := val_pos_of_canon h1.canon
  have p2 : l2 ≠ [] → 0 < val l2 := val_pos_of_canon h2.canon
  have z1 : l1 = [] → val l1 = 0 := by rintro rfl; rfl
  have z2 : l2 = [] → val l2 = 0 := by rintro rfl; rfl
  have s1 := h1.sign
  have s2 := h2.sign
  unfold sgn at *
  unfold toZ cmpZ
  by_cases e1 : l1 = [] <;> by_cases e2 : l2 = [] <;> cases n1 <;> cases n2 <;> simp_all <;> omega

theorem sgn_same {n1 n2 : Bool} {l1 l2 : List Nat} (h1 : n1 = true → 0 < l1.length) (h2 : n2 = true → 0 < l2.length) (e : sgn n1 l1 = sgn n2 l2) : n2 = n1 := by
  unfold sgn at e
  cases n1 <;> cases n2
  · rfl
  · have := h2 rfl
    exfalso
    rw [if_neg (show ¬ l2.length = 0 by omega)] at e
    by_cases hz : l1.length = 0
    · rw [if_pos hz] at e; exact absurd e (by decide)
    · rw [if_neg hz] at e; exact absurd e (by decide)
  · have := h1 rfl
    exfalso
    rw [if_neg (show ¬ l1.length = 0 by omega)] at e
    by_cases hz : l2.length = 0
    · rw [if_pos hz] at e; exact absurd e (by decide)
    · rw [if_neg hz] at e; exact absurd e (by decide)
  · rfl

theorem below_drew {n : Nat} {w W : World} (h : Below n w W) : Below n w W.drew := below_drewN h 1

set_option maxRecDepth 100000 in
set_option maxHeartbeats 2000000 in
theorem order_calls (n1 n2 : Bool) (A1 A2 : Option Addr) (c1 c2 : Nat) (l1 l2 : List Nat) (w : World) (h1 : Rd w A1 l1) (h2 : Rd w A2 l2) (hc1 : l1.length ≤ c1) (hc2 : l2.length ≤ c2) (k1 : IsInt n1 l1) (k2 : IsInt n2 l2) :
    Calls Tryd.prog 98 #[iv n1 A1 l1.length c1, iv n2 A2 l2.length c2] w fun e w' => e = .returned (.int .i64 (cmpZ (toZ n1 l1) (toZ n2 l2))) ∧ Below w.heap.size w w' := by
  have hsg : ∀ (n : Bool) (l : List Nat), ∃ z : Int, sgn n l = z ∧ -1 ≤ z ∧ z ≤ 1 := by
    intro n l
    refine ⟨_, rfl, ?_⟩
    unfold sgn
    split
    · omega
    · split <;> omega
  have t1 := fun W => sign_calls n1 A1 c1 l1 W
  have t2 := fun W => sign_calls n2 A2 c2 l2 W
  obtain ⟨s1, e1, b1, b2⟩ := hsg n1 l1
  obtain ⟨s2, e2, b3, b4⟩ := hsg n2 l2
  rw [e1] at t1
  rw [e2] at t2
  by_cases hne : s1 = s2
  · subst hne
    have hl1 : n1 = true → 0 < l1.length := fun h => List.length_pos_iff.2 (k1.sign h)
    have hl2 : n2 = true → 0 < l2.length := fun h => List.length_pos_iff.2 (k2.sign h)
    have hnn : n2 = n1 := sgn_same hl1 hl2 (e1.trans e2.symm)
    have hne' : (s1 != s1) = false := by simp
    clear hsg hl1 hl2
    cases n1
    · have hn : n2 = false := hnn
      subst hn
      have hcm := fun W (hW : Below w.heap.size w W) => compare_calls A1 A2 c1 c2 l1 l2 W (h1.on hW) (h2.on hW) hc1 hc2 k1.canon k2.canon
      rw [show cmpZ (val l1 : Int) (val l2 : Int) = cmpZ (toZ false l1) (toZ false l2) from rfl] at hcm
      clear e1 e2
      go_enter Tryd.func98, Tryd.ntmps98
      go_wp2_with fail
      go_region_held3 (fun w' => w'.cell? ⟨w.heap.size, 0, none⟩ = some (.bool false) ∧ w'.cell? ⟨w.heap.size, 1, none⟩ = some (.slice A1 l1.length c1) ∧ w'.cell? ⟨w.heap.size + 1, 0, none⟩ = some (.bool false) ∧ w'.cell? ⟨w.heap.size + 1, 1, none⟩ = some (.slice A2 l2.length c2)) ((first | assumption | go_keep))
        ((first
          | (go_at_call 121; have hmark := m1; refine (t2 _).mono ?_; rintro e w4 ⟨rfl, rfl⟩)
          | (go_at_call 121; refine (t1 _).mono ?_; rintro e w3 ⟨rfl, rfl⟩; have m1 : True := trivial)))
      go_wp2_with first
        | (go_at_call 69; refine (hcm _ (by (repeat (first | exact Below.refl _ _ | refine below_drew ?_ | refine Below.alloc ?_ (by simp; omega) _ | refine Below.alloc ?_ (by simp) _)))).mono ?_; rintro e w5 ⟨rfl, nn, rfl⟩)
      go_ret
      exact ⟨rfl, by refine below_drewN ?_ _; (repeat (first | exact Below.refl _ _ | refine below_drew ?_ | refine Below.alloc ?_ (by simp; omega) _ | refine Below.alloc ?_ (by simp) _))⟩
    · have hn : n2 = true := hnn
      subst hn
      have hcm := fun W (hW : Below w.heap.size w W) => compare_calls A2 A1 c2 c1 l2 l1 W (h2.on hW) (h1.on hW) hc2 hc1 k2.canon k1.canon
      rw [show cmpZ (val l2 : Int) (val l1 : Int) = cmpZ (toZ true l1) (toZ true l2) from by unfold cmpZ toZ; simp only [if_true]; split <;> split <;> (try split) <;> (try split) <;> omega] at hcm
      clear e1 e2
      go_enter Tryd.func98, Tryd.ntmps98
      go_wp2_with fail
      go_region_held3 (fun w' => w'.cell? ⟨w.heap.size, 0, none⟩ = some (.bool true) ∧ w'.cell? ⟨w.heap.size, 1, none⟩ = some (.slice A1 l1.length c1) ∧ w'.cell? ⟨w.heap.size + 1, 0, none⟩ = some (.bool true) ∧ w'.cell? ⟨w.heap.size + 1, 1, none⟩ = some (.slice A2 l2.length c2)) ((first | assumption | go_keep))
        ((first
          | (go_at_call 121; have hmark := m1; refine (t2 _).mono ?_; rintro e w4 ⟨rfl, rfl⟩)
          | (go_at_call 121; refine (t1 _).mono ?_; rintro e w3 ⟨rfl, rfl⟩; have m1 : True := trivial)))
      go_wp2_with first
        | (go_at_call 69; refine (hcm _ (by (repeat (first | exact Below.refl _ _ | refine below_drew ?_ | refine Below.alloc ?_ (by simp; omega) _ | refine Below.alloc ?_ (by simp) _)))).mono ?_; rintro e w5 ⟨rfl, nn, rfl⟩)
      go_ret
      exact ⟨rfl, by refine below_drewN ?_ _; (repeat (first | exact Below.refl _ _ | refine below_drew ?_ | refine Below.alloc ?_ (by simp; omega) _ | refine Below.alloc ?_ (by simp) _))⟩
  · have hc := fun W => cmp_int_calls s1 s2 W
    have ho := sgn_order k1 k2 (by rw [e1, e2]; exact hne)
    rw [e1, e2] at ho
    rw [ho] at hc
    clear e1 e2 ho hsg
    have hne' : (s1 != s2) = true := by rw [bne_iff_ne]; exact hne
    go_enter Tryd.func98, Tryd.ntmps98
    go_wp2_with fail
    go_region_held3 (fun w' => w'.cell? ⟨w.heap.size, 0, none⟩ = some (.bool n1) ∧ w'.cell? ⟨w.heap.size, 1, none⟩ = some (.slice A1 l1.length c1) ∧ w'.cell? ⟨w.heap.size + 1, 0, none⟩ = some (.bool n2) ∧ w'.cell? ⟨w.heap.size + 1, 1, none⟩ = some (.slice A2 l2.length c2)) ((first | assumption | go_keep))
      ((first
        | (go_at_call 121; have hmark := m1; refine (t2 _).mono ?_; rintro e w4 ⟨rfl, rfl⟩)
        | (go_at_call 121; refine (t1 _).mono ?_; rintro e w3 ⟨rfl, rfl⟩; have m1 : True := trivial)))
    go_wp2_with first
      | (go_at_call 114; refine (hc _).mono ?_; rintro e w5 ⟨rfl, rfl⟩)
    go_ret
    exact ⟨rfl, by (repeat (first | exact Below.refl _ _ | refine below_drew ?_ | refine Below.alloc ?_ (by simp; omega) _ | refine Below.alloc ?_ (by simp) _))⟩

/-- the arguments of 'formed' -/
structure IntArg where
  neg : Bool
  A : Option Addr
  c : Nat
  l : List Nat

def IntArg.ok (x : IntArg) : Bool := okI x.neg x.l

structure ArgsAt (w : World) (g : Nat) (xs : List IntArg) : Prop where
  neg : ∀ k (h : k < xs.length), w.cell? ⟨g, k * 2, none⟩ = some (.bool xs[k].neg)
  abs : ∀ k (h : k < xs.length), w.cell? ⟨g, k * 2 + 1, none⟩ = some (.slice xs[k].A xs[k].l.length xs[k].c)
  rd : ∀ k (h : k < xs.length), Rd w xs[k].A xs[k].l ∧ xs[k].l.length ≤ xs[k].c

set_option maxRecDepth 100000 in
set_option maxHeartbeats 2000000 in
theorem formed_calls (g : Nat) (xs : List IntArg) (w : World) (hg : g < w.heap.size) (hx : ArgsAt w g xs) (hn : xs.length ≤ 8) :
    Calls Tryd.prog 55 #[.slice (some ⟨g, 0, none⟩) xs.length xs.length] w fun e w' =>
      (xs.all IntArg.ok = true → e = .returned (.tuple #[])) ∧ (xs.all IntArg.ok = false → e = .panicked (wrong 1)) ∧ Below w.heap.size w w' := by
  go_enter Tryd.func55, Tryd.ntmps55
  go_wp2_with fail
  go_loopw [6] (fun i W => ∃ k : Nat, i = .int .i64 (k : Int) ∧ k ≤ xs.length ∧ (xs.take k).all IntArg.ok = true ∧ Below w.heap.size w W) (fun i _ => xs.length - (intOf i).toNat)
  case atStart => exact ⟨0, rfl, Nat.zero_le _, rfl, Below.refl _ _⟩
  case round =>
    obtain ⟨k, rfl, hk, hall, hbl⟩ := hrel
    by_cases hlt : k < xs.length
    · have x0 := (hbl.cell (p := ⟨g, k * 2, none⟩) hg).trans (hx.neg k hlt)
      have x1 := (hbl.cell (p := ⟨g, k * 2 + 1, none⟩) hg).trans (hx.abs k hlt)
      obtain ⟨hrd, hcc⟩ := hx.rd k hlt
      obtain ⟨x, hxk⟩ : ∃ x, xs[k] = x := ⟨_, rfl⟩
      rw [hxk] at x0 x1 hrd hcc
      have hck := fun (W' : World) (h : Rd W' x.A x.l) => Check_calls x.neg x.A x.c x.l W' h hcc
      have hbw : ∀ o, Below wr.heap.size wr (wr.alloc o) := fun o => (Below.refl _ _).alloc (Nat.le_refl _) _
      have hrw := hrd.on hbl
      clear hx
      by_cases hok : okI x.neg x.l = true
      · simp only [hok, if_true] at hck
        go_wp2_with first
          | (go_at_call 48; (refine (hck _ (hrw.on (hbw _))).mono ?_; rintro e w4 ⟨rfl, hb4⟩))
          | (go_at_call 56; refine (must_ok 1 _).mono ?_; rintro e w5 ⟨rfl, rfl⟩)
        refine ⟨⟨k + 1, by simp, by omega, ?_, hbl.trans (((hbw _).trans (hb4.mono (by simp))).mono hbl.size)⟩, by simp only [intOf]; omega⟩
        rw [List.take_succ_eq_append_getElem hlt, List.all_append, hall, hxk]
        simp [IntArg.ok, hok]
      · have hok' : okI x.neg x.l = false := by simpa using hok
        simp only [hok', Bool.false_eq_true, if_false] at hck
        go_wp2_with first
          | (go_at_call 48; refine (hck _ (hrw.on (hbw _))).mono ?_; rintro e w4 ⟨rfl, hb4⟩)
          | (go_at_call 56; refine (must_no 1 _).mono ?_; rintro e w5 ⟨rfl, rfl⟩)
        refine ⟨rfl, fun h => ?_, fun _ => rfl, hbl.trans (((hbw _).trans (hb4.mono (by simp))).mono hbl.size)⟩
        have := List.all_eq_true.1 h xs[k] (List.getElem_mem hlt)
        rw [hxk] at this
        exact absurd this hok
    · go_wp2_with fail
      go_end0
      rw [List.take_of_length_le (by omega)] at hall
      refine ⟨fun _ => rfl, ?_, hbl⟩
      intro h
      rw [hall] at h
      cases h

end Nm
end Go.Proofs.YtlhmbbpkhahbeaaDoor
namespace Go.Proofs.YtlhmbbpkhahbeaaDoor
namespace Nm
open Go.RowKit Go.Shelf Go.BigFrame
attribute [local go_sem] Oper.semAt_some

set_option maxRecDepth 100000 in
theorem bitsOf_calls (n : Nat) (w : World) (hn : n ≤ 1000000) :
    Calls Tryd.prog 110 #[.int .i64 (n : Int)] w fun e w' => e = .returned (.int .i64 (blen n : Int)) ∧ w' = w := by
  go_enter Tryd.func110, Tryd.ntmps110
  go_wp2_with fail
  go_loopw [0, 3] (fun x y W => ∃ m k : Nat, x = .int .i64 (m : Int) ∧ y = .int .i64 (k : Int) ∧ Hid (blen m + k = blen n) ∧ m ≤ n ∧ k ≤ blen n ∧ W = w) (fun x _ _ => (intOf x).toNat)
  case atStart => exact ⟨n, 0, rfl, rfl, Nat.add_zero _, Nat.le_refl _, Nat.zero_le _, rfl⟩
  case round =>
    obtain ⟨m, k, rfl, rfl, hb, hm, hk, rfl⟩ := hrel
    have hbn : blen n ≤ 32 := blen_word (by omega)
    by_cases h0 : 0 < m
    · obtain ⟨q, hq, hq'⟩ : ∃ q : Nat, (m : Int) / 2 = (q : Int) ∧ Hid (q = m / 2) := ⟨m / 2, by omega, rfl⟩
      go_wp2_with fail
      have hh := blen_half (n := m) (by omega)
      rw [← hq'.out] at hh
      have hb' := hb.out
      refine ⟨⟨q, k + 1, rfl, by simp, by show _ = _; omega, by have := hq'.out; omega, by omega, trivial⟩, by simp only [intOf]; have := hq'.out; omega⟩
    · obtain rfl : m = 0 := by omega
      have hkb : k = blen n := by have := hb.out; rw [blen_zero] at this; omega
      subst hkb
      go_wp2_with fail
      go_ret
      exact ⟨rfl, rfl⟩

theorem and_one (a : Nat) (ha : a < 9223372036854775808) : bits .and .i64 (a : Int) 1 = ((a % 2 : Nat) : Int) := by
  have := (bits_nat .i64 63 (by decide) (fun n h0 h1 => by rw [IntKind.wrap_i64]; omega) a 1 (by omega) (by decide)).1
  rw [show ((1 : Nat) : Int) = 1 from rfl] at this
  rw [this, Nat.and_one_is_mod]

/-- the steps of a power -/
theorem pow_step (a n i : Nat) : (a ^ (n / 2 ^ (i + 1))) * (a ^ (n / 2 ^ (i + 1))) * (if n / 2 ^ i % 2 = 1 then a else 1) = a ^ (n / 2 ^ i) := by
  have h : n / 2 ^ (i + 1) = n / 2 ^ i / 2 := by rw [Nat.pow_succ, Nat.div_div_eq_div_mul]
  rw [h, ← Nat.pow_add]
  generalize n / 2 ^ i = m
  by_cases hm : m % 2 = 1
  · rw [if_pos hm, ← Nat.pow_succ]; congr 1; omega
  · rw [if_neg hm, Nat.mul_one]; congr 1; omega

theorem pow_len_mono {a m n : Nat} (h : m ≤ n) (hm : 300 < (lim (a ^ m)).length) : 300 < (lim (a ^ n)).length := by
  rcases Nat.eq_zero_or_pos a with rfl | ha
  · exfalso
    have : (lim (0 ^ m)).length ≤ 1 := length_le_of_lt (by
      rcases Nat.eq_zero_or_pos m with rfl | hp
      · decide
      · rw [Nat.zero_pow hp]; decide)
    omega
  · exact Nat.lt_of_lt_of_le hm (length_mono (Nat.pow_le_pow_right ha h))

set_option maxRecDepth 100000 in
set_option maxHeartbeats 4000000 in
theorem power_calls (A : Option Addr) (c a n : Nat) (w : World) (hA : Rd w A (lim a)) (hc : (lim a).length ≤ c) (ha : (lim a).length ≤ 300) (hn : n ≤ 1000000) :
    Calls Tryd.prog 65 #[.slice A (lim a).length c, .int .i64 (n : Int)] w fun e w' =>
      ((lim (a ^ n)).length ≤ 300 → RetNat (a ^ n) w e w') ∧ (300 < (lim (a ^ n)).length → e = .panicked (wrong 3)) ∧ Below w.heap.size w w' := by
  have hbits := fun W => bitsOf_calls n W hn
  have hbn : blen n ≤ 32 := blen_word (by omega)
  have hb1 : ∀ o, Below w.heap.size w (w.alloc o) := fun o => (Below.refl _ _).alloc (Nat.le_refl _) _
  have hone := arr_rd (arr_new w [1]) (by intro u hu; simp at hu; rw [hu]; decide) (by simp)
  have hl1 : lim 1 = [1] := lim_val (l := [1]) ⟨by intro u hu; simp at hu; rw [hu]; decide, fun h => by simp⟩
  go_enter Tryd.func65, Tryd.ntmps65
  go_wp2_with (go_at_call 110; refine (hbits _).mono ?_; rintro e w' ⟨rfl, rfl⟩)
  go_loopw [5, 6] (fun o i W => ∃ (k : Nat) (B : Option Addr) (d : Nat), i = .int .i64 ((k : Int) - 1) ∧ k ≤ blen n ∧ o = .slice B (lim (a ^ (n / 2 ^ k))).length d ∧ (lim (a ^ (n / 2 ^ k))).length ≤ d ∧ (lim (a ^ (n / 2 ^ k))).length ≤ 300 ∧ Rd W B (lim (a ^ (n / 2 ^ k))) ∧ Below w.heap.size w W)
    (fun _ i _ => (intOf i + 1).toNat)
  case atStart =>
    have e : n / 2 ^ blen n = 0 := Nat.div_eq_of_lt (blen_lt n)
    refine ⟨blen n, some ⟨w.heap.size, 0, none⟩, 1, rfl, Nat.le_refl _, ?_, ?_, ?_, ?_, hb1 _⟩
    all_goals rw [e, Nat.pow_zero, hl1]
    · rfl
    · simp
    · simp
    · exact hone
  case round =>
    obtain ⟨k, B, d, rfl, hk, rfl, hd, h3, hr, hbl⟩ := hrel
    by_cases h0 : 0 < k
    · obtain ⟨k, rfl⟩ : ∃ j, k = j + 1 := ⟨k - 1, by omega⟩
      rw [show ((k + 1 : Nat) : Int) - 1 = (k : Int) by omega]
      clear h0
      obtain ⟨m, hm, hm', hmb⟩ : ∃ m : Nat, (n : Int) / 2 ^ k = (m : Int) ∧ Hid (m = n / 2 ^ k) ∧ m ≤ 1000000 := ⟨n / 2 ^ k, by simp, rfl, Nat.le_trans (Nat.div_le_self _ _) hn⟩
      obtain ⟨bt, hbt, hbt'⟩ : ∃ m' : Nat, bits .and .i64 (m : Int) 1 = (m' : Int) ∧ Hid (m' = m % 2) := ⟨m % 2, and_one m (by omega), rfl⟩
      have hst := pow_step a n k
      rw [← hm'.out, ← hbt'.out] at hst
      have hmle : m ≤ n := by rw [hm'.out]; exact Nat.div_le_self _ _
      obtain ⟨p, hp⟩ : ∃ p, a ^ (n / 2 ^ (k + 1)) = p := ⟨_, rfl⟩
      rw [hp] at hst hd h3 hr ⊢
      obtain ⟨pp, hpp⟩ : ∃ q, p * p = q := ⟨_, rfl⟩
      rw [hpp] at hst
      have hl2 := prod_length h3 h3
      rw [hpp] at hl2
      have hmul1 : ∀ W, Below wr.heap.size wr W → Calls Tryd.prog 68 #[.slice B (lim p).length d, .slice B (lim p).length d] W (RetNat pp W) := by
        intro W hW
        have := mul_calls B B d d (lim p) (lim p) W (hr.on hW) (hr.on hW) hd hd (canon_lim _) (canon_lim _) (by omega)
        rwa [val_lim, hpp] at this
      have hmul2 : ∀ W B' d', Rd W B' (lim pp) → (lim pp).length ≤ d' → Below w.heap.size w W → Calls Tryd.prog 68 #[.slice B' (lim pp).length d', .slice A (lim a).length c] W (RetNat (pp * a) W) := by
        intro W B' d' h1 h2 hW
        have := mul_calls B' A d' c (lim pp) (lim a) W h1 (hA.on hW) h2 hc (canon_lim _) (canon_lim _) (by omega)
        rwa [val_lim, val_lim] at this
      clear hp hpp
      by_cases hbit : bt = 1
      · subst hbit
        rw [if_pos rfl] at hst
        obtain ⟨v, hv⟩ : ∃ v, pp * a = v := ⟨_, rfl⟩
        rw [hv] at hst
        simp only [hv] at hmul2
        have Hst := Lib.hid hst
        clear hst hv
        have hv' : v = a ^ (n / 2 ^ k) := by rw [← hm'.out]; exact Hst.out
        have Hv := Lib.hid hv'
        clear hv'
        by_cases hs : (lim v).length ≤ 300
        · have hs' : (((lim v).length : Int) ≤ 300) ↔ True := by rw [iff_true]; omega
          go_wp2_with first
            | (go_at_call 68; refine (hmul2 w2 B2 d2 r2 n2 (hbl.trans (x2.mono hbl.size))).mono ?_; rintro e w3 ⟨B3, d3, rfl, n3, r3, x3⟩)
            | (go_at_call 68; refine (hmul1 wr (Below.refl _ _)).mono ?_; rintro e w2 ⟨B2, d2, rfl, n2, r2, x2⟩)
            | (go_at_call 56; refine (must_ok 3 _).mono ?_; rintro e w5 ⟨rfl, rfl⟩)
          refine ⟨⟨k, B3, _, rfl, by omega, by rw [← Hv.out], by rw [← Hv.out]; exact n3, by rw [← Hv.out]; exact hs, by rw [← Hv.out]; exact r3, (hbl.trans (x2.mono hbl.size)).trans (x3.mono (hbl.trans (x2.mono hbl.size)).size)⟩, by simp only [intOf]; omega⟩
        · have hs' : (((lim v).length : Int) ≤ 300) ↔ False := by rw [iff_false]; omega
          go_wp2_with first
            | (go_at_call 68; refine (hmul2 w2 B2 d2 r2 n2 (hbl.trans (x2.mono hbl.size))).mono ?_; rintro e w3 ⟨B3, d3, rfl, n3, r3, x3⟩)
            | (go_at_call 68; refine (hmul1 wr (Below.refl _ _)).mono ?_; rintro e w2 ⟨B2, d2, rfl, n2, r2, x2⟩)
            | (go_at_call 56; refine (must_no 3 _).mono ?_; rintro e w5 ⟨rfl, rfl⟩)
          have hbig : 300 < (lim (a ^ n)).length := pow_len_mono hmle (by have := Hst.out; rw [← this]; omega)
          exact ⟨rfl, fun h => by omega, fun _ => rfl, (hbl.trans (x2.mono hbl.size)).trans (x3.mono (hbl.trans (x2.mono hbl.size)).size)⟩
      · rw [if_neg hbit, Nat.mul_one] at hst
        have hb' : (((bt : Nat) : Int) == 1) = false := by rw [beq_eq_false_iff_ne]; omega
        have Hst := Lib.hid hst
        clear hst hmul2
        have hv' : pp = a ^ (n / 2 ^ k) := by rw [← hm'.out]; exact Hst.out
        have Hv := Lib.hid hv'
        clear hv'
        by_cases hs : (lim pp).length ≤ 300
        · have hs' : (((lim pp).length : Int) ≤ 300) ↔ True := by rw [iff_true]; omega
          go_wp2_with first
            | (go_at_call 68; refine (hmul1 wr (Below.refl _ _)).mono ?_; rintro e w2 ⟨B2, d2, rfl, n2, r2, x2⟩)
            | (go_at_call 56; refine (must_ok 3 _).mono ?_; rintro e w5 ⟨rfl, rfl⟩)
          refine ⟨⟨k, B2, _, rfl, by omega, by rw [← Hv.out], by rw [← Hv.out]; exact n2, by rw [← Hv.out]; exact hs, by rw [← Hv.out]; exact r2, hbl.trans (x2.mono hbl.size)⟩, by simp only [intOf]; omega⟩
        · have hs' : (((lim pp).length : Int) ≤ 300) ↔ False := by rw [iff_false]; omega
          go_wp2_with first
            | (go_at_call 68; refine (hmul1 wr (Below.refl _ _)).mono ?_; rintro e w2 ⟨B2, d2, rfl, n2, r2, x2⟩)
            | (go_at_call 56; refine (must_no 3 _).mono ?_; rintro e w5 ⟨rfl, rfl⟩)
          have hbig : 300 < (lim (a ^ n)).length := pow_len_mono hmle (by have := Hst.out; rw [← this]; omega)
          exact ⟨rfl, fun h => by omega, fun _ => rfl, hbl.trans (x2.mono hbl.size)⟩
    · obtain rfl : k = 0 := by omega
      rw [Nat.pow_zero, Nat.div_one] at hd h3 hr ⊢
      go_wp2_with fail
      go_ret
      exact ⟨fun _ => ⟨_, _, rfl, hd, hr, hbl⟩, fun h => by omega, hbl⟩

end Nm
end Go.Proofs.YtlhmbbpkhahbeaaDoor
namespace Go.Proofs.YtlhmbbpkhahbeaaDoor
namespace Nm

theorem two_sq (x r : Nat) : 2 * (r * x) ≤ x * x + r * r := by
  rcases Nat.le_total x r with h | h
  · obtain ⟨d, rfl⟩ := Nat.exists_eq_add_of_le h
    have e := Nat.mul_comm d x
    simp only [Nat.mul_add, Nat.add_mul]
    omega
  · obtain ⟨d, rfl⟩ := Nat.exists_eq_add_of_le h
    have e := Nat.mul_comm d r
    simp only [Nat.mul_add, Nat.add_mul]
    omega

theorem amgm (x r n : Nat) : (n + 1) * (r * x ^ n) ≤ n * x ^ (n + 1) + r ^ (n + 1) := by
  induction n with
  | zero => simp
  | succ n ih =>
    have h1 := Nat.mul_le_mul (Nat.le_refl r) ih
    have h2 := Nat.mul_le_mul (Nat.le_refl ((n + 1) * x ^ n)) (two_sq x r)
    have e1 : r * ((n + 1) * (r * x ^ n)) = (n + 1) * x ^ n * (r * r) := by
      rw [Nat.mul_comm r, Nat.mul_assoc, Nat.mul_assoc (n + 1), Nat.mul_comm (r * x ^ n) r, Nat.mul_comm (x ^ n), ← Nat.mul_assoc r r]
    have e2 : r * (n * x ^ (n + 1) + r ^ (n + 1)) = n * (r * x ^ (n + 1)) + r ^ (n + 2) := by
      rw [Nat.mul_add, Nat.mul_left_comm, ← Nat.pow_succ']
    have e3 : (n + 1) * x ^ n * (2 * (r * x)) = 2 * (n + 1) * (r * x ^ (n + 1)) := by
      rw [Nat.pow_succ]
      generalize x ^ n = P
      simp only [Nat.mul_comm, Nat.mul_left_comm, Nat.mul_assoc]
    have e4 : (n + 1) * x ^ n * (x * x + r * r) = (n + 1) * x ^ (n + 2) + (n + 1) * x ^ n * (r * r) := by
      rw [Nat.mul_add, Nat.pow_succ, Nat.pow_succ, Nat.mul_assoc (n + 1), Nat.mul_assoc (x ^ n)]
    rw [e1, e2] at h1
    rw [e3, e4] at h2
    rw [show n + 1 + 1 = n + 2 from rfl]
    generalize r * x ^ (n + 1) = A at *
    generalize (n + 1) * x ^ n * (r * r) = B at *
    generalize (n + 1) * x ^ (n + 2) = C at *
    generalize r ^ (n + 2) = D at *
    have e5 : n * A = (n + 2) * A - 2 * A := by rw [Nat.add_mul]; omega
    have e6 : 2 * (n + 1) * A = (n + 2) * A + n * A := by rw [← Nat.add_mul]; congr 1; omega
    omega

/-- Newton's step does not go below a root -/
theorem newton_ge {a x r m : Nat} (hx : 0 < x) (h : r ^ (m + 1) ≤ a) : (m + 1) * r ≤ m * x + a / x ^ m := by
  have hp : 0 < x ^ m := Nat.pow_pos hx
  have h1 := amgm x r m
  have h2 : (m + 1) * r * x ^ m ≤ m * x * x ^ m + a := by
    rw [Nat.pow_succ, ← Nat.mul_assoc (m + 1), Nat.mul_comm (x ^ m) x, ← Nat.mul_assoc m] at h1
    omega
  have h3 : (m + 1) * r ≤ (m * x * x ^ m + a) / x ^ m := (Nat.le_div_iff_mul_le hp).2 h2
  rw [Nat.add_comm (m * x * x ^ m) a, Nat.add_mul_div_right _ _ hp] at h3
  omega

/-- where it does not go down the number is no greater than the root -/
theorem newton_stop {a x m : Nat} (hx : 0 < x) (h : x ≤ (m * x + a / x ^ m) / (m + 1)) : x ^ (m + 1) ≤ a := by
  have hp : 0 < x ^ m := Nat.pow_pos hx
  have h1 := (Nat.le_div_iff_mul_le (show 0 < m + 1 by omega)).1 h
  have h2 : x ≤ a / x ^ m := by rw [Nat.mul_succ, Nat.mul_comm x m] at h1; omega
  have h3 := (Nat.le_div_iff_mul_le hp).1 h2
  rwa [Nat.pow_succ, Nat.mul_comm]

/-- x is the greatest whose n-th power is at most a -/
def IsRoot (a n x : Nat) : Prop := x ^ n ≤ a ∧ ∀ r, r ^ n ≤ a → r ≤ x

theorem root_start {a n r : Nat} (hn : 0 < n) (h : r ^ n ≤ a) : r ≤ 2 ^ ((blen a + n - 1) / n) := by
  rcases Nat.lt_or_ge (2 ^ ((blen a + n - 1) / n)) r with hc | hc
  · exfalso
    have h1 : (2 ^ ((blen a + n - 1) / n)) ^ n ≤ r ^ n := Nat.pow_le_pow_left (Nat.le_of_lt hc) n
    rw [← Nat.pow_mul] at h1
    have h2 : blen a ≤ (blen a + n - 1) / n * n := by
      have := Nat.div_add_mod (blen a + n - 1) n
      have h4 := Nat.mod_lt (blen a + n - 1) hn
      rw [Nat.mul_comm]
      generalize n * ((blen a + n - 1) / n) = X at *
      omega
    have h3 := Nat.pow_le_pow_right (n := 2) (by decide) h2
    have := blen_lt a
    omega
  · exact hc

theorem root_small {a n x : Nat} (_hn : 0 < n) (hx : x ≤ 2 ^ ((blen a + n - 1) / n)) : x ^ n ≤ 2 ^ (blen a + n - 1) := by
  refine Nat.le_trans (Nat.pow_le_pow_left hx n) ?_
  rw [← Nat.pow_mul]
  exact Nat.pow_le_pow_right (by decide) (Nat.div_mul_le_self _ _)

theorem newton_root {a x m : Nat} (hx : 0 < x) (hP : ∀ r, r ^ (m + 1) ≤ a → r ≤ x) (h : x ≤ (m * x + a / x ^ m) / (m + 1)) : IsRoot a (m + 1) x := ⟨newton_stop hx h, hP⟩

theorem newton_next {a x m : Nat} (hx : 0 < x) {r : Nat} (h : r ^ (m + 1) ≤ a) : r ≤ (m * x + a / x ^ m) / (m + 1) := by
  rw [Nat.le_div_iff_mul_le (by omega), Nat.mul_comm]
  exact newton_ge hx h

end Nm
end Go.Proofs.YtlhmbbpkhahbeaaDoor
namespace Go.Proofs.YtlhmbbpkhahbeaaDoor
namespace Nm
open Go.RowKit Go.Shelf Go.BigFrame
attribute [local go_sem] Oper.semAt_some

/-- the number in a slice of words -/
def slotVal (o : Value) (W : World) : Nat :=
  match o with
  | .slice (some a) n _ => val ((List.range n).map fun i => match W.cell? ⟨a.block, a.off + i, none⟩ with | some (.int _ z) => z.toNat | _ => 0)
  | _ => 0

theorem slotVal_eq {W : World} {A : Option Addr} {l : List Nat} {d : Nat} (h : Rd W A l) : slotVal (.slice A l.length d) W = val l := by
  rcases Nat.eq_zero_or_pos l.length with h0 | h0
  · obtain rfl : l = [] := List.length_eq_zero_iff.1 h0
    cases A <;> rfl
  · obtain ⟨b, o, rfl⟩ := h.head h0
    show val _ = val l
    congr 1
    apply List.ext_getElem
    · simp
    · intro i h1 h2
      obtain ⟨b', o', e, hc⟩ := h.cell i h2
      cases e
      simp only [List.getElem_map, List.getElem_range]
      rw [hc]
      simp [h2, List.getD_eq_getElem?_getD]

theorem one_word {n : Nat} (h0 : 0 < n) (h : n < 4294967296) : lim n = [n] := by
  rw [lim_pos h0, Nat.mod_eq_of_lt h, Nat.div_eq_of_lt h, lim_zero]

theorem rd_word (W : World) {n : Nat} (h0 : 0 < n) (h : n < 4294967296) : Rd (W.alloc (.cells #[.int .u32 (n : Int)] 72)) (some ⟨W.heap.size, 0, none⟩) (lim n) := by
  rw [one_word h0 h]
  exact arr_rd (arr_new W [n]) (by intro u hu; simp at hu; rw [hu]; exact h) (by simp)

theorem len_of_bits {y m k : Nat} (h : y < 2 ^ m) (hm : m ≤ 32 * k) : (lim y).length ≤ k := by
  refine length_le_of_lt (Nat.lt_of_lt_of_le h ?_)
  rewrite [pow_BB]
  exact Nat.pow_le_pow_right (by decide) hm
theorem len_of_words {y j k : Nat} (h : y < BB ^ j) (hj : j ≤ k) : (lim y).length ≤ k := Nat.le_trans (length_le_of_lt h) hj
theorem big_len {y m : Nat} (h : y ≤ 2 ^ m) (hm : m ≤ 9700) : (lim y).length ≤ 304 :=
  len_of_bits (m := m + 1) (Nat.lt_of_le_of_lt h (Nat.pow_lt_pow_right (by decide) (Nat.lt_succ_self m))) (by omega)
theorem bits_of_len {a k : Nat} (h : a < BB ^ k) : a < 2 ^ (32 * k) := by rwa [pow_BB] at h
theorem blen_lt_of {a m : Nat} (h : a < 2 ^ m) : blen a ≤ m := by
  rcases Nat.lt_or_ge m (blen a) with hc | hc
  · exfalso
    have ha : a ≠ 0 := by rintro rfl; simp [blen] at hc
    have h2 := blen_le ha
    have h3 := Nat.pow_le_pow_right (n := 2) (by decide) (show m + 1 ≤ blen a by omega)
    rw [Nat.pow_succ] at h3
    omega
  · exact hc

theorem blen_len {a : Nat} (h : (lim a).length ≤ 300) : blen a ≤ 9600 :=
  Nat.le_trans (blen_lt_of (bits_of_len (lt_of_length_le (Nat.le_refl _)))) (by omega)

set_option maxRecDepth 100000 in
set_option maxHeartbeats 4000000 in
theorem root_calls (A : Option Addr) (c a n : Nat) (w : World) (hA : Rd w A (lim a)) (hc : (lim a).length ≤ c) (ha : (lim a).length ≤ 300) (hn1 : 1 ≤ n) (hn2 : n ≤ 100) :
    Calls Tryd.prog 67 #[.slice A (lim a).length c, .int .i64 (n : Int)] w fun e w' => ∃ x, IsRoot a n x ∧ RetNat x w e w' := by
  by_cases h0 : a = 0
  · subst h0
    rw [lim_zero] at hA hc ⊢
    go_enter Tryd.func67, Tryd.ntmps67
    go_wp2_with fail
    go_ret
    refine ⟨0, ⟨by rw [Nat.zero_pow (by omega)]; exact Nat.le_refl _, fun r hr => ?_⟩, A, c, by rw [lim_zero]; rfl, by rw [lim_zero]; exact hc, by rw [lim_zero]; exact hA, Below.refl _ _⟩
    rcases Nat.eq_zero_or_pos r with h | h
    · omega
    · have := Nat.pow_pos (n := n) h; omega
  · have hap : 0 < a := Nat.pos_of_ne_zero h0
    have hlp := lim_length_pos hap
    have hl0 : (((lim a).length : Int) == 0) = false := by rw [beq_eq_false_iff_ne]; omega
    by_cases h1 : n = 1
    · subst h1
      go_enter Tryd.func67, Tryd.ntmps67
      go_wp2_with fail
      go_ret
      exact ⟨a, ⟨by rw [Nat.pow_one]; exact Nat.le_refl _, fun r hr => by rwa [Nat.pow_one] at hr⟩, A, c, rfl, hc, hA, Below.refl _ _⟩
    · have hn1' : ((n : Int) == 1) = false := by rw [beq_eq_false_iff_ne]; omega
      obtain ⟨m, hm, hm'⟩ : ∃ m : Nat, (n : Int) - 1 = (m : Int) ∧ Hid (n = m + 1) := ⟨n - 1, by omega, by show n = _; omega⟩
      have hm1 : 1 ≤ m := by have := hm'.out; omega
      have hm2 : m ≤ 99 := by have := hm'.out; omega
      have hbl := blen_len ha
      obtain ⟨bl, hbb⟩ : ∃ b, blen a = b := ⟨_, rfl⟩
      have hbits := fun W h => bits_calls A c (lim a) W h hc (canon_lim a) (by omega)
      rw [val_lim, hbb] at hbits
      rw [hbb] at hbl
      obtain ⟨s, hs, hs', hsb⟩ : ∃ s : Nat, ((bl : Int) + (n : Int) - 1) / (n : Int) = (s : Int) ∧ Hid (s = (bl + n - 1) / n) ∧ s ≤ 9700 := by
        refine ⟨(bl + n - 1) / n, ?_, rfl, Nat.le_trans (Nat.div_le_self _ _) (by omega)⟩
        rw [show (bl : Int) + (n : Int) - 1 = ((bl + n - 1 : Nat) : Int) by omega]
        simp
      have hst : ∀ r, r ^ n ≤ a → r ≤ 2 ^ s := fun r hr => by rw [hs'.out, ← hbb]; exact root_start (by omega) hr
      have hsm : ∀ x, x ≤ 2 ^ s → (lim (x ^ n)).length ≤ 304 := fun x hx => big_len (root_small (a := a) (by omega) (by rw [hbb, ← hs'.out]; exact hx)) (by rw [hbb]; omega)
      have hshift : ∀ W, Below (w.alloc (.cells #[.int .u32 1] 72)).heap.size (w.alloc (.cells #[.int .u32 1] 72)) W → Calls Tryd.prog 104 #[.slice (some ⟨w.heap.size, 0, none⟩) 1 1, .int .i64 (s : Int)] W (RetNat (2 ^ s) W) := by
        intro W hW
        have := shift_calls (some ⟨w.heap.size, 0, none⟩) 1 s (lim 1) W ((rd_word w (n := 1) (by decide) (by decide)).on hW) (by rw [one_word (by decide) (by decide)]; simp) (by omega) (by rw [one_word (by decide) (by decide)]; simp)
        rwa [val_lim, one_word (by decide) (by decide), Nat.one_mul] at this
      have hb1 : ∀ o, Below w.heap.size w (w.alloc o) := fun o => (Below.refl _ _).alloc (Nat.le_refl _) _
      have Hst := Lib.hid hst
      have Hsm := Lib.hid hsm
      have Hbb := Lib.hid hbb
      clear hst hsm hbb
      go_enter Tryd.func67, Tryd.ntmps67
      go_wp2_with first
        | (go_at_call 94; refine (hbits _ (hA.on (hb1 _))).mono ?_; rintro e w2 ⟨rfl, nn, rfl⟩)
        | (go_at_call 104; refine (hshift _ (below_drewN (Below.refl _ _) nn)).mono ?_; rintro e w3 ⟨B0, d0, rfl, n0, r0, x0⟩)
      have hbA := below_drewN (hb1 (.cells #[.int .u32 1] 72)) nn
      have hb3 : Below w.heap.size w w3 := hbA.trans (x0.mono hbA.size)
      clear hbA
      go_loopw [5] (fun o W => ∃ (x : Nat) (B : Option Addr) (d : Nat), o = .slice B (lim x).length d ∧ (lim x).length ≤ d ∧ 0 < x ∧ x ≤ 2 ^ s ∧ Hid (∀ r, r ^ n ≤ a → r ≤ x) ∧ Rd W B (lim x) ∧ Below w.heap.size w W) (fun o W => slotVal o W)
      case atStart => exact ⟨2 ^ s, B0, d0, rfl, n0, Nat.two_pow_pos s, Nat.le_refl _, Hst.out, r0, hb3⟩
      case round =>
        clear hb3 x0 r0 n0 hbits hshift
        obtain ⟨x, B, d, rfl, hd, hx0, hxs, hP, hr, hbl⟩ := hrel
        obtain ⟨W0, hW0⟩ : ∃ W0, W0 = wr := ⟨wr, rfl⟩
        subst hW0
        have hlx := Hsm.out x hxs
        have hpl : ∀ i, i ≤ n → (lim (x ^ i)).length ≤ 304 := fun i hi => Nat.le_trans (length_mono (Nat.pow_le_pow_right hx0 hi)) hlx
        have hlx1 : (lim x).length ≤ 304 := by have := hpl 1 hn1; rwa [Nat.pow_one] at this
        have Hpl := Lib.hid hpl
        have hmul : ∀ W p A' d', Below W0.heap.size W0 W → Rd W A' (lim p) → (lim p).length ≤ d' → (lim p).length ≤ 304 → Calls Tryd.prog 68 #[.slice A' (lim p).length d', .slice B (lim x).length d] W (RetNat (p * x) W) := by
          intro W p A' d' hW h1 h2 h3
          have := mul_calls A' B d' d (lim p) (lim x) W h1 (hr.on hW) h2 hd (canon_lim _) (canon_lim _) (by omega)
          rwa [val_lim, val_lim] at this
        have hW0 : ∀ o, Below W0.heap.size W0 (W0.alloc o) := fun o => (Below.refl _ _).alloc (Nat.le_refl _) _
        clear hpl hlx
        go_wp2_with fail
        go_loopw [6, 32] (fun p i W => ∃ (k : Nat) (A' : Option Addr) (d' : Nat), i = .int .i64 (k : Int) ∧ k ≤ m ∧ p = .slice A' (lim (x ^ k)).length d' ∧ (lim (x ^ k)).length ≤ d' ∧ Rd W A' (lim (x ^ k)) ∧ Below W0.heap.size W0 W) (fun _ i _ => m - (intOf i).toNat)
        case atStart =>
          refine ⟨0, some ⟨W0.heap.size, 0, none⟩, 1, rfl, Nat.zero_le _, ?_, ?_, ?_, hW0 _⟩
          · rw [Nat.pow_zero, one_word (by decide) (by decide)]; rfl
          · rw [Nat.pow_zero, one_word (by decide) (by decide)]; simp
          · rw [Nat.pow_zero]; exact rd_word W0 (n := 1) (by decide) (by decide)
        case round =>
          obtain ⟨k, A', d', rfl, hk, rfl, hd', hr', hbl'⟩ := hrel
          by_cases hkm : k < m
          · have hm2' := hmul wr (x ^ k) A' d' hbl' hr' hd' (Hpl.out k (by have := hm'.out; omega))
            rw [← Nat.pow_succ] at hm2'
            obtain ⟨pk, hpk⟩ : ∃ q, x ^ k = q := ⟨_, rfl⟩
            obtain ⟨pk1, hpk1⟩ : ∃ q, x ^ (k + 1) = q := ⟨_, rfl⟩
            rw [hpk] at hm2' ⊢
            rw [hpk1] at hm2'
            have Hpk1 := Lib.hid hpk1
            clear hpk hpk1 hmul
            go_wp2_with (go_at_call 68; refine hm2'.mono ?_; rintro e w5 ⟨B2, d2, rfl, n2, r2, x2⟩)
            refine ⟨⟨k + 1, B2, d2, by simp, by omega, by rw [Hpk1.out], by rw [Hpk1.out]; exact n2, by rw [Hpk1.out]; exact r2, hbl'.trans (x2.mono hbl'.size)⟩, by simp only [intOf]; omega⟩
          · obtain rfl : k = m := by omega
            have hpm : 0 < x ^ k := Nat.pow_pos hx0
            have hP' : ∀ r, r ^ (k + 1) ≤ a → r ≤ x := by have := hP.out; rwa [hm'.out] at this
            have hnext : ∀ r, r ^ (k + 1) ≤ a → r ≤ (k * x + a / x ^ k) / (k + 1) := fun r h => newton_next hx0 h
            have hroot := newton_root (a := a) hx0 hP'
            have hlpm := Hpl.out k (by have := hm'.out; omega)
            have hlq := length_mono (Nat.div_le_self a (x ^ k))
            have hone' := hnext 1 (by rw [Nat.one_pow]; exact hap)
            obtain ⟨pm, hpm'⟩ : ∃ q, x ^ k = q := ⟨_, rfl⟩
            rw [hpm'] at hpm hnext hroot hlpm hlq hone' hd' hr' ⊢
            obtain ⟨q, hq⟩ : ∃ q, a / pm = q := ⟨_, rfl⟩
            obtain ⟨rr, hrr⟩ : ∃ q, a % pm = q := ⟨_, rfl⟩
            rw [hq] at hnext hroot hlq hone'
            obtain ⟨S, hS⟩ : ∃ S, k * x + q = S := ⟨_, rfl⟩
            rw [hS] at hnext hroot hone'
            have hn' := hm'.out
            rw [← hn'] at hnext hroot hone'
            obtain ⟨y, hy⟩ : ∃ y, S / n = y := ⟨_, rfl⟩
            rw [hy] at hnext hroot hone'
            obtain ⟨xk, hxk⟩ : ∃ y, x * k = y := ⟨_, rfl⟩
            have hlk : (lim k).length = 1 := by rw [one_word (n := k) (by omega) (by omega)]; rfl
            have hln : (lim n).length = 1 := by rw [one_word (n := n) (by omega) (by omega)]; rfl
            have hlxk : (lim xk).length ≤ 305 := by
              have := prod_length (x := x) (y := k) hlx1 (Nat.le_of_eq hlk)
              rw [hxk] at this; omega
            have hlS : (lim S).length ≤ 306 := by
              have := sum_length (x := xk) (y := q) (k := 305) hlxk (by omega)
              rw [← hxk, Nat.mul_comm, hS] at this; exact this
            have hly := length_mono (show y ≤ S by rw [← hy]; exact Nat.div_le_self _ _)
            have hwa : ∀ (W : World) o, Below W.heap.size W (W.alloc o) := fun W o => (Below.refl _ _).alloc (Nat.le_refl _) _
            have hdiv1 : ∀ W, Below W0.heap.size W0 W → Calls Tryd.prog 57 #[.slice A (lim a).length c, .slice A' (lim pm).length d'] wr (RetDiv q rr wr) := by
              intro W _
              have := div_calls A A' c d' (lim a) (lim pm) wr (hA.on (hbl.trans (hbl'.mono hbl.size))) hr' hc hd' (canon_lim _) (canon_lim _) (by rw [val_lim]; exact hpm) (by omega)
              rwa [val_lim, val_lim, hq, hrr] at this
            have hmul2 : ∀ W, Below W0.heap.size W0 W → Calls Tryd.prog 68 #[.slice B (lim x).length d, .slice (some ⟨W.heap.size, 0, none⟩) 1 1] (W.alloc (.cells #[.int .u32 (k : Int)] 72)) (RetNat xk (W.alloc (.cells #[.int .u32 (k : Int)] 72))) := by
              intro W hW
              have := mul_calls B (some ⟨W.heap.size, 0, none⟩) d 1 (lim x) (lim k) (W.alloc (.cells #[.int .u32 (k : Int)] 72)) (hr.on (hW.trans ((hwa W _).mono hW.size))) (rd_word W (by omega) (by omega)) hd (by rw [hlk]; exact Nat.le_refl _) (canon_lim _) (canon_lim _) (by rw [hlk]; omega)
              rwa [val_lim, val_lim, hxk, hlk] at this
            have hadd : ∀ W A1 d1 A2 d2, Rd W A1 (lim xk) → (lim xk).length ≤ d1 → Rd W A2 (lim q) → (lim q).length ≤ d2 → Calls Tryd.prog 58 #[.slice A1 (lim xk).length d1, .slice A2 (lim q).length d2] W (RetNat S W) := by
              intro W A1 d1 A2 d2 h1 h2 h3 h4
              have := add_calls A1 A2 d1 d2 (lim xk) (lim q) W h1 h3 h2 h4 (by omega) (by omega)
              rwa [val_lim, val_lim, show xk + q = S by rw [← hxk, Nat.mul_comm, hS]] at this
            have hdiv2 : ∀ W A1 d1, Below W0.heap.size W0 W → Rd W A1 (lim S) → (lim S).length ≤ d1 → Calls Tryd.prog 57 #[.slice A1 (lim S).length d1, .slice (some ⟨W.heap.size, 0, none⟩) 1 1] (W.alloc (.cells #[.int .u32 (n : Int)] 72)) (RetDiv y (S % n) (W.alloc (.cells #[.int .u32 (n : Int)] 72))) := by
              intro W A1 d1 hW h1 h2
              have := div_calls A1 (some ⟨W.heap.size, 0, none⟩) d1 1 (lim S) (lim n) (W.alloc (.cells #[.int .u32 (n : Int)] 72)) (h1.on (hwa W _)) (rd_word W (by omega) (by omega)) h2 (by rw [hln]; exact Nat.le_refl _) (canon_lim _) (canon_lim _) (by rw [val_lim]; omega) (by omega)
              rwa [val_lim, val_lim, hy, hln] at this
            have Hq := Lib.hid hq
            have Hxk := Lib.hid hxk
            obtain ⟨sn, hsn⟩ : ∃ z, S % n = z := ⟨_, rfl⟩
            simp only [hsn] at hdiv2
            clear hq hrr hS hy hxk hlk hln hsn hmul hpm' hn'
            by_cases hyx : x ≤ y
            · obtain ⟨z, hz⟩ : ∃ z : Nat, cmpZ (y : Int) (x : Int) = (z : Int) := by
                unfold cmpZ; rw [if_neg (by omega)]; split
                · exact ⟨1, rfl⟩
                · exact ⟨0, rfl⟩
              have hcm : ∀ W A1 d1, Below W0.heap.size W0 W → Rd W A1 (lim y) → (lim y).length ≤ d1 → Calls Tryd.prog 69 #[.slice A1 (lim y).length d1, .slice B (lim x).length d] W fun e w' => e = .returned (.int .i64 (z : Int)) ∧ ∃ n, w' = W.drewN n := by
                intro W A1 d1 hW h1 h2
                have := compare_calls A1 B d1 d (lim y) (lim x) W h1 (hr.on hW) h2 hd (canon_lim _) (canon_lim _)
                rw [val_lim, val_lim] at this
                rwa [show cmpZ (y : Int) (x : Int) = (z : Int) from hz] at this
              have hroot' := Lib.hid (hroot hyx)
              clear hz hroot hnext hP' hP
              go_wp2_with first
                | (go_at_call 57; refine (hdiv2 w7 A7 c7 x7 r7 n7).mono ?_; rintro e w8 ⟨Ay, cy, Az, cz, rfl, n8, _, r8, _, b8⟩; have x8 := x7.trans ((hwa w7 _).trans (b8.mono (hwa _ _).size) |>.mono x7.size))
                | (go_at_call 57; refine (hdiv1 wr hbl').mono ?_; rintro e w5 ⟨Aq, cq, Ar, cr, rfl, n5, _, r5, _, b5⟩; have x5 := hbl'.trans (b5.mono hbl'.size))
                | (go_at_call 68; refine (hmul2 w5 x5).mono ?_; rintro e w6 ⟨A6, c6, rfl, n6, r6, b6⟩; have x6 := x5.trans ((hwa w5 _).trans (b6.mono (hwa _ _).size) |>.mono x5.size))
                | (go_at_call 58; refine (hadd w6 A6 c6 Aq cq r6 n6 (r5.on ((hwa w5 _).trans (b6.mono (hwa _ _).size))) n5).mono ?_; rintro e w7 ⟨A7, c7, rfl, n7, r7, b7⟩; have x7 := x6.trans (b7.mono x6.size))
                | (go_at_call 69; refine (hcm w8 Ay cy x8 r8 n8).mono ?_; rintro e w9 ⟨rfl, nn, rfl⟩)
              have xx := below_drewN x8 nn
              go_ret
              exact ⟨x, hroot'.out, B, d, rfl, hd, hr.on xx, hbl.trans (xx.mono hbl.size)⟩
            · have hcm : ∀ W A1 d1, Below W0.heap.size W0 W → Rd W A1 (lim y) → (lim y).length ≤ d1 → Calls Tryd.prog 69 #[.slice A1 (lim y).length d1, .slice B (lim x).length d] W fun e w' => e = .returned (.int .i64 (-1)) ∧ ∃ n, w' = W.drewN n := by
                intro W A1 d1 hW h1 h2
                have := compare_calls A1 B d1 d (lim y) (lim x) W h1 (hr.on hW) h2 hd (canon_lim _) (canon_lim _)
                rw [val_lim, val_lim] at this
                rwa [show cmpZ (y : Int) (x : Int) = (-1) from by unfold cmpZ; rw [if_pos (by omega)]] at this
              have hnext' := Lib.hid hnext
              clear hroot hnext hP' hP
              go_wp2_with first
                | (go_at_call 57; refine (hdiv2 w7 A7 c7 x7 r7 n7).mono ?_; rintro e w8 ⟨Ay, cy, Az, cz, rfl, n8, _, r8, _, b8⟩; have x8 := x7.trans ((hwa w7 _).trans (b8.mono (hwa _ _).size) |>.mono x7.size))
                | (go_at_call 57; refine (hdiv1 wr hbl').mono ?_; rintro e w5 ⟨Aq, cq, Ar, cr, rfl, n5, _, r5, _, b5⟩; have x5 := hbl'.trans (b5.mono hbl'.size))
                | (go_at_call 68; refine (hmul2 w5 x5).mono ?_; rintro e w6 ⟨A6, c6, rfl, n6, r6, b6⟩; have x6 := x5.trans ((hwa w5 _).trans (b6.mono (hwa _ _).size) |>.mono x5.size))
                | (go_at_call 58; refine (hadd w6 A6 c6 Aq cq r6 n6 (r5.on ((hwa w5 _).trans (b6.mono (hwa _ _).size))) n5).mono ?_; rintro e w7 ⟨A7, c7, rfl, n7, r7, b7⟩; have x7 := x6.trans (b7.mono x6.size))
                | (go_at_call 69; refine (hcm w8 Ay cy x8 r8 n8).mono ?_; rintro e w9 ⟨rfl, nn, rfl⟩)
              have xx := below_drewN x8 nn
              have r8' := r8.on (below_drewN (Below.refl w8.heap.size w8) nn)
              refine ⟨⟨y, Ay, cy, rfl, n8, hone', Nat.le_trans (Nat.le_of_lt (Nat.lt_of_not_le hyx)) hxs, hnext', r8', hbl.trans (xx.mono hbl.size)⟩, ?_⟩
              rw [slotVal_eq r8', slotVal_eq hr, val_lim, val_lim]
              exact Nat.lt_of_not_le hyx

end Nm
end Go.Proofs.YtlhmbbpkhahbeaaDoor
namespace Go.Proofs.YtlhmbbpkhahbeaaDoor
namespace Nm
open Go.RowKit Go.Shelf Go.BigFrame
attribute [local go_sem] Oper.semAt_some

set_option maxRecDepth 100000 in
theorem assert_wrong (x : Int) (W : World) : (Instr.typeAssert (.iface 126 (.agg #[.int .i64 x])) 20 126 true).run Tryd.prog W = .ok (.tuple #[.agg #[.int .i64 x], .bool true]) W := by
  rfl

theorem catch_idle_int (p q : Addr) (w : World) :
    CallsD Tryd.prog 109 #[.pointer (some p), .pointer (some q)] .returning w fun e u' w' => e = .returned (.tuple #[]) ∧ u' = .returning ∧ w' = w := by
  refine callsD_of_wpS Tryd.func109 rfl fun c₀ cs hu => ?_
  apply wpS_seq
  apply wpS_region
  simp [wpOpsS, go_sem, recoverD, hu, Tryd.ntmps109, Exit.thenS]
  apply wpS_seq
  apply wpS_seq
  apply wpS_region
  simp [wpOpsS, go_sem, Exit.thenS]
  refine wpS_cond (t := true) (by simp [Act.eval, Array.replicate]) ?_
  simp only [if_true]
  refine wpS_of_wp (wp_ret ?_)
  cases c₀
  simp_all [bodyPostS, results, Tryd.results109, Exit.thenS]

set_option maxRecDepth 100000 in
set_option maxHeartbeats 2000000 in
theorem catch_wrong_int (g : Nat) (x : Int) (older : List PanicEntry) (a b : Value) (c : Value) (w : World) (h1 : w.heap[g]? = some (.cells #[a, b] 24 (0, 0))) (h2 : w.heap[g + 1]? = some (.cells #[c] 28 (0, 0))) :
    CallsD Tryd.prog 109 #[.pointer (some ⟨g, 0, none⟩), .pointer (some ⟨g + 1, 0, none⟩)] (.panicking ({ v := .iface 126 (.agg #[.int .i64 x]), recovered := false } :: older)) w fun e u' w' =>
      e = .returned (.tuple #[]) ∧ u' = .panicking ({ v := .iface 126 (.agg #[.int .i64 x]), recovered := true } :: older) ∧
        w'.heap[g]? = some (.cells #[.bool false, .slice none 0 0] 24 (0, 0)) ∧ w'.heap[g + 1]? = some (.cells #[.int .i64 x] 28 (0, 0)) ∧ Below g w w' := by
  refine callsD_of_wpS Tryd.func109 rfl fun c₀ cs hu => ?_
  apply wpS_seq
  apply wpS_region
  simp [wpOpsS, go_sem, recoverD, hu, Tryd.ntmps109, Exit.thenS]
  refine wpS_of_wp ?_
  have hta := assert_wrong x
  have x0 := cell_at h1 0 a rfl
  have x1 := cell_at h1 1 b rfl
  have x2 := cell_at h2 0 c rfl
  have y0 := frozen_at h1 0
  have y1 := frozen_at h1 1
  have y2 := frozen_at h2 0
  simp only [Array.replicate_succ, Array.replicate_zero, List.push_toArray, List.nil_append, List.cons_append]
  go_wp2_with fail
  have hl1 := (Array.getElem?_eq_some_iff.1 h1).1
  have hl2 := (Array.getElem?_eq_some_iff.1 h2).1
  obtain ⟨W4, hW4⟩ : ∃ W4, ((w.alloc (.cells #[.int .i64 x] 126)).alloc (.cells #[.bool false, .slice none 0 0] 24)) = W4 := ⟨_, rfl⟩
  have hz1 : W4.heap[w.heap.size]? = some (.cells #[.int .i64 x] 126 (0, 0)) := by rw [← hW4]; exact (Below.heap_alloc _ _ _ (by simp)).trans (World.alloc_heap_new w _)
  have hz2 : W4.heap[w.heap.size + 1]? = some (.cells #[.bool false, .slice none 0 0] 24 (0, 0)) := by rw [← hW4]; have := World.alloc_heap_new (w.alloc (.cells #[.int .i64 x] 126)) (.cells #[.bool false, .slice none 0 0] 24); rwa [World.size_alloc] at this
  have hz3 : W4.heap[g]? = some (.cells #[a, b] 24 (0, 0)) := by rw [← hW4]; exact (Below.heap_alloc _ _ _ (by simp; omega)).trans ((Below.heap_alloc _ _ _ hl1).trans h1)
  have hz4 : W4.heap[g + 1]? = some (.cells #[c] 28 (0, 0)) := by rw [← hW4]; exact (Below.heap_alloc _ _ _ (by simp; omega)).trans ((Below.heap_alloc _ _ _ hl2).trans h2)
  have hbl : Below g w W4 := by rw [← hW4]; exact ((Below.refl g w).alloc (by omega) _).alloc (by simp; omega) _
  rw [hW4]
  clear hW4 x0 x1 x2 y0 y1 y2 h1 h2
  have z0 := cell_at hz1 0 _ rfl
  have z1 := cell_at hz2 0 _ rfl
  have z2 := cell_at hz2 1 _ rfl
  have x0 := cell_at hz3 0 a rfl
  have x1 := cell_at hz3 1 b rfl
  have x2 := cell_at hz4 0 c rfl
  have y0 := frozen_at hz3 0
  have y1 := frozen_at hz3 1
  have y2 := frozen_at hz4 0
  have n1 : ¬ g = w.heap.size := by omega
  have n2 : ¬ g = w.heap.size + 1 := by omega
  have n3 : ¬ w.heap.size = g := by omega
  have n4 : ¬ w.heap.size + 1 = g := by omega
  have n5 : ¬ g + 1 = w.heap.size := by omega
  have n6 : ¬ g + 1 = w.heap.size + 1 := by omega
  have n7 : ¬ w.heap.size = g + 1 := by omega
  have n8 : ¬ w.heap.size + 1 = g + 1 := by omega
  generalize w.heap.size = bq at *
  go_region_held3 (fun w' => w'.cell? ⟨bq, 0, none⟩ = some (.int .i64 x) ∧ w'.cell? ⟨bq + 1, 0, none⟩ = some (.bool false) ∧ w'.cell? ⟨bq + 1, 1, none⟩ = some (.slice none 0 0)) ((first | assumption | go_keep)) ((first | fail))
  cases c₀
  simp (config := { zetaDelta := true }) only [bodyPostS, results, Tryd.results109]
  refine ⟨trivial, _, rfl, .tuple #[], by simp [go_sem], rfl, rfl, ?_, ?_, ?_⟩
  · exact (Below.heap_setCell _ _ _ g (by simp)).trans (set_blk (set_blk hz3 0 _) 1 _)
  · exact set_blk ((Below.heap_setCell _ _ _ (g + 1) (by simp)).trans ((Below.heap_setCell _ _ _ (g + 1) (by simp)).trans hz4)) 0 _
  · exact below_drew (((hbl.setCell (Nat.le_refl _) _).setCell (Nat.le_refl _) _).setCell (by simp) _)

set_option maxRecDepth 100000 in
set_option maxHeartbeats 2000000 in
/-- 'try' over a closure that hands back an Int -/
theorem try_int_ok (G : Nat) (caps : Array Value) (hG : ∀ (args : Array Value) (w : World), (callFunc G args).run Tryd.prog w = .ok (.enter G args) w) (w : World) (W2 : World)
    (hW2 : (w.alloc (.cells #[.bool false, .slice none 0 0] 24)).alloc (.cells #[.int .i64 0] 28) = W2) (R : Bool → Option Addr → Nat → Nat → World → Prop)
    (h : Calls Tryd.prog G caps W2 fun e w' => ∃ s A n c, e = .returned (.agg #[.bool s, .slice A n c]) ∧ R s A n c w' ∧ Below W2.heap.size W2 w') :
    Calls Tryd.prog 63 #[.func (.func G) #[] caps] w fun e w' =>
      ∃ s A n c w1, R s A n c w1 ∧ Below w.heap.size w w' ∧ (∀ A l, Rd w1 A l → Rd w' A l) ∧ e = .returned (.tuple #[.agg #[.bool s, .slice A n c], .int .i64 0]) := by
  have hmf : ∀ (fn : Fn) (first cap : Array Value) (w : World), (Instr.makeFunc fn first cap).run Tryd.prog w = .ok (.func fn first cap) w := fun _ _ _ _ => rfl
  have hz1 : W2.heap[w.heap.size]? = some (.cells #[.bool false, .slice none 0 0] 24 (0, 0)) := by rw [← hW2]; exact (Below.heap_alloc _ _ _ (by simp)).trans (World.alloc_heap_new w _)
  have hz2 : W2.heap[w.heap.size + 1]? = some (.cells #[.int .i64 0] 28 (0, 0)) := by rw [← hW2]; have := World.alloc_heap_new (w.alloc (.cells #[.bool false, .slice none 0 0] 24)) (.cells #[.int .i64 0] 28); rwa [World.size_alloc] at this
  have hsz : W2.heap.size = w.heap.size + 2 := by rw [← hW2]; simp
  have hb2 : Below w.heap.size w W2 := by rw [← hW2]; exact ((Below.refl _ w).alloc (Nat.le_refl _) _).alloc (by simp) _
  have Hsz := Lib.hid hsz
  clear hsz
  go_enter_defers Tryd.func63, Tryd.ntmps63
  go_wp2_with first
    | (refine h.mono ?_; rintro e w' ⟨s, A, n, c, rfl, hR, hbl⟩; have hy1 := (hbl.block w.heap.size (by have := Hsz.out; omega)).trans hz1; have hy2 := (hbl.block (w.heap.size + 1) (by have := Hsz.out; omega)).trans hz2; have x0 := cell_at hy1 0 _ rfl; have x1 := cell_at hy1 1 _ rfl; have x2 := cell_at hy2 0 _ rfl; have y0 := frozen_at hy1 0; have y1 := frozen_at hy1 1; have y2 := frozen_at hy2 0)
  obtain ⟨X, hX⟩ : ∃ X, (((w'.setCell ⟨w.heap.size, 0, none⟩ (.bool s)).setCell ⟨w.heap.size, 1, none⟩ (.slice A n c)).setCell ⟨w.heap.size + 1, 0, none⟩ (.int .i64 0)) = X := ⟨_, rfl⟩
  have hx1 : X.heap[w.heap.size]? = some (.cells #[.bool s, .slice A n c] 24 (0, 0)) := by rw [← hX]; exact (Below.heap_setCell _ _ _ _ (by simp)).trans (set_blk (set_blk hy1 0 _) 1 _)
  have hx2 : X.heap[w.heap.size + 1]? = some (.cells #[.int .i64 0] 28 (0, 0)) := by rw [← hX]; exact set_blk ((Below.heap_setCell _ _ _ _ (by simp)).trans ((Below.heap_setCell _ _ _ _ (by simp)).trans hy2)) 0 _
  have hbX : Below w.heap.size w X := by rw [← hX]; exact (((hb2.trans (hbl.mono hb2.size)).setCell (Nat.le_refl _) _).setCell (Nat.le_refl _) _).setCell (by simp) _
  have hRd : ∀ A l, Rd w' A l → Rd X A l := by
    intro A l hA
    rw [← hX]
    rcases Nat.eq_zero_or_pos l.length with h0 | h0
    · obtain rfl : l = [] := List.length_eq_zero_iff.1 h0
      exact Rd.nil _ _
    · obtain ⟨b, o, rfl⟩ := hA.head h0
      obtain ⟨b', o', e, hc⟩ := hA.cell 0 h0
      cases e
      have e1 : b ≠ w.heap.size := by
        rintro rfl
        simp only [World.cell?, hy1, Option.isSome_none, Bool.false_eq_true, if_false] at hc
        rcases Nat.lt_or_ge (o + 0) 2 with h | h
        · rcases (show o + 0 = 0 ∨ o + 0 = 1 by omega) with h | h <;> rw [h] at hc <;> simp at hc
        · rw [Array.getElem?_eq_none (by simpa using h)] at hc; cases hc
      have e2 : b ≠ w.heap.size + 1 := by
        rintro rfl
        simp only [World.cell?, hy2, Option.isSome_none, Bool.false_eq_true, if_false] at hc
        rcases Nat.lt_or_ge (o + 0) 1 with h | h
        · rw [show o + 0 = 0 by omega] at hc; simp at hc
        · rw [Array.getElem?_eq_none (by simpa using h)] at hc; cases hc
      exact grw_rd (grownBy_setCell_at _ _ _ _) (grw_rd (grownBy_setCell_at _ _ _ _) (grw_rd (grownBy_setCell_at _ _ _ _) hA (fun b o e => by cases e; exact e1)) (fun b o e => by cases e; exact e1)) (fun b o e => by cases e; exact e2)
  rw [hX]
  refine leaves_cons (f := 109) (args := #[.pointer (some ⟨w.heap.size, 0, none⟩), .pointer (some ⟨w.heap.size + 1, 0, none⟩)]) (by simp) (by simp [go_sem]) ?_
  refine (catch_idle_int ⟨w.heap.size, 0, none⟩ ⟨w.heap.size + 1, 0, none⟩ _).mono ?_
  rintro e u' w'' ⟨rfl, rfl, rfl⟩
  have v0 := cell_at hx1 0 _ rfl
  have v1 := cell_at hx1 1 _ rfl
  have v2 := cell_at hx2 0 _ rfl
  refine ⟨.tuple #[.agg #[.bool s, .slice A n c], .int .i64 0], ?_, s, A, n, c, w', hR, hbX, hRd, rfl⟩
  simp [results, Tryd.results63, go_sem, v0, v1, v2]

set_option maxRecDepth 100000 in
set_option maxHeartbeats 2000000 in
/-- 'try' over a closure that panics with 'wrong' -/
theorem try_int_wrong (G : Nat) (caps : Array Value) (hG : ∀ (args : Array Value) (w : World), (callFunc G args).run Tryd.prog w = .ok (.enter G args) w) (w : World) (W2 : World)
    (hW2 : (w.alloc (.cells #[.bool false, .slice none 0 0] 24)).alloc (.cells #[.int .i64 0] 28) = W2) (c : Int)
    (h : Calls Tryd.prog G caps W2 fun e w' => e = .panicked (wrong c) ∧ Below W2.heap.size W2 w') :
    Calls Tryd.prog 63 #[.func (.func G) #[] caps] w fun e w' =>
      Below w.heap.size w w' ∧ e = .returned (.tuple #[.agg #[.bool false, .slice none 0 0], .int .i64 c]) := by
  have hmf : ∀ (fn : Fn) (first cap : Array Value) (w : World), (Instr.makeFunc fn first cap).run Tryd.prog w = .ok (.func fn first cap) w := fun _ _ _ _ => rfl
  have hz1 : W2.heap[w.heap.size]? = some (.cells #[.bool false, .slice none 0 0] 24 (0, 0)) := by rw [← hW2]; exact (Below.heap_alloc _ _ _ (by simp)).trans (World.alloc_heap_new w _)
  have hz2 : W2.heap[w.heap.size + 1]? = some (.cells #[.int .i64 0] 28 (0, 0)) := by rw [← hW2]; have := World.alloc_heap_new (w.alloc (.cells #[.bool false, .slice none 0 0] 24)) (.cells #[.int .i64 0] 28); rwa [World.size_alloc] at this
  have hsz : W2.heap.size = w.heap.size + 2 := by rw [← hW2]; simp
  have hb2 : Below w.heap.size w W2 := by rw [← hW2]; exact ((Below.refl _ w).alloc (Nat.le_refl _) _).alloc (by simp) _
  have Hsz := Lib.hid hsz
  clear hsz
  go_enter_defers Tryd.func63, Tryd.ntmps63
  go_wp2_with first
    | (refine h.mono ?_; rintro e w' ⟨rfl, hbl⟩)
  have hy1 := (hbl.block w.heap.size (by have := Hsz.out; omega)).trans hz1
  have hy2 := (hbl.block (w.heap.size + 1) (by have := Hsz.out; omega)).trans hz2
  have hbw : Below w.heap.size w w' := hb2.trans (hbl.mono hb2.size)
  refine leaves_cons (f := 109) (args := #[.pointer (some ⟨w.heap.size, 0, none⟩), .pointer (some ⟨w.heap.size + 1, 0, none⟩)]) (by simp) (by simp [go_sem]) ?_
  refine (catch_wrong_int w.heap.size c [] _ _ _ _ hy1 hy2).mono ?_
  rintro e u' w'' ⟨rfl, rfl, hx1, hx2, hbx⟩
  have v0 := cell_at hx1 0 _ rfl
  have v1 := cell_at hx1 1 _ rfl
  have v2 := cell_at hx2 0 _ rfl
  refine ⟨.tuple #[.agg #[.bool false, .slice none 0 0], .int .i64 c], ?_, hbw.trans hbx, rfl⟩
  simp [results, Tryd.results63, go_sem, v0, v1, v2]

end Nm
end Go.Proofs.YtlhmbbpkhahbeaaDoor
namespace Go.Proofs.YtlhmbbpkhahbeaaDoor
namespace Nm
open Go.RowKit Go.Shelf Go.BigFrame
attribute [local go_sem] Oper.semAt_some

/-- a box that holds an Int -/
structure IntBox (w : World) (g : Nat) (neg : Bool) (A : Option Addr) (c : Nat) (l : List Nat) : Prop where
  blk : w.heap[g]? = some (.cells #[.bool neg, .slice A l.length c] 24 (0, 0))
  rd : Rd w A l
  cap : l.length ≤ c

theorem IntBox.on {w W : World} {g : Nat} {neg : Bool} {A : Option Addr} {c : Nat} {l : List Nat} (h : IntBox w g neg A c l) (hb : Below w.heap.size w W) : IntBox W g neg A c l :=
  ⟨(hb.block g (Array.getElem?_eq_some_iff.1 h.blk).1).trans h.blk, h.rd.on hb, h.cap⟩

theorem okI_isInt {neg : Bool} {l : List Nat} (hw : Words l) (h : okI neg l = true) : IsInt neg l := by
  unfold okI at h
  split at h
  · rename_i h0
    obtain rfl : l = [] := List.length_eq_zero_iff.1 h0
    exact ⟨canon_nil, by simp, fun hn => by rw [hn] at h; cases h⟩
  · rename_i h0
    simp only [Bool.and_eq_true, decide_eq_true_eq, bne_iff_ne] at h
    refine ⟨⟨hw, fun hne => ?_⟩, h.1, fun _ e => h0 (by rw [e]; rfl)⟩
    have ht : l.getD (l.length - 1) 0 = l.getLast hne := by rw [List.getLast_eq_getElem, List.getD_eq_getElem?_getD, List.getElem?_eq_getElem (by omega)]; rfl
    rw [← ht]; exact h.2

theorem formed_two (g : Nat) (n1 n2 : Bool) (A1 A2 : Option Addr) (c1 c2 : Nat) (l1 l2 : List Nat) (w : World) (hg : w.heap[g]? = some (.cells #[.bool n1, .slice A1 l1.length c1, .bool n2, .slice A2 l2.length c2] 24 (0, 0)))
    (h1 : Rd w A1 l1) (h2 : Rd w A2 l2) (hc1 : l1.length ≤ c1) (hc2 : l2.length ≤ c2) :
    Calls Tryd.prog 55 #[.slice (some ⟨g, 0, none⟩) 2 2] w fun e w' =>
      ((okI n1 l1 && okI n2 l2) = true → e = .returned (.tuple #[])) ∧ ((okI n1 l1 && okI n2 l2) = false → e = .panicked (wrong 1)) ∧ Below w.heap.size w w' := by
  have := formed_calls g [⟨n1, A1, c1, l1⟩, ⟨n2, A2, c2, l2⟩] w (Array.getElem?_eq_some_iff.1 hg).1 ⟨?_, ?_, ?_⟩ (by simp)
  · simpa [IntArg.ok] using this
  · intro k hk
    match k, hk with
    | 0, _ => exact cell_at hg 0 _ rfl
    | 1, _ => exact cell_at hg 2 _ rfl
  · intro k hk
    match k, hk with
    | 0, _ => exact cell_at hg 1 _ rfl
    | 1, _ => exact cell_at hg 3 _ rfl
  · intro k hk
    match k, hk with
    | 0, _ => exact ⟨h1, hc1⟩
    | 1, _ => exact ⟨h2, hc2⟩

/-- a block that lies as it was laid -/
structure Blk (W : World) (g : Nat) (cur : Array Value) (t : TypeId) : Prop where
  h : W.heap[g]? = some (.cells cur t (0, 0))
theorem Blk.on {w W : World} {g : Nat} {cur : Array Value} {t : TypeId} (h : Blk w g cur t) (hb : Below w.heap.size w W) : Blk W g cur t := ⟨(hb.block g (Array.getElem?_eq_some_iff.1 h.h).1).trans h.h⟩
theorem two_old (w : World) (a b : Obj) : ∀ {cur : Array Value} {t : TypeId}, a = .cells cur t (0, 0) → Blk ((w.alloc a).alloc b) w.heap.size cur t := fun e => ⟨by rw [← e]; exact (Below.heap_alloc _ _ _ (by simp)).trans (World.alloc_heap_new w _)⟩

theorem rd_sets {W : World} {A : Option Addr} {l : List Nat} {g : Nat} {t : TypeId} {s : Bool} {B : Option Addr} {n c : Nat} (h : Rd W A l) (hb : Blk W g #[.bool s, .slice B n c] t) (u v : Value) : Rd ((W.setCell ⟨g, 0, none⟩ u).setCell ⟨g, 1, none⟩ v) A l := by
  rcases Nat.eq_zero_or_pos l.length with h0 | h0
  · obtain rfl : l = [] := List.length_eq_zero_iff.1 h0
    exact Rd.nil _ _
  · obtain ⟨b, o, rfl⟩ := h.head h0
    obtain ⟨b', o', e, hc⟩ := h.cell 0 h0
    cases e
    have e1 : b ≠ g := by
      rintro rfl
      simp only [World.cell?, hb.h, Option.isSome_none, Bool.false_eq_true, if_false] at hc
      rcases Nat.lt_or_ge (o + 0) 2 with h | h
      · rcases (show o + 0 = 0 ∨ o + 0 = 1 by omega) with h | h <;> rw [h] at hc <;> simp at hc
      · rw [Array.getElem?_eq_none (by simpa using h)] at hc; cases hc
    exact grw_rd (grownBy_setCell_at _ _ _ _) (grw_rd (grownBy_setCell_at _ _ _ _) h (fun b o e => by cases e; exact e1)) (fun b o e => by cases e; exact e1)

theorem two_blk (w : World) (a b : Obj) : ((w.alloc a).alloc b).heap[w.heap.size + 1]? = some b := by
  have := World.alloc_heap_new (w.alloc a) b
  rwa [World.size_alloc] at this

set_option maxRecDepth 100000 in
set_option maxHeartbeats 2000000 in
theorem add1_bad (g1 g2 : Nat) (n1 n2 : Bool) (A1 A2 : Option Addr) (c1 c2 : Nat) (l1 l2 : List Nat) (w : World) (h1 : IntBox w g1 n1 A1 c1 l1) (h2 : IntBox w g2 n2 A2 c2 l2) (hbad : (okI n1 l1 && okI n2 l2) = false) :
    Calls Tryd.prog 95 #[.pointer (some ⟨g1, 0, none⟩), .pointer (some ⟨g2, 0, none⟩)] w fun e w' => e = .panicked (wrong 1) ∧ Below w.heap.size w w' := by
  have x0 := cell_at h1.blk 0 _ rfl
  have x1 := cell_at h1.blk 1 _ rfl
  have y0 := cell_at h2.blk 0 _ rfl
  have y1 := cell_at h2.blk 1 _ rfl
  have t1 := (Array.getElem?_eq_some_iff.1 h1.blk).1
  have t2 := (Array.getElem?_eq_some_iff.1 h2.blk).1
  have hb2 : ∀ a b, Below w.heap.size w ((w.alloc a).alloc b) := fun a b => ((Below.refl _ w).alloc (Nat.le_refl _) _).alloc (by simp) _
  have hf := fun a => formed_two (w.heap.size + 1) n1 n2 A1 A2 c1 c2 l1 l2 _ (two_blk w a (.cells #[.bool n1, .slice A1 l1.length c1, .bool n2, .slice A2 l2.length c2] 24)) (h1.rd.on (hb2 _ _)) (h2.rd.on (hb2 _ _)) h1.cap h2.cap
  go_enter Tryd.func95, Tryd.ntmps95
  go_wp2_with (go_at_call 55; refine (hf _).mono ?_; rintro e w' ⟨-, hp, hbl⟩; cases hp hbad)
  exact ⟨rfl, rfl, (hb2 _ _).trans (hbl.mono (hb2 _ _).size)⟩

set_option maxRecDepth 100000 in
set_option maxHeartbeats 2000000 in
theorem add1_ok (g1 g2 : Nat) (n1 n2 : Bool) (A1 A2 : Option Addr) (c1 c2 : Nat) (l1 l2 : List Nat) (w : World) (h1 : IntBox w g1 n1 A1 c1 l1) (h2 : IntBox w g2 n2 A2 c2 l2) (k1 : IsInt n1 l1) (k2 : IsInt n2 l2) (hok : (okI n1 l1 && okI n2 l2) = true)
    (hs : (lim (addS n1 (val l1) n2 (val l2)).2).length ≤ 300) :
    Calls Tryd.prog 95 #[.pointer (some ⟨g1, 0, none⟩), .pointer (some ⟨g2, 0, none⟩)] w (RetInt ((addS n1 (val l1) n2 (val l2)).1 && (addS n1 (val l1) n2 (val l2)).2 != 0) (addS n1 (val l1) n2 (val l2)).2 w) := by
  have x0 := cell_at h1.blk 0 _ rfl
  have x1 := cell_at h1.blk 1 _ rfl
  have y0 := cell_at h2.blk 0 _ rfl
  have y1 := cell_at h2.blk 1 _ rfl
  have t1 := (Array.getElem?_eq_some_iff.1 h1.blk).1
  have t2 := (Array.getElem?_eq_some_iff.1 h2.blk).1
  have hb2 : ∀ a b, Below w.heap.size w ((w.alloc a).alloc b) := fun a b => ((Below.refl _ w).alloc (Nat.le_refl _) _).alloc (by simp) _
  have hf := fun a => formed_two (w.heap.size + 1) n1 n2 A1 A2 c1 c2 l1 l2 _ (two_blk w a (.cells #[.bool n1, .slice A1 l1.length c1, .bool n2, .slice A2 l2.length c2] 24)) (h1.rd.on (hb2 _ _)) (h2.rd.on (hb2 _ _)) h1.cap h2.cap
  have ht := fun W (hW : Below w.heap.size w W) => total_calls n1 n2 A1 A2 c1 c2 l1 l2 W (h1.rd.on hW) (h2.rd.on hW) h1.cap h2.cap k1.canon k2.canon (by have := k1.small; omega) (by have := k2.small; omega)
  generalize addS n1 (val l1) n2 (val l2) = r at *
  obtain ⟨s, m⟩ := r
  dsimp only at *
  have hw := fun W A c (h : Rd W A (lim m)) (hc : (lim m).length ≤ c) => whole_ok s A c (lim m) W h hc (by rw [val_lim]; exact hs)
  simp only [val_lim] at hw
  go_enter Tryd.func95, Tryd.ntmps95
  go_wp2_with first
    | (go_at_call 55; refine (hf _).mono ?_; rintro e w' ⟨hp, -, hbl⟩; cases hp hok; have hb3 := (hb2 _ _).trans (hbl.mono (hb2 _ _).size); have x0' := cell_at ((hb3.block g1 t1).trans h1.blk) 0 _ rfl; have x1' := cell_at ((hb3.block g1 t1).trans h1.blk) 1 _ rfl; have y0' := cell_at ((hb3.block g2 t2).trans h2.blk) 0 _ rfl; have y1' := cell_at ((hb3.block g2 t2).trans h2.blk) 1 _ rfl)
    | (go_at_call 96; refine (ht _ hb3).mono ?_; rintro e w4 ⟨A4, c4, rfl, n4, r4, b4⟩)
    | (go_at_call 60; refine (hw _ A4 c4 r4 n4).mono ?_; rintro e w5 ⟨A5, c5, rfl, n5, r5, b5⟩; have hq0 := two_old w (.cells #[.bool false, .slice none 0 0] 24) (.cells #[.bool n1, .slice A1 l1.length c1, .bool n2, .slice A2 l2.length c2] 24) rfl; have hq := hq0.on hbl; have hq' := hq.on b4; have hq5 := hq'.on b5; have z0 := cell_at hq5.h 0 _ rfl; have z1 := cell_at hq5.h 1 _ rfl; have u0 := frozen_at hq5.h 0; have u1 := frozen_at hq5.h 1)
  exact ret_cell rfl rfl rfl (set_blk (set_blk hq5.h 0 _) 1 _) ⟨A5, c5, rfl, n5, rd_sets r5 hq5 _ _, (((((hb3.trans (b4.mono hb3.size)).trans (b5.mono (hb3.trans (b4.mono hb3.size)).size))).setCell (Nat.le_refl _) _).setCell (Nat.le_refl _) _)⟩

set_option maxRecDepth 100000 in
set_option maxHeartbeats 2000000 in
theorem add1_big (g1 g2 : Nat) (n1 n2 : Bool) (A1 A2 : Option Addr) (c1 c2 : Nat) (l1 l2 : List Nat) (w : World) (h1 : IntBox w g1 n1 A1 c1 l1) (h2 : IntBox w g2 n2 A2 c2 l2) (k1 : IsInt n1 l1) (k2 : IsInt n2 l2) (hok : (okI n1 l1 && okI n2 l2) = true)
    (hs : 300 < (lim (addS n1 (val l1) n2 (val l2)).2).length) :
    Calls Tryd.prog 95 #[.pointer (some ⟨g1, 0, none⟩), .pointer (some ⟨g2, 0, none⟩)] w fun e w' => e = .panicked (wrong 3) ∧ Below w.heap.size w w' := by
  have x0 := cell_at h1.blk 0 _ rfl
  have x1 := cell_at h1.blk 1 _ rfl
  have y0 := cell_at h2.blk 0 _ rfl
  have y1 := cell_at h2.blk 1 _ rfl
  have t1 := (Array.getElem?_eq_some_iff.1 h1.blk).1
  have t2 := (Array.getElem?_eq_some_iff.1 h2.blk).1
  have hb2 : ∀ a b, Below w.heap.size w ((w.alloc a).alloc b) := fun a b => ((Below.refl _ w).alloc (Nat.le_refl _) _).alloc (by simp) _
  have hf := fun a => formed_two (w.heap.size + 1) n1 n2 A1 A2 c1 c2 l1 l2 _ (two_blk w a (.cells #[.bool n1, .slice A1 l1.length c1, .bool n2, .slice A2 l2.length c2] 24)) (h1.rd.on (hb2 _ _)) (h2.rd.on (hb2 _ _)) h1.cap h2.cap
  have ht := fun W (hW : Below w.heap.size w W) => total_calls n1 n2 A1 A2 c1 c2 l1 l2 W (h1.rd.on hW) (h2.rd.on hW) h1.cap h2.cap k1.canon k2.canon (by have := k1.small; omega) (by have := k2.small; omega)
  generalize addS n1 (val l1) n2 (val l2) = r at *
  obtain ⟨s, m⟩ := r
  dsimp only at *
  have hw := fun W A c (h : Rd W A (lim m)) (hc : (lim m).length ≤ c) => whole_no s A c (lim m) W h hc (by rw [val_lim]; exact hs)
  go_enter Tryd.func95, Tryd.ntmps95
  go_wp2_with first
    | (go_at_call 55; refine (hf _).mono ?_; rintro e w' ⟨hp, -, hbl⟩; cases hp hok; have hb3 := (hb2 _ _).trans (hbl.mono (hb2 _ _).size); have x0' := cell_at ((hb3.block g1 t1).trans h1.blk) 0 _ rfl; have x1' := cell_at ((hb3.block g1 t1).trans h1.blk) 1 _ rfl; have y0' := cell_at ((hb3.block g2 t2).trans h2.blk) 0 _ rfl; have y1' := cell_at ((hb3.block g2 t2).trans h2.blk) 1 _ rfl)
    | (go_at_call 96; refine (ht _ hb3).mono ?_; rintro e w4 ⟨A4, c4, rfl, n4, r4, b4⟩)
    | (go_at_call 60; refine (hw _ A4 c4 r4 n4).mono ?_; rintro e w5 ⟨rfl, b5⟩)
  exact ⟨rfl, rfl, (hb3.trans (b4.mono hb3.size)).trans (b5.mono (hb3.trans (b4.mono hb3.size)).size)⟩

end Nm
end Go.Proofs.YtlhmbbpkhahbeaaDoor
