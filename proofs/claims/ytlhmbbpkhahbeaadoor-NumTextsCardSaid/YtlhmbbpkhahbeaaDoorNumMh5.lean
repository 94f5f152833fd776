/-
  Pow.
  Bits, exported; try over int once more.
  Digits: value, chunk; the specification's digit.
  Digits of a number to a base; the value of digits; the bytes of a text.
  The program's small, with the type of what it hands back; slices.Reverse over bytes; bytes as a string.
  Text: the closure.
  Text, exported.
  try over api.Int, where the closure writes to a block of its caller.
-/
import Derived.Test.YtlhmbbpkhahbeaaDoorNumMh4
import Derived.Laws.IdiomStrings
namespace Go.Proofs.YtlhmbbpkhahbeaaDoor
namespace Nm
open Go.RowKit Go.Shelf Go.BigFrame
attribute [local go_sem] Oper.semAt_some

theorem formed_one (g : Nat) (n1 : Bool) (A1 : Option Addr) (c1 : Nat) (l1 : List Nat) (w : World) (hg : w.heap[g]? = some (.cells #[.bool n1, .slice A1 l1.length c1] 24 (0, 0))) (h1 : Rd w A1 l1) (hc1 : l1.length ≤ c1) :
    Calls Tryd.prog 55 #[.slice (some ⟨g, 0, none⟩) 1 1] w fun e w' =>
      (okI n1 l1 = true → e = .returned (.tuple #[])) ∧ (okI n1 l1 = false → e = .panicked (wrong 1)) ∧ Below w.heap.size w w' := by
  have := formed_calls g [⟨n1, A1, c1, l1⟩] w (Array.getElem?_eq_some_iff.1 hg).1 ⟨?_, ?_, ?_⟩ (by simp)
  · simpa [IntArg.ok] using this
  · intro k hk
    match k, hk with
    | 0, _ => exact cell_at hg 0 _ rfl
  · intro k hk
    match k, hk with
    | 0, _ => exact cell_at hg 1 _ rfl
  · intro k hk
    match k, hk with
    | 0, _ => exact ⟨h1, hc1⟩

/-- what Pow returns -/
def powR (n1 : Bool) (l1 : List Nat) (n : Int) : Int × Int := if okI n1 l1 = true then (if 0 ≤ n ∧ n ≤ 9600 then fitZ (toZ n1 l1 ^ n.toNat) else (0, 1)) else (0, 1)

theorem powR_zero (n1 : Bool) (l1 : List Nat) (n : Int) : (powR n1 l1 n).2 ≠ 0 → (powR n1 l1 n).1 = 0 := by
  unfold powR
  split
  · split
    · exact fit_zero _
    · simp
  · simp

theorem neg_pow (a m : Nat) : (-(a : Int)) ^ m = if m % 2 = 1 then -((a ^ m : Nat) : Int) else ((a ^ m : Nat) : Int) := by
  induction m with
  | zero => simp
  | succ m ih =>
    rw [Int.pow_succ, ih, Nat.pow_succ]
    by_cases h : m % 2 = 1
    · rw [if_pos h, if_neg (by omega), Int.neg_mul_neg]; simp
    · rw [if_neg h, if_pos (by omega), Int.mul_neg]; simp

theorem pow_z (n1 : Bool) (l1 : List Nat) (m : Nat) : toZ n1 l1 ^ m = if (n1 && ((m : Int) % 2 == 1)) = true then -((val l1 ^ m : Nat) : Int) else ((val l1 ^ m : Nat) : Int) := by
  unfold toZ
  cases n1
  · simp
  · rw [if_pos rfl, neg_pow, Bool.true_and]
    by_cases h : m % 2 = 1
    · rw [if_pos h, if_pos (by rw [beq_iff_eq]; omega)]
    · rw [if_neg h, if_neg (by rw [beq_iff_eq]; omega)]

set_option maxRecDepth 100000 in
set_option maxHeartbeats 4000000 in
theorem pow1_bad (g1 g2 : Nat) (n1 : Bool) (n : Int) (A1 : Option Addr) (c1 : Nat) (l1 : List Nat) (w : World) (h1 : IntBox w g1 n1 A1 c1 l1) (h2 : Blk w g2 #[.int .i64 n] 3) (hbad : okI n1 l1 = false) :
    Calls Tryd.prog 64 #[.pointer (some ⟨g1, 0, none⟩), .pointer (some ⟨g2, 0, none⟩)] w fun e w' => e = .panicked (wrong 1) ∧ Below w.heap.size w w' := by
  have x0 := cell_at h1.blk 0 _ rfl
  have x1 := cell_at h1.blk 1 _ rfl
  have y0 := cell_at h2.h 0 _ rfl
  have t1 := (Array.getElem?_eq_some_iff.1 h1.blk).1
  have t2 := (Array.getElem?_eq_some_iff.1 h2.h).1
  have hb2 : ∀ a b, Below w.heap.size w ((w.alloc a).alloc b) := fun a b => ((Below.refl _ w).alloc (Nat.le_refl _) _).alloc (by simp) _
  have hf := fun a => formed_one (w.heap.size + 1) n1 A1 c1 l1 _ (two_blk w a (.cells #[.bool n1, .slice A1 l1.length c1] 24)) (h1.rd.on (hb2 _ _)) h1.cap
  go_enter Tryd.func64, Tryd.ntmps64
  go_wp2_with (go_at_call 55; refine (hf _).mono ?_; rintro e w' ⟨-, hp, hbl⟩; cases hp hbad)
  exact ⟨rfl, rfl, (hb2 _ _).trans (hbl.mono (hb2 _ _).size)⟩

set_option maxRecDepth 100000 in
set_option maxHeartbeats 4000000 in
theorem pow1_range (g1 g2 : Nat) (n1 : Bool) (n : Int) (A1 : Option Addr) (c1 : Nat) (l1 : List Nat) (w : World) (h1 : IntBox w g1 n1 A1 c1 l1) (h2 : Blk w g2 #[.int .i64 n] 3) (hok : okI n1 l1 = true) (h0 : ¬ (0 ≤ n ∧ n ≤ 9600)) :
    Calls Tryd.prog 64 #[.pointer (some ⟨g1, 0, none⟩), .pointer (some ⟨g2, 0, none⟩)] w fun e w' => e = .panicked (wrong 1) ∧ Below w.heap.size w w' := by
  have x0 := cell_at h1.blk 0 _ rfl
  have x1 := cell_at h1.blk 1 _ rfl
  have y0 := cell_at h2.h 0 _ rfl
  have t1 := (Array.getElem?_eq_some_iff.1 h1.blk).1
  have t2 := (Array.getElem?_eq_some_iff.1 h2.h).1
  have hb2 : ∀ a b, Below w.heap.size w ((w.alloc a).alloc b) := fun a b => ((Below.refl _ w).alloc (Nat.le_refl _) _).alloc (by simp) _
  have hf := fun a => formed_one (w.heap.size + 1) n1 A1 c1 l1 _ (two_blk w a (.cells #[.bool n1, .slice A1 l1.length c1] 24)) (h1.rd.on (hb2 _ _)) h1.cap
  by_cases hn : 0 ≤ n
  · have hn2 : decide (n ≤ 9600) = false := decide_eq_false fun h => h0 ⟨hn, h⟩
    clear h0
    go_enter Tryd.func64, Tryd.ntmps64
    go_wp2_with first
      | (go_at_call 55; refine (hf _).mono ?_; rintro e w' ⟨hp, -, hbl⟩; cases hp hok; have hb3 := (hb2 _ _).trans (hbl.mono (hb2 _ _).size); have p0 := cell_at (h1.on hb3).blk 0 _ rfl; have p1 := cell_at (h1.on hb3).blk 1 _ rfl; have p2 := cell_at (h2.on hb3).h 0 _ rfl)
      | (go_at_call 56; refine (must_no 1 _).mono ?_; rintro e w5 ⟨rfl, rfl⟩)
    exact ⟨rfl, rfl, hb3⟩
  · clear h0
    go_enter Tryd.func64, Tryd.ntmps64
    go_wp2_with first
      | (go_at_call 55; refine (hf _).mono ?_; rintro e w' ⟨hp, -, hbl⟩; cases hp hok; have hb3 := (hb2 _ _).trans (hbl.mono (hb2 _ _).size); have p0 := cell_at (h1.on hb3).blk 0 _ rfl; have p1 := cell_at (h1.on hb3).blk 1 _ rfl; have p2 := cell_at (h2.on hb3).h 0 _ rfl)
      | (go_at_call 56; refine (must_no 1 _).mono ?_; rintro e w5 ⟨rfl, rfl⟩)
    exact ⟨rfl, rfl, hb3⟩

theorem calls_false {P : Program} {f : FuncId} {args : Array Value} {w : World} {R : Ending → World → Prop} (h : False) (_ : ∀ v w', False → R (.returned v) w') : Calls P f args w R := h.elim

theorem keep2 {w : World} {g B i : Nat} {v v0 v1 : Value} (hne : ¬ B = g) (h : w.cell? ⟨g, i, none⟩ = some v) : ((w.setCell ⟨B, 0, none⟩ v0).setCell ⟨B, 1, none⟩ v1).cell? ⟨g, i, none⟩ = some v :=
  (World.cell?_setCell_other _ _ _ v1 (by intro e; cases e; exact hne rfl)).trans ((World.cell?_setCell_other w _ _ v0 (by intro e; cases e; exact hne rfl)).trans h)

set_option maxRecDepth 100000 in
set_option maxHeartbeats 4000000 in
theorem pow1_ok (g1 g2 : Nat) (n1 : Bool) (m : Nat) (A1 : Option Addr) (c1 : Nat) (l1 : List Nat) (w : World) (h1 : IntBox w g1 n1 A1 c1 l1) (h2 : Blk w g2 #[.int .i64 (m : Int)] 3) (k1 : IsInt n1 l1) (hok : okI n1 l1 = true) (hm : m ≤ 9600) (b : Bool) (hpar : ((m : Int) % 2 == 1) = b) (hs : (lim (val l1 ^ m)).length ≤ 300) (z : Int) (hz : Hid ((if (n1 && b) = true then -((val l1 ^ m : Nat) : Int) else ((val l1 ^ m : Nat) : Int)) = z)) :
    Calls Tryd.prog 64 #[.pointer (some ⟨g1, 0, none⟩), .pointer (some ⟨g2, 0, none⟩)] w (RetZ z w) := by
  have x0 := cell_at h1.blk 0 _ rfl
  have x1 := cell_at h1.blk 1 _ rfl
  have y0 := cell_at h2.h 0 _ rfl
  have t1 := (Array.getElem?_eq_some_iff.1 h1.blk).1
  have t2 := (Array.getElem?_eq_some_iff.1 h2.h).1
  have hb2 : ∀ a b, Below w.heap.size w ((w.alloc a).alloc b) := fun a b => ((Below.refl _ w).alloc (Nat.le_refl _) _).alloc (by simp) _
  have hf := fun a => formed_one (w.heap.size + 1) n1 A1 c1 l1 _ (two_blk w a (.cells #[.bool n1, .slice A1 l1.length c1] 24)) (h1.rd.on (hb2 _ _)) h1.cap
  have hpw := fun W (hW : Below w.heap.size w W) => power_calls A1 c1 (val l1) m W (by rw [lim_val k1.canon]; exact h1.rd.on hW) (by rw [lim_val k1.canon]; exact h1.cap) (by rw [lim_val k1.canon]; exact k1.small) (by omega)
  rw [lim_val k1.canon] at hpw
  have hpt : ((m : Int).tmod 2 == 1) = b := by rw [Int.tmod_eq_emod_of_nonneg (by omega)]; exact hpar
  have hdm : decide (m ≤ 9600) = true := decide_eq_true hm
  have hdi : decide ((m : Int) ≤ 9600) = true := decide_eq_true (by omega)
  have d1 : ¬ g1 = w.heap.size := by omega
  have d2 : ¬ g2 = w.heap.size := by omega
  have d3 : ¬ w.heap.size = g1 := by omega
  have d4 : ¬ w.heap.size = g2 := by omega
  have hqx := two_old w (.cells #[.bool false, .slice none 0 0] 24) (.cells #[.bool n1, .slice A1 l1.length c1] 24) rfl
  have hwz := fun W A c (h : Rd W A (lim (val l1 ^ m))) (hc : (lim (val l1 ^ m)).length ≤ c) => whole_z (n1 && b) (val l1 ^ m) hs A c W h hc
  generalize val l1 ^ m = Pw at *
  cases n1
  · simp only [Bool.false_and] at *
    go_enter Tryd.func64, Tryd.ntmps64
    go_wp2_with first
      | (go_at_call 55; refine (hf _).mono ?_; rintro e w' ⟨hp, -, hbl⟩; cases hp hok; have hb3 := (hb2 _ _).trans (hbl.mono (hb2 _ _).size); have p0 := cell_at (h1.on hb3).blk 0 _ rfl; have p1 := cell_at (h1.on hb3).blk 1 _ rfl; have p2 := cell_at (h2.on hb3).h 0 _ rfl)
      | (go_at_call 56; refine (must_ok 1 _).mono ?_; rintro e w4 ⟨rfl, rfl⟩; have hq1 := hqx.on hbl)
    clear x0 x1 y0
    refine wp_region_held_drew (S := (fun w'' => w''.cell? ⟨g1, 0, none⟩ = some (.bool false) ∧ w''.cell? ⟨g1, 1, none⟩ = some (.slice A1 l1.length c1) ∧ w''.cell? ⟨g2, 0, none⟩ = some (.int .i64 (m : Int)))) (by kernel_rfl) ⟨p0, p1, p2⟩ (fun hHeld => ?_)
    refine wpAnyH_take (i := 0) (v := Value.pointer (some ⟨g1, 0, none⟩)) rfl (by kernel_rfl) (by kernel_rfl) (by kernel_rfl) (fun _ _ _ h => h) (Or.inl ⟨by rfl, fun w hSw => by (try dsimp only at hSw); go_simp⟩) (by assumption) ?_
    try simp only [Act.put, List.setIfInBounds_toArray]
    refine wpAnyH_take (i := 1) (v := Value.bool false) rfl (by kernel_rfl) (by kernel_rfl) (by kernel_rfl) (fun _ _ _ h => h) (Or.inl ⟨by rfl, fun w hSw => by (try dsimp only at hSw); go_simp⟩) (by assumption) ?_
    try simp only [Act.put]
    refine wpAnyH_take (i := 2) (v := Value.bool false) rfl (by kernel_rfl) (by kernel_rfl) (by kernel_rfl) (fun _ _ _ h => h) (Or.inl ⟨by rfl, fun w hSw => by (try dsimp only at hSw); go_simp⟩) (by assumption) ?_
    try simp only [Act.put]
    refine wpAnyH_take (i := 3) (v := undef) rfl (by kernel_rfl) (by kernel_rfl) (by kernel_rfl) (fun _ _ _ h => h) (Or.inr ⟨by rfl, rfl⟩) (by assumption) ?_
    try simp only [Act.put]
    refine wpAnyH_take (i := 4) (v := undef) rfl (by kernel_rfl) (by kernel_rfl) (by kernel_rfl) (fun _ _ _ h => h) (Or.inr ⟨by rfl, rfl⟩) (by assumption) ?_
    try simp only [Act.put]
    refine wpAnyH_take (i := 5) (v := undef) rfl (by kernel_rfl) (by kernel_rfl) (by kernel_rfl) (fun _ _ _ h => h) (Or.inr ⟨by rfl, rfl⟩) (by assumption) ?_
    try simp only [Act.put]
    refine wpAnyH_take (i := 6) (v := Value.bool false) rfl (by kernel_rfl) (by kernel_rfl) (by kernel_rfl) (fun _ _ _ h => h) (Or.inl ⟨by rfl, fun w hSw => by (try dsimp only at hSw); go_simp⟩) (by assumption) ?_
    try simp only [Act.put]
    refine wpAnyH_take (i := 7) (v := Value.pointer (some ⟨g1, 1, none⟩)) rfl (by kernel_rfl) (by kernel_rfl) (by kernel_rfl) (fun _ _ _ h => h) (Or.inl ⟨by rfl, fun w hSw => by (try dsimp only at hSw); go_simp⟩) (by assumption) ?_
    try simp only [Act.put]
    refine wpAnyH_take (i := 8) (v := Value.slice A1 l1.length c1) rfl (by kernel_rfl) (by kernel_rfl) (by kernel_rfl) (fun _ _ _ h => h) (Or.inl ⟨by rfl, fun w hSw => by (try dsimp only at hSw); go_simp⟩) (by assumption) ?_
    try simp only [Act.put]
    refine wpAnyH_take (i := 9) (v := Value.int .i64 (m : Int)) rfl (by kernel_rfl) (by kernel_rfl) (by kernel_rfl) (fun _ _ _ h => h) (Or.inl ⟨by rfl, fun w hSw => by (try dsimp only at hSw); go_simp⟩) (by assumption) ?_
    try simp only [Act.put]
    refine wpAnyH_ready (rs := [10]) (by kernel_rfl) (by simp) ?_
    refine AllReadyH.cons rfl (fun K hK => ?_) AllReadyH.nil
    go_simp
    go_at_call 65; refine (hpw _ (below_drew hb3)).mono ?_; rintro e w5 ⟨hp, -, -⟩; obtain ⟨A5, c5, rfl, n5, r5, b5⟩ := hp hs; replace b5 := (below_drew (Below.refl _ w4)).trans b5; have hb5 := hb3.trans (b5.mono hb3.size); have i0 := cell_at (h1.on hb5).blk 0 _ rfl; have i1 := cell_at (h1.on hb5).blk 1 _ rfl; have i2 := cell_at (h2.on hb5).h 0 _ rfl
    go_wp2_with fail
    refine hK.out _ _ ⟨i0, i1, i2⟩ (fun hHeld => ?_)
    clear hK K
    try simp only [Act.put, List.setIfInBounds_toArray, List.set_cons_zero, List.set_cons_succ]
    refine wpAnyH_ready (rs := [11]) (by kernel_rfl) (by simp) ?_
    refine AllReadyH.cons rfl (fun K hK => ?_) AllReadyH.nil
    go_simp
    go_at_call 60; refine (hwz _ A5 c5 r5 n5).mono ?_; rintro e w6 ⟨s6, A6, c6, l6, rfl, z6, n6, r6, b6⟩; have hb6 := hb5.trans (b6.mono hb5.size); have j0 := cell_at (h1.on hb6).blk 0 _ rfl; have j1 := cell_at (h1.on hb6).blk 1 _ rfl; have j2 := cell_at (h2.on hb6).h 0 _ rfl; have hq6 := (hq1.on b5).on b6; have z0 := cell_at hq6.h 0 _ rfl; have z1 := cell_at hq6.h 1 _ rfl; have u0 := frozen_at hq6.h 0; have u1 := frozen_at hq6.h 1
    go_wp2_with fail
    refine hK.out _ _ ⟨j0, j1, j2⟩ (fun hHeld => ?_)
    clear hK K
    try simp only [Act.put, List.setIfInBounds_toArray, List.set_cons_zero, List.set_cons_succ]
    refine wpAnyH_ready (rs := [12]) (by kernel_rfl) (by simp) ?_
    refine AllReadyH.cons rfl (fun K hK => ?_) AllReadyH.nil
    go_simp
    refine hK.out _ _ ⟨keep2 d3 j0, keep2 d3 j1, keep2 d4 j2⟩ (fun hHeld => ?_)
    clear hK K
    try simp only [Act.put, List.setIfInBounds_toArray, List.set_cons_zero, List.set_cons_succ]
    refine wpAnyH_done (by kernel_rfl) ?_ _
    all_goals go_wp2_with fail
    all_goals exact ret_cell rfl rfl rfl (set_blk (set_blk hq6.h 0 _) 1 _) ⟨s6, A6, c6, l6, rfl, z6.cast hz.out, n6, rd_sets r6 hq6 _ _, (hb6.setCell (Nat.le_refl _) _).setCell (Nat.le_refl _) _⟩
  · simp only [Bool.true_and] at *
    go_enter Tryd.func64, Tryd.ntmps64
    go_wp2_with first
      | (go_at_call 55; refine (hf _).mono ?_; rintro e w' ⟨hp, -, hbl⟩; cases hp hok; have hb3 := (hb2 _ _).trans (hbl.mono (hb2 _ _).size); have p0 := cell_at (h1.on hb3).blk 0 _ rfl; have p1 := cell_at (h1.on hb3).blk 1 _ rfl; have p2 := cell_at (h2.on hb3).h 0 _ rfl)
      | (go_at_call 56; refine (must_ok 1 _).mono ?_; rintro e w4 ⟨rfl, rfl⟩; have hq1 := hqx.on hbl)
    clear x0 x1 y0
    first
    | go_region_held3 (fun w'' => w''.cell? ⟨g1, 0, none⟩ = some (.bool true) ∧ w''.cell? ⟨g1, 1, none⟩ = some (.slice A1 l1.length c1) ∧ w''.cell? ⟨g2, 0, none⟩ = some (.int .i64 (m : Int))) ((first | assumption | go_keep))
      ((first
        | (go_at_call 65; refine (hpw _ (below_drew hb3)).mono ?_; rintro e w5 ⟨hp, -, -⟩; obtain ⟨A5, c5, rfl, n5, r5, b5⟩ := hp hs; replace b5 := (below_drew (Below.refl _ w4)).trans b5; have hb5 := hb3.trans (b5.mono hb3.size); have i0 := cell_at (h1.on hb5).blk 0 _ rfl; have i1 := cell_at (h1.on hb5).blk 1 _ rfl; have i2 := cell_at (h2.on hb5).h 0 _ rfl)
        | (go_at_call 60; refine (hwz _ A5 c5 r5 n5).mono ?_; rintro e w6 ⟨s6, A6, c6, l6, rfl, z6, n6, r6, b6⟩; have hb6 := hb5.trans (b6.mono hb5.size); have j0 := cell_at (h1.on hb6).blk 0 _ rfl; have j1 := cell_at (h1.on hb6).blk 1 _ rfl; have j2 := cell_at (h2.on hb6).h 0 _ rfl; have hq6 := (hq1.on b5).on b6; have z0 := cell_at hq6.h 0 _ rfl; have z1 := cell_at hq6.h 1 _ rfl; have u0 := frozen_at hq6.h 0; have u1 := frozen_at hq6.h 1)))
    | fail
    all_goals go_wp2_with fail
    all_goals exact ret_cell rfl rfl rfl (set_blk (set_blk hq6.h 0 _) 1 _) ⟨s6, A6, c6, l6, rfl, z6.cast hz.out, n6, rd_sets r6 hq6 _ _, (hb6.setCell (Nat.le_refl _) _).setCell (Nat.le_refl _) _⟩

set_option maxRecDepth 100000 in
set_option maxHeartbeats 4000000 in
theorem pow1_big (g1 g2 : Nat) (n1 : Bool) (m : Nat) (A1 : Option Addr) (c1 : Nat) (l1 : List Nat) (w : World) (h1 : IntBox w g1 n1 A1 c1 l1) (h2 : Blk w g2 #[.int .i64 (m : Int)] 3) (k1 : IsInt n1 l1) (hok : okI n1 l1 = true) (hm : m ≤ 9600) (b : Bool) (hpar : ((m : Int) % 2 == 1) = b) (hs : 300 < (lim (val l1 ^ m)).length) :
    Calls Tryd.prog 64 #[.pointer (some ⟨g1, 0, none⟩), .pointer (some ⟨g2, 0, none⟩)] w fun e w' => e = .panicked (wrong 3) ∧ Below w.heap.size w w' := by
  have x0 := cell_at h1.blk 0 _ rfl
  have x1 := cell_at h1.blk 1 _ rfl
  have y0 := cell_at h2.h 0 _ rfl
  have t1 := (Array.getElem?_eq_some_iff.1 h1.blk).1
  have t2 := (Array.getElem?_eq_some_iff.1 h2.h).1
  have hb2 : ∀ a b, Below w.heap.size w ((w.alloc a).alloc b) := fun a b => ((Below.refl _ w).alloc (Nat.le_refl _) _).alloc (by simp) _
  have hf := fun a => formed_one (w.heap.size + 1) n1 A1 c1 l1 _ (two_blk w a (.cells #[.bool n1, .slice A1 l1.length c1] 24)) (h1.rd.on (hb2 _ _)) h1.cap
  have hpw := fun W (hW : Below w.heap.size w W) => power_calls A1 c1 (val l1) m W (by rw [lim_val k1.canon]; exact h1.rd.on hW) (by rw [lim_val k1.canon]; exact h1.cap) (by rw [lim_val k1.canon]; exact k1.small) (by omega)
  rw [lim_val k1.canon] at hpw
  have hpt : ((m : Int).tmod 2 == 1) = b := by rw [Int.tmod_eq_emod_of_nonneg (by omega)]; exact hpar
  have hdm : decide (m ≤ 9600) = true := decide_eq_true hm
  have hdi : decide ((m : Int) ≤ 9600) = true := decide_eq_true (by omega)
  have d1 : ¬ g1 = w.heap.size := by omega
  have d2 : ¬ g2 = w.heap.size := by omega
  have d3 : ¬ w.heap.size = g1 := by omega
  have d4 : ¬ w.heap.size = g2 := by omega
  have hqx := two_old w (.cells #[.bool false, .slice none 0 0] 24) (.cells #[.bool n1, .slice A1 l1.length c1] 24) rfl
  cases n1
  · skip
    go_enter Tryd.func64, Tryd.ntmps64
    go_wp2_with first
      | (go_at_call 55; refine (hf _).mono ?_; rintro e w' ⟨hp, -, hbl⟩; cases hp hok; have hb3 := (hb2 _ _).trans (hbl.mono (hb2 _ _).size); have p0 := cell_at (h1.on hb3).blk 0 _ rfl; have p1 := cell_at (h1.on hb3).blk 1 _ rfl; have p2 := cell_at (h2.on hb3).h 0 _ rfl)
      | (go_at_call 56; refine (must_ok 1 _).mono ?_; rintro e w4 ⟨rfl, rfl⟩; have hq1 := hqx.on hbl)
    clear x0 x1 y0
    refine wp_region_held_drew (S := (fun w'' => w''.cell? ⟨g1, 0, none⟩ = some (.bool false) ∧ w''.cell? ⟨g1, 1, none⟩ = some (.slice A1 l1.length c1) ∧ w''.cell? ⟨g2, 0, none⟩ = some (.int .i64 (m : Int)))) (by kernel_rfl) ⟨p0, p1, p2⟩ (fun hHeld => ?_)
    refine wpAnyH_take (i := 0) (v := Value.pointer (some ⟨g1, 0, none⟩)) rfl (by kernel_rfl) (by kernel_rfl) (by kernel_rfl) (fun _ _ _ h => h) (Or.inl ⟨by rfl, fun w hSw => by (try dsimp only at hSw); go_simp⟩) (by assumption) ?_
    try simp only [Act.put, List.setIfInBounds_toArray]
    refine wpAnyH_take (i := 1) (v := Value.bool false) rfl (by kernel_rfl) (by kernel_rfl) (by kernel_rfl) (fun _ _ _ h => h) (Or.inl ⟨by rfl, fun w hSw => by (try dsimp only at hSw); go_simp⟩) (by assumption) ?_
    try simp only [Act.put]
    refine wpAnyH_take (i := 2) (v := Value.bool false) rfl (by kernel_rfl) (by kernel_rfl) (by kernel_rfl) (fun _ _ _ h => h) (Or.inl ⟨by rfl, fun w hSw => by (try dsimp only at hSw); go_simp⟩) (by assumption) ?_
    try simp only [Act.put]
    refine wpAnyH_take (i := 3) (v := undef) rfl (by kernel_rfl) (by kernel_rfl) (by kernel_rfl) (fun _ _ _ h => h) (Or.inr ⟨by rfl, rfl⟩) (by assumption) ?_
    try simp only [Act.put]
    refine wpAnyH_take (i := 4) (v := undef) rfl (by kernel_rfl) (by kernel_rfl) (by kernel_rfl) (fun _ _ _ h => h) (Or.inr ⟨by rfl, rfl⟩) (by assumption) ?_
    try simp only [Act.put]
    refine wpAnyH_take (i := 5) (v := undef) rfl (by kernel_rfl) (by kernel_rfl) (by kernel_rfl) (fun _ _ _ h => h) (Or.inr ⟨by rfl, rfl⟩) (by assumption) ?_
    try simp only [Act.put]
    refine wpAnyH_take (i := 6) (v := Value.bool false) rfl (by kernel_rfl) (by kernel_rfl) (by kernel_rfl) (fun _ _ _ h => h) (Or.inl ⟨by rfl, fun w hSw => by (try dsimp only at hSw); go_simp⟩) (by assumption) ?_
    try simp only [Act.put]
    refine wpAnyH_take (i := 7) (v := Value.pointer (some ⟨g1, 1, none⟩)) rfl (by kernel_rfl) (by kernel_rfl) (by kernel_rfl) (fun _ _ _ h => h) (Or.inl ⟨by rfl, fun w hSw => by (try dsimp only at hSw); go_simp⟩) (by assumption) ?_
    try simp only [Act.put]
    refine wpAnyH_take (i := 8) (v := Value.slice A1 l1.length c1) rfl (by kernel_rfl) (by kernel_rfl) (by kernel_rfl) (fun _ _ _ h => h) (Or.inl ⟨by rfl, fun w hSw => by (try dsimp only at hSw); go_simp⟩) (by assumption) ?_
    try simp only [Act.put]
    refine wpAnyH_take (i := 9) (v := Value.int .i64 (m : Int)) rfl (by kernel_rfl) (by kernel_rfl) (by kernel_rfl) (fun _ _ _ h => h) (Or.inl ⟨by rfl, fun w hSw => by (try dsimp only at hSw); go_simp⟩) (by assumption) ?_
    try simp only [Act.put]
    refine wpAnyH_ready (rs := [10]) (by kernel_rfl) (by simp) ?_
    refine AllReadyH.cons rfl (fun K hK => ?_) AllReadyH.nil
    go_simp
    go_at_call 65; refine (hpw _ (below_drew hb3)).mono ?_; rintro e w5 ⟨-, hp, hbl5⟩; obtain rfl := hp hs
    go_wp2_with fail
    exact ⟨rfl, rfl, hb3.trans (((below_drew (Below.refl _ w4)).trans hbl5).mono hb3.size)⟩
  · skip
    go_enter Tryd.func64, Tryd.ntmps64
    go_wp2_with first
      | (go_at_call 55; refine (hf _).mono ?_; rintro e w' ⟨hp, -, hbl⟩; cases hp hok; have hb3 := (hb2 _ _).trans (hbl.mono (hb2 _ _).size); have p0 := cell_at (h1.on hb3).blk 0 _ rfl; have p1 := cell_at (h1.on hb3).blk 1 _ rfl; have p2 := cell_at (h2.on hb3).h 0 _ rfl)
      | (go_at_call 56; refine (must_ok 1 _).mono ?_; rintro e w4 ⟨rfl, rfl⟩; have hq1 := hqx.on hbl)
    clear x0 x1 y0
    first
    | go_region_held2 (fun w'' => w''.cell? ⟨g1, 0, none⟩ = some (.bool true) ∧ w''.cell? ⟨g1, 1, none⟩ = some (.slice A1 l1.length c1) ∧ w''.cell? ⟨g2, 0, none⟩ = some (.int .i64 (m : Int))) ((first | exact HF.out.elim | assumption | go_keep))
      ((first
        | (go_at_call 65; refine calls_panic (c := wrong 3) (B := fun w5 => Below w.heap.size w w5) ((hpw _ (below_drew hb3)).mono (fun e w5 h => ⟨h.2.1 hs, hb3.trans (((below_drew (Below.refl _ w4)).trans h.2.2).mono hb3.size)⟩)) (fun w5 b5 => ⟨rfl, rfl, b5⟩) ?_; intro v w5 hF; have HF : Hid False := hF; obtain ⟨A5, m5, c5, rfl⟩ : ∃ A5 m5 c5, v = .slice A5 m5 c5 := hF.elim; clear hF)
        | (go_at_call 60; refine calls_false HF.out ?_; intro v w6 hF; obtain ⟨s', A', n', c', rfl⟩ : ∃ s' A' n' c', v = .agg #[.bool s', .slice A' n' c'] := hF.elim; have hq5 : Blk w6 w.heap.size #[.bool false, .slice none 0 0] 24 := hF.elim; have z0 := cell_at hq5.h 0 _ rfl; have z1 := cell_at hq5.h 1 _ rfl; have u0 := frozen_at hq5.h 0; have u1 := frozen_at hq5.h 1; clear hF)))
    | fail
    all_goals exact HF.out.elim

theorem pow1_calls (g1 g2 : Nat) (n1 : Bool) (n : Int) (A1 : Option Addr) (c1 : Nat) (l1 : List Nat) (w : World) (h1 : IntBox w g1 n1 A1 c1 l1) (h2 : Blk w g2 #[.int .i64 n] 3) :
    Calls Tryd.prog 64 #[.pointer (some ⟨g1, 0, none⟩), .pointer (some ⟨g2, 0, none⟩)] w (PostZE (powR n1 l1 n).1 (powR n1 l1 n).2 w) := by
  unfold powR
  by_cases hok : okI n1 l1 = true
  · rw [if_pos hok]
    have k1 := okI_isInt h1.rd.words hok
    by_cases hn : 0 ≤ n ∧ n ≤ 9600
    · rw [if_pos hn]
      obtain ⟨m, rfl⟩ : ∃ m : Nat, n = (m : Int) := ⟨n.toNat, by omega⟩
      rw [Int.toNat_natCast]
      have hz := pow_z n1 l1 m
      have ha : (toZ n1 l1 ^ m).natAbs = val l1 ^ m := by rw [hz]; split <;> simp
      unfold fitZ
      rw [ha]
      by_cases hs : (lim (val l1 ^ m)).length ≤ 300
      · rw [if_pos hs]
        exact (pow1_ok g1 g2 n1 m A1 c1 l1 w h1 h2 k1 hok (by omega) _ rfl hs _ hz.symm).mono fun e w' h => .ok h
      · rw [if_neg hs]
        exact (pow1_big g1 g2 n1 m A1 c1 l1 w h1 h2 k1 hok (by omega) _ rfl (by omega)).mono fun e w' h => .no h (by decide)
    · rw [if_neg hn]
      exact (pow1_range g1 g2 n1 n A1 c1 l1 w h1 h2 hok hn).mono fun e w' h => .no h (by decide)
  · rw [if_neg hok]
    exact (pow1_bad g1 g2 n1 n A1 c1 l1 w h1 h2 (by simpa using hok)).mono fun e w' h => .no h (by decide)

/-- the boxes of an integer and a number, and a block behind them -/
theorem boxesN (w : World) (n1 : Bool) (n : Int) (A1 : Option Addr) (c1 : Nat) (l1 : List Nat) (h1 : Rd w A1 l1) (hc1 : l1.length ≤ c1) (cur : Array Value) (t : TypeId) :
    ∃ W3, (((w.alloc (.cells #[.bool n1, .slice A1 l1.length c1] 24)).alloc (.cells #[.int .i64 n] 3)).alloc (.cells cur t)) = W3 ∧ Below w.heap.size w W3 ∧
      IntBox W3 w.heap.size n1 A1 c1 l1 ∧ Blk W3 (w.heap.size + 1) #[.int .i64 n] 3 ∧ Blk W3 (w.heap.size + 1 + 1) cur t ∧ W3.heap.size = w.heap.size + 3 := by
  obtain ⟨W3, hW3⟩ : ∃ W3, (((w.alloc (.cells #[.bool n1, .slice A1 l1.length c1] 24)).alloc (.cells #[.int .i64 n] 3)).alloc (.cells cur t)) = W3 := ⟨_, rfl⟩
  have hb3 : Below w.heap.size w W3 := by rw [← hW3]; exact (((Below.refl _ w).alloc (Nat.le_refl _) _).alloc (by simp) _).alloc (by simp; omega) _
  refine ⟨W3, hW3, hb3, ?_, ?_, ?_, ?_⟩
  · exact ⟨by rw [← hW3]; exact (Below.heap_alloc _ _ _ (by simp; omega)).trans ((Below.heap_alloc _ _ _ (by simp)).trans (World.alloc_heap_new w _)), h1.on hb3, hc1⟩
  · exact ⟨by rw [← hW3]; exact (Below.heap_alloc _ _ _ (by simp)).trans (two_blk w _ _)⟩
  · exact ⟨by rw [← hW3]; have := World.alloc_heap_new ((w.alloc (.cells #[.bool n1, .slice A1 l1.length c1] 24)).alloc (.cells #[.int .i64 n] 3)) (.cells cur t); rwa [World.size_alloc, World.size_alloc] at this⟩
  · rw [← hW3]; simp

set_option maxRecDepth 100000 in
set_option maxHeartbeats 4000000 in
theorem Pow_calls (n1 : Bool) (n : Int) (A1 : Option Addr) (c1 : Nat) (l1 : List Nat) (w : World) (h1 : Rd w A1 l1) (hc1 : l1.length ≤ c1) :
    Calls Tryd.prog 21 #[iv n1 A1 l1.length c1, .int .i64 n] w (RetZE (powR n1 l1 n).1 (powR n1 l1 n).2 w) := by
  have hmf : ∀ (fn : Fn) (first cap : Array Value) (w : World), (Instr.makeFunc fn first cap).run Tryd.prog w = .ok (.func fn first cap) w := fun _ _ _ _ => rfl
  obtain ⟨W3, hW3, hb3, B1, B2, hR, hsz⟩ := boxesN w n1 n A1 c1 l1 h1 hc1 #[.bool false, .slice none 0 0] 24
  have hB4 : ∀ o o', Below W3.heap.size W3 ((W3.alloc o).alloc o') := fun o o' => ((Below.refl _ W3).alloc (Nat.le_refl _) _).alloc (by simp) _
  have ht := try_int 64 #[.pointer (some ⟨w.heap.size, 0, none⟩), .pointer (some ⟨w.heap.size + 1, 0, none⟩)] (enters_of Tryd.func64 (by kernel_rfl) rfl) W3 _ _ (pow1_calls _ _ n1 n A1 c1 l1 _ (B1.on (hB4 _ _)) (B2.on (hB4 _ _))) (powR_zero n1 l1 n)
  generalize (powR n1 l1 n).1 = z at *
  generalize (powR n1 l1 n).2 = er at *
  clear hsz
  go_enter Tryd.func21, Tryd.ntmps21
  go_wp2_with (go_at_call 63; refine ht.mono ?_; rintro e w' ⟨s, A, c, l, rfl, hz, hc, hr, hb⟩; have hq := hR.on hb; have z0 := cell_at hq.h 0 _ rfl; have z1 := cell_at hq.h 1 _ rfl; have u0 := frozen_at hq.h 0; have u1 := frozen_at hq.h 1)
  exact ret_cell_tmp (x := .bool s) (y := .slice A l.length c) rfl rfl rfl (set_blk (set_blk hq.h 0 _) 1 _) ⟨s, A, c, l, rfl, hz, hc, rd_sets hr hq _ _, ((hb3.trans (hb.mono hb3.size)).setCell (by dsimp only; omega) _).setCell (by dsimp only; omega) _⟩

end Nm
end Go.Proofs.YtlhmbbpkhahbeaaDoor
namespace Go.Proofs.YtlhmbbpkhahbeaaDoor
namespace Nm
open Go.RowKit Go.Shelf Go.BigFrame
attribute [local go_sem] Oper.semAt_some

def PostN (z er : Int) (w : World) (e : Ending) (w' : World) : Prop :=
  (er = 0 → e = .returned (.int .i64 z) ∧ Below w.heap.size w w') ∧ (er ≠ 0 → e = .panicked (wrong er) ∧ z = 0 ∧ Below w.heap.size w w')

def RetNE (z er : Int) (w : World) (e : Ending) (w' : World) : Prop :=
  e = .returned (.tuple #[.int .i64 z, .int .i64 er]) ∧ Below w.heap.size w w'

theorem try_num (G : Nat) (caps : Array Value) (hG : ∀ (args : Array Value) (w : World), (callFunc G args).run Tryd.prog w = .ok (.enter G args) w) (w : World) (z er : Int)
    (h : Calls Tryd.prog G caps ((w.alloc (.cells #[.int .i64 0] 3)).alloc (.cells #[.int .i64 0] 28)) (PostN z er ((w.alloc (.cells #[.int .i64 0] 3)).alloc (.cells #[.int .i64 0] 28)))) (hz : er ≠ 0 → z = 0) :
    Calls Tryd.prog 92 #[.func (.func G) #[] caps] w (RetNE z er w) := by
  by_cases h0 : er = 0
  · subst h0
    refine (try_num_ok G caps hG w _ rfl (fun x w1 => x = z) (h.mono ?_)).mono ?_
    · rintro e w' ⟨h1, -⟩
      exact ⟨z, (h1 rfl).1, rfl, (h1 rfl).2⟩
    · rintro e w' ⟨x, w1, rfl, h5, h6, rfl⟩
      exact ⟨rfl, h5⟩
  · obtain rfl := hz h0
    refine (try_num_wrong G caps hG w _ rfl er (h.mono ?_)).mono ?_
    · rintro e w' ⟨-, h1⟩
      obtain ⟨h2, -, h3⟩ := h1 h0
      exact ⟨h2, h3⟩
    · rintro e w' ⟨h1, rfl⟩
      exact ⟨rfl, h1⟩

/-- what Bits returns -/
def bitsR (n1 : Bool) (l1 : List Nat) : Int × Int := if okI n1 l1 = true then ((blen (val l1) : Nat), 0) else (0, 1)
theorem bitsR_zero (n1 : Bool) (l1 : List Nat) : (bitsR n1 l1).2 ≠ 0 → (bitsR n1 l1).1 = 0 := by
  unfold bitsR
  split <;> simp

set_option maxRecDepth 100000 in
set_option maxHeartbeats 2000000 in
theorem bits1_calls (g1 : Nat) (n1 : Bool) (A1 : Option Addr) (c1 : Nat) (l1 : List Nat) (w : World) (h1 : IntBox w g1 n1 A1 c1 l1) :
    Calls Tryd.prog 93 #[.pointer (some ⟨g1, 0, none⟩)] w (PostN (bitsR n1 l1).1 (bitsR n1 l1).2 w) := by
  have x0 := cell_at h1.blk 0 _ rfl
  have x1 := cell_at h1.blk 1 _ rfl
  have t1 := (Array.getElem?_eq_some_iff.1 h1.blk).1
  have hb1 : ∀ o, Below w.heap.size w (w.alloc o) := fun o => (Below.refl _ w).alloc (Nat.le_refl _) _
  have hf := formed_one w.heap.size n1 A1 c1 l1 _ (World.alloc_heap_new w (.cells #[.bool n1, .slice A1 l1.length c1] 24)) (h1.rd.on (hb1 _)) h1.cap
  unfold bitsR
  by_cases hok : okI n1 l1 = true
  · rw [if_pos hok]
    have k1 := okI_isInt h1.rd.words hok
    have hbt := fun W (hW : Below w.heap.size w W) => bits_calls A1 c1 l1 W (h1.rd.on hW) h1.cap k1.canon (by have := k1.small; omega)
    generalize blen (val l1) = m at *
    go_enter Tryd.func93, Tryd.ntmps93
    go_wp2_with first
      | (go_at_call 55; refine hf.mono ?_; rintro e w' ⟨hp, -, hbl⟩; cases hp hok; have hb3 := (hb1 _).trans (hbl.mono (hb1 _).size); have p1 := cell_at (h1.on hb3).blk 1 _ rfl)
      | (go_at_call 94; refine (hbt _ hb3).mono ?_; rintro e w4 ⟨rfl, nn, rfl⟩)
    go_ret
    exact ⟨fun _ => ⟨rfl, below_drewN hb3 _⟩, fun h => absurd rfl h⟩
  · rw [if_neg hok]
    have hbad : okI n1 l1 = false := by simpa using hok
    clear hok
    go_enter Tryd.func93, Tryd.ntmps93
    go_wp2_with (go_at_call 55; refine hf.mono ?_; rintro e w' ⟨-, hp, hbl⟩; cases hp hbad)
    exact ⟨rfl, fun h => absurd h (by decide), fun _ => ⟨rfl, rfl, (hb1 _).trans (hbl.mono (hb1 _).size)⟩⟩

set_option maxRecDepth 100000 in
set_option maxHeartbeats 2000000 in
theorem Bits_calls (n1 : Bool) (A1 : Option Addr) (c1 : Nat) (l1 : List Nat) (w : World) (h1 : Rd w A1 l1) (hc1 : l1.length ≤ c1) :
    Calls Tryd.prog 41 #[iv n1 A1 l1.length c1] w (RetNE (bitsR n1 l1).1 (bitsR n1 l1).2 w) := by
  have hmf : ∀ (fn : Fn) (first cap : Array Value) (w : World), (Instr.makeFunc fn first cap).run Tryd.prog w = .ok (.func fn first cap) w := fun _ _ _ _ => rfl
  obtain ⟨W1, hW1⟩ : ∃ W1, w.alloc (.cells #[.bool n1, .slice A1 l1.length c1] 24) = W1 := ⟨_, rfl⟩
  have hb1 : Below w.heap.size w W1 := by rw [← hW1]; exact (Below.refl _ w).alloc (Nat.le_refl _) _
  have B1 : IntBox W1 w.heap.size n1 A1 c1 l1 := ⟨by rw [← hW1]; exact World.alloc_heap_new w _, h1.on hb1, hc1⟩
  have hB4 : ∀ o o', Below W1.heap.size W1 ((W1.alloc o).alloc o') := fun o o' => ((Below.refl _ W1).alloc (Nat.le_refl _) _).alloc (by simp) _
  have ht := try_num 93 #[.pointer (some ⟨w.heap.size, 0, none⟩)] (enters_of Tryd.func93 (by kernel_rfl) rfl) W1 _ _ (bits1_calls _ n1 A1 c1 l1 _ (B1.on (hB4 _ _))) (bitsR_zero n1 l1)
  generalize (bitsR n1 l1).1 = z at *
  generalize (bitsR n1 l1).2 = er at *
  go_enter Tryd.func41, Tryd.ntmps41
  go_wp2_with (go_at_call 92; refine ht.mono ?_; rintro e w' ⟨rfl, hb⟩)
  go_ret2
  exact ⟨rfl, hb1.trans (hb.mono hb1.size)⟩

end Nm
end Go.Proofs.YtlhmbbpkhahbeaaDoor
namespace Go.Proofs.YtlhmbbpkhahbeaaDoor
namespace Nm
open Go.RowKit Go.Shelf Go.BigFrame
attribute [local go_sem] Oper.semAt_some

/-- the value of a digit; m of other bytes -/
def digV (m c : Nat) : Nat := if 65 ≤ c ∧ c ≤ 90 then c - 55 else if 97 ≤ c ∧ c ≤ 122 then c - 87 else if 48 ≤ c ∧ c ≤ 57 then c - 48 else m

set_option maxRecDepth 100000 in
set_option maxHeartbeats 2000000 in
theorem value_calls (c : Nat) (hc : c < 256) (w : World) :
    Calls Tryd.prog 88 #[.int .u8 (c : Int)] w fun e w' => e = .returned (.int .i64 (digV 36 c : Nat)) ∧ w = w' := by
  by_cases h1 : 65 ≤ c ∧ c ≤ 90
  · have hd : ((digV 36 c : Nat) : Int) = (c : Int) + 32 - 97 + 10 := by unfold digV; rw [if_pos h1]; omega
    rw [hd]
    obtain ⟨a1, a2⟩ := h1
    have a3 : (65 : Int) ≤ (c : Int) := by omega
    have a4 : (c : Int) ≤ 90 := by omega
    clear hd
    go_enter Tryd.func88, Tryd.ntmps88
    go_wp2
    go_ret
    exact ⟨rfl, rfl⟩
  · by_cases h2 : 97 ≤ c ∧ c ≤ 122
    · have hd : ((digV 36 c : Nat) : Int) = (c : Int) - 97 + 10 := by unfold digV; rw [if_neg h1, if_pos h2]; omega
      rw [hd]
      obtain ⟨a1, a2⟩ := h2
      have a3 : ¬ c ≤ 90 := by omega
      have a4 : 65 ≤ c := by omega
      have a5 : ¬ (c : Int) ≤ 90 := by omega
      clear hd h1
      go_enter Tryd.func88, Tryd.ntmps88
      go_wp2
      go_ret
      exact ⟨rfl, rfl⟩
    · by_cases h3 : 48 ≤ c ∧ c ≤ 57
      · have hd : ((digV 36 c : Nat) : Int) = (c : Int) - 48 := by unfold digV; rw [if_neg h1, if_neg h2, if_pos h3]; omega
        rw [hd]
        obtain ⟨a1, a2⟩ := h3
        have a3 : ¬ 65 ≤ c := by omega
        have a4 : ¬ 97 ≤ c := by omega
        clear hd h1 h2
        go_enter Tryd.func88, Tryd.ntmps88
        go_wp2
        go_ret
        exact ⟨rfl, rfl⟩
      · have hd : digV 36 c = 36 := by unfold digV; rw [if_neg h1, if_neg h2, if_neg h3]
        rw [hd]
        clear hd
        have k1 : (decide (65 ≤ c) && decide (c ≤ 90)) = false := by rw [← Bool.not_eq_true]; simpa using h1
        have k2 : (decide (97 ≤ c) && decide (c ≤ 122)) = false := by rw [← Bool.not_eq_true]; simpa using h2
        have k3 : (decide (48 ≤ c) && decide (c ≤ 57)) = false := by rw [← Bool.not_eq_true]; simpa using h3
        rcases (show c < 48 ∨ (58 ≤ c ∧ c < 65) ∨ (90 < c ∧ c < 97) ∨ 122 < c by omega) with h | ⟨h, h'⟩ | ⟨h, h'⟩ | h
        · have b1 : ¬ 65 ≤ c := by omega
          have b2 : ¬ 97 ≤ c := by omega
          have b3 : ¬ 48 ≤ c := by omega
          clear h1 h2 h3 k1 k2 k3 h
          go_enter Tryd.func88, Tryd.ntmps88
          go_wp2
          go_ret
          exact ⟨rfl, rfl⟩
        · have b1 : ¬ 65 ≤ c := by omega
          have b2 : ¬ 97 ≤ c := by omega
          have b3 : 48 ≤ c := by omega
          have b4 : ¬ c ≤ 57 := by omega
          clear h1 h2 h3 k1 k2 k3 h h'
          go_enter Tryd.func88, Tryd.ntmps88
          go_wp2
          go_ret
          exact ⟨rfl, rfl⟩
        · have b1 : 65 ≤ c := by omega
          have b2 : ¬ 97 ≤ c := by omega
          have b3 : 48 ≤ c := by omega
          have b4 : ¬ c ≤ 57 := by omega
          have b5 : ¬ c ≤ 90 := by omega
          clear h1 h2 h3 k1 k2 k3 h h'
          go_enter Tryd.func88, Tryd.ntmps88
          go_wp2
          go_ret
          exact ⟨rfl, rfl⟩
        · have b1 : 65 ≤ c := by omega
          have b2 : 97 ≤ c := by omega
          have b3 : 48 ≤ c := by omega
          have b4 : ¬ c ≤ 57 := by omega
          have b5 : ¬ c ≤ 90 := by omega
          have b6 : ¬ c ≤ 122 := by omega
          clear h1 h2 h3 k1 k2 k3 h
          go_enter Tryd.func88, Tryd.ntmps88
          go_wp2
          go_ret
          exact ⟨rfl, rfl⟩

/-- how many digits of a base fit into a limb -/
def many : Nat → Nat
  | 2 => 31
  | 3 => 20
  | 4 => 15
  | 5 => 13
  | 6 => 12
  | 7 => 11
  | 8 => 10
  | 9 => 10
  | 10 => 9
  | 11 => 9
  | 12 => 8
  | 13 => 8
  | 14 => 8
  | 15 => 8
  | 16 => 7
  | 17 => 7
  | 18 => 7
  | 19 => 7
  | 20 => 7
  | 21 => 7
  | 22 => 7
  | 23 => 7
  | _ => 6

theorem many_lt : ∀ b, 2 ≤ b → b ≤ 36 → b ^ many b < 4294967296 ∧ 4294967296 ≤ b ^ (many b + 1) ∧ 1 ≤ many b ∧ many b ≤ 31 := by
  intro b h1 h2
  have : ∀ b : Fin 37, 2 ≤ b.val → b.val ^ many b.val < 4294967296 ∧ 4294967296 ≤ b.val ^ (many b.val + 1) ∧ 1 ≤ many b.val ∧ many b.val ≤ 31 := by decide
  exact this ⟨b, by omega⟩ h1

set_option maxRecDepth 100000 in
set_option maxHeartbeats 2000000 in
theorem chunk_calls (b : Nat) (h1 : 2 ≤ b) (h2 : b ≤ 36) (w : World) :
    Calls Tryd.prog 82 #[.int .i64 (b : Int)] w fun e w' => e = .returned (.tuple #[.int .i64 (many b : Nat), .int .u32 (b ^ many b : Nat)]) ∧ w = w' := by
  obtain ⟨m1, m2, m3, m4⟩ := many_lt b h1 h2
  generalize many b = M at *
  have M2 := Lib.hid m2
  have M1 := Lib.hid m1
  clear m1 m2
  go_enter Tryd.func82, Tryd.ntmps82
  go_wp2
  go_loop [4, 5] (fun m u => ∃ k : Nat, 1 ≤ k ∧ k ≤ M ∧ m = .int .i64 (k : Int) ∧ u = .int .i64 ((b ^ k : Nat) : Int)) (fun m _ => M - (intOf m).toNat)
  case atStart => exact ⟨1, Nat.le_refl _, m3, rfl, by rw [Nat.pow_one]⟩
  case round =>
    obtain ⟨k, hk1, hk, rfl, rfl⟩ := hrel
    have hmono := Nat.pow_le_pow_right (show 0 < b by omega) hk
    obtain ⟨p, hp⟩ : ∃ p, b ^ k = p := ⟨_, rfl⟩
    obtain ⟨q, hq⟩ : ∃ q, p * b = q := ⟨_, rfl⟩
    have hpq : b ^ (k + 1) = q := by rw [Nat.pow_succ, hp, hq]
    have hpb : (p : Int) * (b : Int) = (q : Int) := by rw [← hq]; simp
    have hpl : p < 4294967296 := by rw [← hp]; have := M1.out; omega
    have hql : q < 154618822656 := by
      rw [← hq]
      exact Nat.lt_of_le_of_lt (Nat.mul_le_mul (show p ≤ 4294967295 by omega) h2) (by decide)
    rw [hp]
    have Hpq := Lib.hid hpq
    have Hp := Lib.hid hp
    by_cases hkm : k < M
    · have hlt : q < 4294967296 := by rw [← hpq]; exact Nat.lt_of_le_of_lt (Nat.pow_le_pow_right (by omega) hkm) M1.out
      have hlti : (q : Int) < 4294967296 := by omega
      clear hp hq hpq hmono
      go_wp2
      go_round
      case rel => exact ⟨k + 1, by omega, by omega, rfl, by rw [Hpq.out]⟩
      case measure => simp only [intOf]; omega
    · obtain rfl : k = M := by omega
      have hlt : ¬ q < 4294967296 := by rw [← hpq]; have := M2.out; omega
      have hlti : ¬ (q : Int) < 4294967296 := by omega
      clear hp hq hpq hmono hkm hk
      go_wp2
      go_ret2
      exact ⟨by show Ending.returned (.tuple #[.int .i64 (k : Int), .int .u32 (p : Int)]) = _; rw [← Hp.out, Int.natCast_pow], rfl⟩

end Nm
end Go.Proofs.YtlhmbbpkhahbeaaDoor
namespace Go.Proofs.YtlhmbbpkhahbeaaDoor
namespace Nm
open Go.RowKit Go.Shelf Go.BigFrame

/-- the digits to a base, lowest first -/
def digs (b n : Nat) : List Nat := if _h : 2 ≤ b ∧ 0 < n then (n % b) :: digs b (n / b) else []
termination_by n
decreasing_by exact Nat.div_lt_self _h.2 (by omega)

theorem digs_zero (b : Nat) : digs b 0 = [] := by rw [digs]; simp
theorem digs_pos {b n : Nat} (hb : 2 ≤ b) (hn : 0 < n) : digs b n = (n % b) :: digs b (n / b) := by rw [digs, dif_pos ⟨hb, hn⟩]

theorem digs_lt {b : Nat} (hb : 2 ≤ b) : ∀ n, ∀ d ∈ digs b n, d < b := by
  intro n
  induction n using Nat.strongRecOn with
  | _ n ih =>
    intro d hd
    rcases Nat.eq_zero_or_pos n with h0 | h0
    · subst h0; rw [digs_zero] at hd; cases hd
    · rw [digs_pos hb h0, List.mem_cons] at hd
      rcases hd with rfl | hd
      · exact Nat.mod_lt _ (by omega)
      · exact ih _ (Nat.div_lt_self h0 (by omega)) d hd

/-- the number that digits make, highest first -/
def numOf (b : Nat) (ds : List Nat) : Nat := ds.foldl (fun a d => a * b + d) 0

theorem numOf_snoc (b : Nat) (ds : List Nat) (d : Nat) : numOf b (ds ++ [d]) = numOf b ds * b + d := by simp [numOf]

theorem numOf_digs {b : Nat} (hb : 2 ≤ b) : ∀ n, numOf b (digs b n).reverse = n := by
  intro n
  induction n using Nat.strongRecOn with
  | _ n ih =>
    rcases Nat.eq_zero_or_pos n with h0 | h0
    · subst h0; rw [digs_zero]; rfl
    · rw [digs_pos hb h0, List.reverse_cons, numOf_snoc, ih _ (Nat.div_lt_self h0 (by omega)), Nat.mul_comm]
      exact Nat.div_add_mod n b

theorem digs_length {b : Nat} (hb : 2 ≤ b) : ∀ m n, n < 2 ^ m → (digs b n).length ≤ m := by
  intro m
  induction m with
  | zero => intro n h; obtain rfl : n = 0 := by simpa using h
            rw [digs_zero]; simp
  | succ m ih =>
    intro n h
    rcases Nat.eq_zero_or_pos n with h0 | h0
    · subst h0; rw [digs_zero]; simp
    · rw [digs_pos hb h0]
      have : n / b < 2 ^ m := by
        rw [Nat.div_lt_iff_lt_mul (by omega)]
        refine Nat.lt_of_lt_of_le h ?_
        rw [Nat.pow_succ]
        exact Nat.mul_le_mul_left _ hb
      have := ih _ this
      simp; omega

theorem digs_step {b j q r : Nat} (hb : 2 ≤ b) : (q * b ^ (j + 1) + r) % b = r % b ∧ (q * b ^ (j + 1) + r) / b = q * b ^ j + r / b := by
  have e : q * b ^ (j + 1) + r = r + b * (q * b ^ j) := by
    rw [Nat.pow_succ, Nat.add_comm, ← Nat.mul_assoc, Nat.mul_comm b]
  constructor
  · rw [e, Nat.add_mul_mod_self_left]
  · rw [e, Nat.add_mul_div_left _ _ (by omega), Nat.add_comm]

/-- one more digit -/
theorem digs_one {b j q r : Nat} (hb : 2 ≤ b) (h : 0 < q ∨ 0 < r) : digs b (q * b ^ (j + 1) + r) = (r % b) :: digs b (q * b ^ j + r / b) := by
  have hpos : 0 < q * b ^ (j + 1) + r := by
    rcases h with h | h
    · have := Nat.mul_pos h (Nat.pow_pos (show 0 < b by omega) (n := j + 1)); omega
    · omega
  rw [digs_pos hb hpos, (digs_step hb).1, (digs_step hb).2]

/-- the byte of a digit -/
def chr (d : Nat) : Nat := if d < 10 then 48 + d else 87 + d
theorem chr_lt {d : Nat} (h : d < 36) : chr d < 128 := by unfold chr; split <;> omega
theorem digV_chr (m : Nat) {d : Nat} (h : d < 36) : digV m (chr d) = d := by
  unfold digV chr
  split
  · rw [if_neg (by omega), if_neg (by omega), if_pos (by omega)]; omega
  · rw [if_neg (by omega), if_pos (by omega)]; omega

/-- bytes as a string -/
def strB (l : List Nat) : ByteArray := ⟨(l.map UInt8.ofNat).toArray⟩
theorem strB_size (l : List Nat) : (strB l).size = l.length := by
  show ((l.map UInt8.ofNat).toArray).size = _
  rw [List.size_toArray, List.length_map]

/-- the bytes of a text -/
def bytesN (s : ByteArray) : List Nat := s.data.toList.map UInt8.toNat
theorem bytesN_length (s : ByteArray) : (bytesN s).length = s.size := by
  show (s.data.toList.map UInt8.toNat).length = s.data.size
  rw [List.length_map, Array.length_toList]
theorem bytesN_lt (s : ByteArray) : ∀ c ∈ bytesN s, c < 256 := by
  intro c hc
  simp only [bytesN, List.mem_map] at hc
  obtain ⟨u, _, rfl⟩ := hc
  exact u.toNat_lt
theorem bytesN_strB {l : List Nat} (h : ∀ c ∈ l, c < 256) : bytesN (strB l) = l := by
  simp only [bytesN, strB, List.map_map]
  conv => rhs; rw [← List.map_id l]
  refine List.map_congr_left fun c hc => ?_
  simp only [Function.comp, id, UInt8.toNat_ofNat']
  exact Nat.mod_eq_of_lt (h c hc)
theorem strB_bytesN (s : ByteArray) : strB (bytesN s) = s := by
  have : (bytesN s).map UInt8.ofNat = s.data.toList := by
    simp only [bytesN, List.map_map]
    conv => rhs; rw [← List.map_id s.data.toList]
    exact List.map_congr_left fun c _ => by simp
  show ByteArray.mk ((bytesN s).map UInt8.ofNat).toArray = s
  rw [this]

/-- the text of a number to a base -/
def textL (neg : Bool) (b n : Nat) : List Nat := if n = 0 then [48] else (if neg then [45] else []) ++ ((digs b n).map chr).reverse

/-- what Text returns -/
def textR (n1 : Bool) (l1 : List Nat) (b : Int) : List Nat × Int := if okI n1 l1 && (decide (2 ≤ b) && decide (b ≤ 36)) then (textL n1 b.toNat (val l1), 0) else ([], 1)

end Nm
end Go.Proofs.YtlhmbbpkhahbeaaDoor
namespace Go.Proofs.YtlhmbbpkhahbeaaDoor
namespace Nm
open Go.RowKit Go.Shelf Go.BigFrame
attribute [local go_sem] Oper.semAt_some

/-- a slice that lies below base, or in a block of words -/
def Typd (base : Nat) (W : World) (A : Option Addr) : Prop := ∀ b o, A = some ⟨b, o, none⟩ → b < base ∨ ∃ cur, W.heap[b]? = some (.cells cur 72 (0, 0))

def Ret2T (n : Nat) (m : Nat) (w : World) (e : Ending) (w' : World) : Prop :=
  ∃ A c, e = .returned (.tuple #[.slice A (lim n).length c, .int .u32 (m : Int)]) ∧ (lim n).length ≤ c ∧ Rd w' A (lim n) ∧ Typd 0 w' A ∧ Below w.heap.size w w'

theorem Typd.mono {n m : Nat} {W : World} {A : Option Addr} (h : Typd n W A) (hm : n ≤ m) : Typd m W A := fun b o e => (h b o e).imp (fun h => by omega) id
theorem Typd.lower {m : Nat} {W : World} {A : Option Addr} (h : Typd 0 W A) : Typd m W A := h.mono (Nat.zero_le _)

set_option maxRecDepth 100000 in
set_option maxHeartbeats 2000000 in
theorem small_typed (A : Option Addr) (c b : Nat) (l : List Nat) (w : World) (h1 : Rd w A l) (_hc1 : l.length ≤ c) (hb0 : 0 < b) (hb : b < 4294967296) (hsm : l.length ≤ 1048576) :
    Calls Tryd.prog 83 #[.slice A l.length c, .int .u32 (b : Int)] w (Ret2T (val l / b) (val l % b) w) := by
  have hs1 := h1.small
  have hmk := make_nat (l.length : Int) (l.length : Int) l.length l.length rfl rfl (by omega) (by omega)
  go_enter Tryd.func83, Tryd.ntmps83
  go_wp2
  clear hmk
  go_loopw [7, 8] (fun r i W => ∃ (k rest : Nat) (qs : List Nat), k ≤ l.length ∧ rest < b ∧ r = .int .u64 (rest : Int) ∧ i = .int .i64 ((k : Int) - 1) ∧ Hid (qs.length + k = l.length) ∧ Words qs ∧ Arr W w.heap.size (List.replicate k 0 ++ qs) ∧ Below w.heap.size w W ∧ Hid (val (l.drop k) = b * val qs + rest)) (fun _ i _ => (intOf i + 1).toNat)
  case atStart => exact ⟨l.length, 0, [], Nat.le_refl _, hb0, rfl, rfl, Nat.zero_add _, words_nil, by rw [List.append_nil]; exact arr_new _ _, (Below.refl _ _).alloc (Nat.le_refl _) _, by simp [Hid, val]⟩
  case round =>
    obtain ⟨k, rest, qs, hk, hrb, rfl, rfl, hql, hqw, harr, hbl, hval⟩ := hrel
    rename_i wr
    by_cases h0 : 0 < k
    · obtain ⟨k, rfl⟩ : ∃ j, k = j + 1 := ⟨k - 1, by omega⟩
      obtain ⟨bb, o, x, rfl, hcx, hx, hxb⟩ := h1.get k (by omega)
      have hbb := World.block_lt_of_cell? w _ hcx
      replace hcx := (hbl.cell (p := ⟨bb, o + k, none⟩) hbb).trans hcx
      obtain ⟨u, g4⟩ : ∃ u : Nat, wr.cell? ⟨w.heap.size, k, none⟩ = some (.int .u32 (u : Int)) := ⟨_, arr_cell harr k (by simp; omega)⟩
      have f4 := arr_frozen harr k
      rw [show ((k + 1 : Nat) : Int) - 1 = (k : Int) by omega]
      clear h0
      obtain ⟨t, t1, t2, t3⟩ : ∃ t : Nat, bits .or .u64 ((rest : Int) * 4294967296) (x : Int) = (t : Int) ∧ Hid (t = rest * BB + x) ∧ t < 18446744073709551616 := by
        have e : (rest : Int) * 4294967296 = ((rest * 4294967296 : Nat) : Int) := by simp
        refine ⟨rest * BB + x, ?_, rfl, by show rest * 4294967296 + x < 18446744073709551616; omega⟩
        rw [e]
        exact or_u64' x (rest * 4294967296) 32 hxb (by show rest * 4294967296 % 4294967296 = 0; omega) (by omega) (by omega)
      obtain ⟨z, z1, z2, z3⟩ : ∃ z : Nat, (t : Int) / (b : Int) = (z : Int) ∧ Hid (z = (rest * BB + x) / b) ∧ z < 4294967296 := ⟨t / b, by simp, by rw [← t2.out]; rfl, by rw [t2.out]; exact small_bound hrb hxb⟩
      obtain ⟨r, r1, r2, r3⟩ : ∃ r : Nat, (t : Int) % (b : Int) = (r : Int) ∧ Hid (r = (rest * BB + x) % b) ∧ r < b := ⟨t % b, by simp, by rw [← t2.out]; rfl, Nat.mod_lt _ hb0⟩
      go_wp2
      rw [r1]
      refine ⟨⟨k, r, z :: qs, by omega, r3, rfl, rfl, by have := hql.out; show (z :: qs).length + k = l.length; simp; omega, words_cons.2 ⟨z3, hqw⟩, ?_, hbl.setCell (Nat.le_refl _) _, small_step (by omega) hx.out hval.out z2.out r2.out⟩, by simp [intOf]⟩
      rw [← set_front]
      exact arr_set harr k z
    · obtain rfl : k = 0 := by omega
      have hlen : qs.length = l.length := by have := hql.out; omega
      have hrd := arr_rd (by simpa using harr : Arr wr w.heap.size qs) hqw (by omega)
      have hv : val l = b * val qs + rest := by have := hval.out; rwa [List.drop_zero] at this
      have hq : val qs = val l / b := by rw [hv, Nat.add_comm, Nat.add_mul_div_left _ _ hb0, Nat.div_eq_of_lt hrb, Nat.zero_add]
      have hr : rest = val l % b := by rw [hv, Nat.mul_add_mod, Nat.mod_eq_of_lt hrb]
      have ht := trim_calls (some ⟨w.heap.size, 0, none⟩) l.length qs wr hrd (by omega)
      have hval' : trim qs = lim (val l / b) := by unfold trim; rw [hq]
      have hrd2 := hrd.trim
      have hty : Typd 0 wr (some ⟨w.heap.size, 0, none⟩) := fun b o e => by
        cases e
        obtain ⟨cur, hc, -⟩ := harr
        exact .inr ⟨cur, hc⟩
      have htl := trim_length_le hqw
      rw [hval'] at hrd2 htl ht
      rw [hlen] at ht htl
      clear hval hv hq hval' hlen harr
      have Hr := Lib.hid hr
      clear hr
      go_wp2_with (go_at_call 101; refine ht.mono ?_; rintro e w' ⟨rfl, rfl⟩)
      go_ret2
      refine ⟨_, _, ?_, htl, hrd2, hty, hbl⟩
      rw [← Hr.out]
      rfl


/-- bytes in cells -/
def bvals (l : List Nat) : List Value := l.map fun (n : Nat) => Value.int .u8 (n : Int)
theorem bvals_append (l m : List Nat) : bvals (l ++ m) = bvals l ++ bvals m := List.map_append
theorem bvals_length (l : List Nat) : (bvals l).length = l.length := List.length_map _

/-- the block g begins with the bytes l, and none is frozen -/
def RdB (W : World) (g : Nat) (l : List Nat) : Prop := ∀ i, i < l.length → W.cell? ⟨g, i, none⟩ = some (.int .u8 ((l.getD i 0 : Nat) : Int)) ∧ W.frozen? ⟨g, i, none⟩ = false

theorem own_bytes {w : World} {base n : Nat} {v : Value} {l : List Nat} (h : w.ownsRow base 5 1 v n (bvals l)) (hp : 0 < l.length) :
    ∃ g c, v = .slice (some ⟨g, 0, none⟩) l.length c ∧ n = l.length ∧ n ≤ c ∧ base ≤ g ∧ g < w.heap.size ∧ RdB w g l := by
  have hl : l.length = n := by simpa [bvals] using h.1
  rcases h.2 with ⟨rfl, rfl⟩ | ⟨g, cap, cur, rfl, hb, hg, hk, hm, hcs, ht⟩
  · omega
  · refine ⟨g, cap, by rw [hl], hl.symm, hk, hb, (Array.getElem?_eq_some_iff.1 hg).1, fun i hi => ⟨?_, by simp [World.frozen?, hg]⟩⟩
    have h1 : (cur.toList.take n)[i]? = some (.int .u8 ((l.getD i 0 : Nat) : Int)) := by
      rw [show n = n * 1 by omega, ht]; simp [bvals, hi, List.getD_eq_getElem?_getD]
    rw [List.getElem?_take_of_lt (by omega)] at h1
    simp only [World.cell?, hg, Option.isSome_none, Bool.false_eq_true, if_false]
    simpa using h1

theorem RdB.set {W : World} {g : Nat} {l : List Nat} (h : RdB W g l) (i x : Nat) (hi : i < l.length) : RdB (W.setCell ⟨g, i, none⟩ (.int .u8 (x : Int))) g (l.set i x) := by
  intro k hk
  rw [List.length_set] at hk
  obtain ⟨h1, h2⟩ := h k hk
  refine ⟨?_, by rw [World.frozen?_setCell]; exact h2⟩
  by_cases e : i = k
  · subst e
    rw [List.getD_eq_getElem?_getD, List.getElem?_set_self hi]
    exact World.cell?_setCell_same W _ _ h1
  · rw [List.getD_eq_getElem?_getD, List.getElem?_set_ne e, ← List.getD_eq_getElem?_getD]
    exact (World.cell?_setCell_other W _ _ _ (by intro e'; cases e'; exact e rfl)).trans h1
theorem RdB.drewN {W : World} {g : Nat} {l : List Nat} (h : RdB W g l) (n : Nat) : RdB (W.drewN n) g l := fun i hi => h i hi
theorem RdB.drew {W : World} {g : Nat} {l : List Nat} (h : RdB W g l) : RdB W.drew g l := fun i hi => h i hi

theorem getD_set (l : List Nat) (i k x : Nat) (hi : i < l.length) : (l.set i x).getD k 0 = if i = k then x else l.getD k 0 := by
  split
  · rename_i e; subst e; rw [List.getD_eq_getElem?_getD, List.getElem?_set_self hi]; rfl
  · rename_i e; rw [List.getD_eq_getElem?_getD, List.getElem?_set_ne e, ← List.getD_eq_getElem?_getD]

theorem reverse_of {l dk : List Nat} (h : dk.length = l.length) (hd : ∀ k, k < l.length → dk.getD k 0 = l.getD (l.length - 1 - k) 0) : dk = l.reverse := by
  apply List.ext_getElem
  · simpa using h
  · intro k h1 h2
    have := hd k (by omega)
    rw [List.getD_eq_getElem?_getD, List.getD_eq_getElem?_getD, List.getElem?_eq_getElem h1, List.getElem?_eq_getElem (by omega)] at this
    rw [List.getElem_reverse]
    simpa using this

set_option maxRecDepth 100000 in
set_option maxHeartbeats 2000000 in
theorem rev_calls (g c n0 : Nat) (l : List Nat) (w : World) (h : RdB w g l) (hn : n0 ≤ g) (hsm : l.length ≤ 1048576) :
    Calls Tryd.prog 84 #[.slice (some ⟨g, 0, none⟩) l.length c] w fun e w' => e = .returned (.tuple #[]) ∧ RdB w' g l.reverse ∧ Below n0 w w' := by
  go_enter Tryd.func84, Tryd.ntmps84
  go_wp2
  go_loopw [2, 3] (fun iv jv W => ∃ (i : Nat) (dk : List Nat), iv = .int .i64 (i : Int) ∧ jv = .int .i64 ((l.length : Int) - 1 - i) ∧ 2 * i ≤ l.length + 1 ∧ RdB W g dk ∧ Hid (dk.length = l.length) ∧ Hid (∀ k, k < l.length → dk.getD k 0 = if k < i ∨ l.length - 1 - k < i then l.getD (l.length - 1 - k) 0 else l.getD k 0) ∧ Below n0 w W) (fun i _ _ => l.length + 1 - (intOf i).toNat)
  case atStart => exact ⟨0, l, rfl, by simp, by omega, h, rfl, fun k hk => by simp, Below.refl _ _⟩
  case round =>
    obtain ⟨i, dk, rfl, rfl, hi, hr, hdl, hd, hbl⟩ := hrel
    by_cases hlt : i + i + 1 < l.length
    · obtain ⟨j, hj⟩ : ∃ j, l.length - 1 - i = j := ⟨_, rfl⟩
      have hj2 : (l.length : Int) - 1 - (i : Int) = (j : Int) := by omega
      have hij : i < j := by omega
      have hjl : j < l.length := by omega
      obtain ⟨ci, fi⟩ := hr i (by rw [hdl.out]; omega)
      obtain ⟨cj, fj⟩ := hr j (by rw [hdl.out]; omega)
      rw [hj2]
      obtain ⟨x, hx⟩ : ∃ x, dk.getD i 0 = x := ⟨_, rfl⟩
      obtain ⟨y, hy⟩ : ∃ y, dk.getD j 0 = y := ⟨_, rfl⟩
      rw [hx] at ci
      rw [hy] at cj
      have Hx := Lib.hid hx
      have Hy := Lib.hid hy
      have Hj := Lib.hid hj
      have ne1 : ¬ i = j := by omega
      have hi2 : 2 * (i + 1) ≤ l.length + 1 := by omega
      have ne2 : ¬ j = i := by omega
      clear hx hy hj hj2 hlt
      go_wp2_with fail
      go_region
      go_wp2
      refine ⟨⟨i + 1, (dk.set i y).set j x, by simp, ?_, by omega, ?_, ?_, ?_, ((hbl.setCell hn _).setCell hn _).drew⟩, by simp [intOf]; omega⟩
      · have := Hj.out
        congr 1
        omega
      · exact ((hr.set i y (by rw [hdl.out]; omega)).set j x (by rw [List.length_set, hdl.out]; omega)).drew
      · show _ = _
        rw [List.length_set, List.length_set]; exact hdl.out
      · intro k hk
        have hj := Hj.out
        have hd' := hd.out
        have e1 := hd' i (by omega)
        have e2 := hd' j hjl
        rw [Hx.out, if_neg (by omega)] at e1
        rw [Hy.out, if_neg (by omega)] at e2
        rw [getD_set _ _ _ _ (by rw [List.length_set, hdl.out]; omega), getD_set _ _ _ _ (by rw [hdl.out]; omega), hd' k hk]
        by_cases h1 : j = k
        · rw [if_pos h1, if_pos (by omega), e1]; congr 1; omega
        · rw [if_neg h1]
          by_cases h2 : i = k
          · rw [if_pos h2, if_pos (by omega), e2]; congr 1; omega
          · rw [if_neg h2]
            by_cases h3 : k < i ∨ l.length - 1 - k < i
            · rw [if_pos h3, if_pos (by omega)]
            · rw [if_neg h3, if_neg (by omega)]
    · have hnl : ¬ (i : Int) < (l.length : Int) - 1 - (i : Int) := by omega
      go_wp2
      go_end0
      refine ⟨rfl, ?_, hbl⟩
      rw [← reverse_of hdl.out (fun k hk => ?_)]
      · exact hr
      · rw [hd.out k hk]
        by_cases h1 : k < i ∨ l.length - 1 - k < i
        · rw [if_pos h1]
        · rw [if_neg h1]; congr 1; omega

end Nm
end Go.Proofs.YtlhmbbpkhahbeaaDoor
namespace Go.Proofs.YtlhmbbpkhahbeaaDoor
namespace Nm
open Go.RowKit Go.Shelf Go.BigFrame
attribute [local go_sem] Oper.semAt_some

/-- block 0 holds the digits -/
def DigW (W : World) : Prop := ∀ i, i < 36 → W.cell? ⟨0, i, none⟩ = some (.int .u8 ((chr i : Nat) : Int))
theorem DigW.on {w W : World} (h : DigW w) (hb : Below w.heap.size w W) : DigW W := fun i hi => (hb.cell (p := ⟨0, i, none⟩) (World.block_lt_of_cell? w _ (h i hi))).trans (h i hi)

theorem info_u8 : (Tryd.prog.info? 5).map (fun i => (i.zero, i.size, i.bytes)) = some (some (.int .u8 0), 1, 1) := by kernel_rfl
theorem underl_bytes : Tryd.prog.underlying 106 = some (.slice 5) := by kernel_rfl

theorem own_slice {w : World} {base n : Nat} {e : TypeId} {v : Value} {xs : List Value} (h : w.ownsRow base e 1 v n xs) : ∃ A c, v = .slice A n c := by
  rcases h.2 with ⟨rfl, rfl⟩ | ⟨g, cap, cur, rfl, -⟩
  · exact ⟨none, 0, rfl⟩
  · exact ⟨_, _, rfl⟩
theorem own_on {w W : World} {base n : Nat} {e : TypeId} {v : Value} {xs : List Value} (h : w.ownsRow base e 1 v n xs) (hb : Below w.heap.size w W) : W.ownsRow base e 1 v n xs := by
  refine ⟨h.1, ?_⟩
  rcases h.2 with hn | ⟨g, cap, cur, rfl, h1, h2, h3⟩
  · exact .inl hn
  · exact .inr ⟨g, cap, cur, rfl, h1, (hb.block g (Array.getElem?_eq_some_iff.1 h2).1).trans h2, h3⟩
theorem own_base8 {w : World} {base n : Nat} {e : TypeId} {v : Value} {xs : List Value} (h : w.ownsRow base e 1 v n xs) : ∀ j, v.ownBlock = some j → base ≤ j := by
  intro j e
  rcases h.2 with ⟨rfl, rfl⟩ | ⟨g, cap, cur, rfl, hb, _⟩
  · cases e
  · cases e; exact hb

theorem typd_on {n : Nat} {w W : World} {A : Option Addr} (h : Typd n w A) (hb : Below w.heap.size w W) : Typd n W A := fun b o e =>
  (h b o e).imp id fun ⟨cur, hc⟩ => ⟨cur, (hb.block b (Array.getElem?_eq_some_iff.1 hc).1).trans hc⟩

/-- words in a block of another type are not touched by an append to bytes that are owned -/
theorem rd_grown {w w' : World} {base n : Nat} {v : Value} {xs : List Value} {A : Option Addr} {l : List Nat} (h : Rd w A l) (ht : Typd base w A) (hown : w.ownsRow base 5 1 v n xs) (hg : w.grownBy w' v.ownBlock) :
    Rd w' A l ∧ Typd base w' A := by
  have hne : ∀ b o, A = some ⟨b, o, none⟩ → some b ≠ v.ownBlock := by
    intro b o e hb
    rcases hown.2 with ⟨rfl, -⟩ | ⟨g, cap, cur, rfl, h1, h2, -⟩
    · cases hb
    · have hb' : b = g := by simpa [Value.ownBlock] using hb
      subst hb'
      rcases ht b o e with h3 | ⟨cur', h3⟩
      · omega
      · rw [h2] at h3
        have : (5 : TypeId) = 72 := by injection h3 with h3; injection h3
        exact absurd this (by decide)
  refine ⟨⟨fun i hi => ?_, h.words, h.small⟩, fun b o e => (ht b o e).imp id fun ⟨cur, hc⟩ => ⟨cur, (hg.block b (Array.getElem?_eq_some_iff.1 hc).1 (hne b o e)).trans hc⟩⟩
  obtain ⟨b, o, e, hc⟩ := h.cell i hi
  exact ⟨b, o, e, hg.cell hc (hne b o e)⟩

theorem conv_bytes (W : World) (g c : Nat) (l : List Nat) (h : RdB W g l) (hl : ∀ x ∈ l, x < 256) :
    (convert 106 9 (.slice (some ⟨g, 0, none⟩) l.length c)).run Tryd.prog W = .ok (.string (strB l)) W := by
  have := run_convert_bytes_back (P := Tryd.prog) W 106 9 5 ⟨g, 0, none⟩ c (l.map UInt8.ofNat) (by kernel_rfl) (by kernel_rfl) (by kernel_rfl) (fun j hj => by
    rw [List.length_map] at hj
    have e := (h j hj).1
    have hx : l.getD j 0 < 256 := by
      rw [List.getD_eq_getElem?_getD, List.getElem?_eq_getElem hj]
      exact hl _ (List.getElem_mem hj)
    have ha : (⟨g, 0, none⟩ : Addr).add j = ⟨g, j, none⟩ := by unfold Addr.add; split <;> simp_all
    rw [ha, e, List.getElem_map]
    rw [List.getD_eq_getElem?_getD, List.getElem?_eq_getElem hj] at hx ⊢
    simp only [Option.getD_some] at hx ⊢
    rw [UInt8.toNat_ofNat', Nat.mod_eq_of_lt hx])
  rwa [List.length_map] at this

theorem val_bits {l : List Nat} (hw : Words l) : val l < 2 ^ (32 * l.length) := by
  have := val_lt hw
  rwa [show (2 : Nat) ^ (32 * l.length) = BB ^ l.length from by rw [Nat.pow_mul]]

set_option maxRecDepth 100000 in
set_option maxHeartbeats 4000000 in
theorem text1_ok (g1 g2 : Nat) (n1 : Bool) (b : Nat) (A1 : Option Addr) (c1 : Nat) (l1 : List Nat) (w : World) (h1 : IntBox w g1 n1 A1 c1 l1) (h2 : Blk w g2 #[.int .i64 (b : Int)] 3) (hdg : DigW w) (k1 : IsInt n1 l1) (hok : okI n1 l1 = true) (hb1 : 2 ≤ b) (hb2 : b ≤ 36) :
    Calls Tryd.prog 81 #[.pointer (some ⟨g1, 0, none⟩), .pointer (some ⟨g2, 0, none⟩)] w fun e w' => e = .returned (.string (strB (textL n1 b (val l1)))) ∧ Below w.heap.size w w' := by
  obtain ⟨i0, hi, hz0, hz1, hz2⟩ := info_parts info_u8
  have hbt := underl_bytes
  have x0 := cell_at h1.blk 0 _ rfl
  have x1 := cell_at h1.blk 1 _ rfl
  have y0 := cell_at h2.h 0 _ rfl
  have t1 := (Array.getElem?_eq_some_iff.1 h1.blk).1
  have t2 := (Array.getElem?_eq_some_iff.1 h2.h).1
  have hb0 : ∀ o, Below w.heap.size w (w.alloc o) := fun o => (Below.refl _ w).alloc (Nat.le_refl _) _
  have hf := formed_one w.heap.size n1 A1 c1 l1 _ (World.alloc_heap_new w (.cells #[.bool n1, .slice A1 l1.length c1] 24)) (h1.rd.on (hb0 _)) h1.cap
  have hch := fun W => chunk_calls b hb1 hb2 W
  obtain ⟨m1, m2, m3, m4⟩ := many_lt b hb1 hb2
  generalize many b = M at *
  obtain ⟨U, hU⟩ : ∃ U, b ^ M = U := ⟨_, rfl⟩
  rw [hU] at hch m1
  have HU := Lib.hid hU
  have hU2 : 2 ≤ U := by
    rw [← hU]
    have := Nat.pow_le_pow_right (show 0 < b by omega) m3
    rw [Nat.pow_one] at this
    omega
  obtain ⟨N, hN⟩ : ∃ N, val l1 = N := ⟨_, rfl⟩
  have hlN := lim_val k1.canon
  rw [hN] at hlN ⊢
  have HlN := Lib.hid hlN
  have hNb : Hid ((digs b N).length ≤ 9600) := Nat.le_trans (digs_length hb1 (32 * l1.length) N (by rw [← hN]; exact val_bits h1.rd.words)) (by have := k1.small; omega)
  have hNs : Hid (∀ x, x ≤ N → (lim x).length ≤ 300) := fun x hx => Nat.le_trans (length_mono hx) (by rw [hlN]; exact k1.small)
  have HN0 : Hid (textL n1 b 0 = [48]) := rfl
  have HN1 : Hid (∀ N, 0 < N → textL n1 b N = (if n1 then [45] else []) ++ ((digs b N).map chr).reverse) := fun N h => if_neg (by omega)
  have dm : decide ((2 : Int) ≤ (b : Int)) = true := decide_eq_true (by omega)
  have dm2 : decide (b ≤ 36) = true := decide_eq_true (by omega)
  have dm3 : decide (2 ≤ b) = true := decide_eq_true (by omega)
  have dm4 : decide ((b : Int) ≤ 36) = true := decide_eq_true (by omega)
  clear hU m2 hN hlN
  go_enter Tryd.func81, Tryd.ntmps81
  go_wp2_with first
    | (go_at_call 55; refine hf.mono ?_; rintro e w' ⟨hp, -, hblf⟩; cases hp hok; have hb3 := (hb0 _).trans (hblf.mono (hb0 _).size); have p0 := cell_at (h1.on hb3).blk 0 _ rfl; have p1 := cell_at (h1.on hb3).blk 1 _ rfl; have p2 := cell_at (h2.on hb3).h 0 _ rfl)
    | (go_at_call 56; refine (must_ok 1 _).mono ?_; rintro e w4 ⟨rfl, rfl⟩)
    | (go_at_call 82; refine (hch _).mono ?_; rintro e w4 ⟨rfl, rfl⟩)
  go_loopw [5, 6] (fun ov xv W => ∃ (ds : List Nat) (x : Nat) (A : Option Addr) (c : Nat), xv = .slice A (lim x).length c ∧ (lim x).length ≤ c ∧ Rd W A (lim x) ∧ Hid (0 < x → Typd w.heap.size W A) ∧ x ≤ N ∧ W.ownsRow w.heap.size 5 1 ov ds.length (bvals ds) ∧ Below w.heap.size w W ∧ Hid (ds ++ (digs b x).map chr = (digs b N).map chr)) (fun _ xv W => slotVal xv W)
  case atStart =>
    refine ⟨[], N, A1, c1, ?_, ?_, ?_, ?_, Nat.le_refl _, World.ownsRow_nil _ _ _ _, hb3, List.nil_append _⟩
    · rw [HlN.out]
    · rw [HlN.out]; exact h1.cap
    · rw [HlN.out]; exact h1.rd.on hb3
    · intro h0 b' o' e
      have hl0 : 0 < l1.length := by rw [← HlN.out]; exact lim_length_pos h0
      obtain ⟨b'', o'', e', hc⟩ := h1.rd.cell 0 hl0
      rw [e] at e'
      cases e'
      exact .inl (World.block_lt_of_cell? w _ hc)
  case round =>
    obtain ⟨ds, x, A, c, rfl, hcap, hrd, hty, hxN, hown, hbl, hds⟩ := hrel
    have hdgr := (hdg.on (hbl.mono (Nat.le_refl _)))
    have q2 := cell_at (h2.on hbl).h 0 _ rfl
    by_cases hx : 0 < x
    · have hxl : 0 < (lim x).length := lim_length_pos hx
      have hsm := small_typed A c U (lim x) wr hrd hcap (by omega) m1 (by have := hNs.out x hxN; omega)
      rw [val_lim] at hsm
      obtain ⟨q, hq⟩ : ∃ q, x / U = q := ⟨_, rfl⟩
      obtain ⟨r, hr⟩ : ∃ r, x % U = r := ⟨_, rfl⟩
      have hxe : q * U + r = x := by rw [← hq, ← hr, Nat.mul_comm]; exact Nat.div_add_mod x U
      have hru : r < U := by rw [← hr]; exact Nat.mod_lt _ (by omega)
      have hqx : q < x := by rw [← hq]; exact Nat.div_lt_self hx hU2
      rw [hq, hr] at hsm
      have Hxe := Lib.hid hxe
      have Hqx := Lib.hid hqx
      have Hru := Lib.hid hru
      have hob := own_base8 hown
      have Hvx := Lib.hid (slotVal_eq hrd (d := c))
      clear hq hr hxe hqx
      go_wp2_with (go_at_call 83; refine hsm.mono ?_; rintro e w5 ⟨Aq, cq, rfl, nq, rq, tq, b5⟩; have hbl5 := hbl.trans (b5.mono hbl.size); have hown5 := own_on hown b5; have q5 := cell_at (h2.on hbl5).h 0 _ rfl)
      go_loopw [5, 8, 9] (fun ov rv kv W => ∃ (ds' : List Nat) (r' k : Nat), rv = .int .u32 (r' : Int) ∧ kv = .int .i64 (k : Int) ∧ k ≤ M ∧ Hid (r' < b ^ (M - k)) ∧ r' < 4294967296 ∧ Rd W Aq (lim q) ∧ Typd w.heap.size W Aq ∧ W.ownsRow w.heap.size 5 1 ov ds'.length (bvals ds') ∧ Below w.heap.size w W ∧ Hid (ds' ++ (digs b (q * b ^ (M - k) + r')).map chr = (digs b N).map chr)) (fun _ _ kv _ => M - (intOf kv).toNat)
      case atStart =>
        refine ⟨ds, r, 0, rfl, rfl, Nat.zero_le _, ?_, by have := Hru.out; omega, rq, tq.lower, hown5, hbl5, ?_⟩
        · show r < b ^ (M - 0)
          rw [Nat.sub_zero, HU.out]; exact Hru.out
        · show ds ++ (digs b (q * b ^ (M - 0) + r)).map chr = _
          rw [Nat.sub_zero, HU.out, Hxe.out]; exact hds.out
      case round =>
        obtain ⟨ds', r', k, rfl, rfl, hkM, hrm, hr32, hrq, htq, howi, hbi, hdd⟩ := hrel
        rcases (show (k < M ∧ 0 < r') ∨ (k < M ∧ r' = 0 ∧ 0 < q) ∨ (k < M ∧ r' = 0 ∧ q = 0) ∨ k = M by omega) with ⟨g1', g2'⟩ | ⟨g1', g2', g3'⟩ | ⟨g1', g2', rfl⟩ | rfl
        · have hkI : (k : Int) < (M : Int) := by omega
          have hda : r' % b < 36 := Nat.lt_of_lt_of_le (Nat.mod_lt _ (by omega)) hb2
          have hone := digs_one (b := b) (j := M - k - 1) (q := q) (r := r') hb1 (.inr g2')
          have hlt := hrm.out
          rw [show M - k = M - k - 1 + 1 by omega] at hlt
          have hlt2 : r' / b < b ^ (M - k - 1) := by
            rw [Nat.div_lt_iff_lt_mul (by omega), ← Nat.pow_succ]; exact hlt
          have hds2 := hdd.out
          rw [show M - k = M - k - 1 + 1 by omega, hone, List.map_cons] at hds2
          have hcell := (hdg.on hbi) (r' % b) hda
          obtain ⟨d, e1, e1'⟩ : ∃ d : Nat, (r' : Int) % (b : Int) = (d : Int) ∧ r' % b = d := ⟨r' % b, by simp, rfl⟩
          obtain ⟨r2, e2, e2'⟩ : ∃ r2 : Nat, (r' : Int) / (b : Int) = (r2 : Int) ∧ r' / b = r2 := ⟨r' / b, by simp, rfl⟩
          rw [e1'] at hcell hds2 hda
          rw [e2'] at hds2 hlt2
          have hr2 : r2 < 4294967296 := by rw [← e2']; exact Nat.lt_of_le_of_lt (Nat.div_le_self _ _) hr32
          obtain ⟨z, hz⟩ : ∃ z, chr d = z := ⟨_, rfl⟩
          rw [hz] at hcell hds2
          have hz256 : z < 256 := by have := chr_lt hda; omega
          have Hds2 := Lib.hid (show (ds' ++ [z]) ++ (digs b (q * b ^ (M - k - 1) + r2)).map chr = (digs b N).map chr by rw [List.append_assoc]; exact hds2)
          have Hlt2 := Lib.hid hlt2
          have hdl : ds'.length < 10000 := by
            have := congrArg List.length hds2
            rw [List.length_append, List.length_map] at this
            have h2 := hNb.out
            omega
          have hob2 := own_base8 howi
          have q9 := cell_at (h2.on hbi).h 0 _ rfl
          have hgrow := fun W' (hg : wr.grownBy W' _) => rd_grown hrq htq howi hg
          clear hone hlt hlt2 hds2 hz e1' e2' g1'
          go_wp2_with first
            | (at_builtin; (refine wpList_append_own2 _ rfl _ _ 106 106 rfl w.heap.size 5 5 i0 (.int .u8 0) 1 1 hbt hbt hi hz0 hz1 hz2 rfl (by decide) _ _ _ rfl (howi.alloc _) ⟨wr.heap.size, 0, none⟩ 1 1 [.int .u8 (z : Int)] rfl rfl (cell_one_new _ _ _) (by simp [Value.oneCell']) (by unfold maxLen; omega) (by omega) (by have := hbi.size; simp; omega) ?_); intro v' w6 hown' hg6 _; have hb6 := (hbi.alloc hbi.size _).grown hg6 (by have := hbi.size; simp; omega) (fun j e => hob2 j e); have q6 := cell_at (h2.on hb6).h 0 _ rfl; have hal := (Below.refl wr.heap.size wr).alloc (Nat.le_refl _) (.cells #[.int .u8 (z : Int)] 5); obtain ⟨r6, t6⟩ := rd_grown (hrq.on hal) (typd_on htq hal) (howi.alloc _) hg6)
          refine ⟨⟨ds' ++ [z], r2, k + 1, rfl, by simp, by omega, ?_, hr2, r6, t6, ?_, hb6, ?_⟩, by simp only [intOf]; omega⟩
          · rw [show M - (k + 1) = M - k - 1 by omega]; exact Hlt2
          · rw [bvals_append, List.length_append]; exact hown'
          · rw [show M - (k + 1) = M - k - 1 by omega]; exact Hds2
        · have hkI : (k : Int) < (M : Int) := by omega
          have hql : 0 < (lim q).length := lim_length_pos g3'
          have hnr : ¬ 0 < r' := by omega
          have hnI : ¬ (0 : Int) < (r' : Int) := by omega
          clear g2'
          have hda : r' % b < 36 := Nat.lt_of_lt_of_le (Nat.mod_lt _ (by omega)) hb2
          have hone := digs_one (b := b) (j := M - k - 1) (q := q) (r := r') hb1 (.inl g3')
          have hlt := hrm.out
          rw [show M - k = M - k - 1 + 1 by omega] at hlt
          have hlt2 : r' / b < b ^ (M - k - 1) := by
            rw [Nat.div_lt_iff_lt_mul (by omega), ← Nat.pow_succ]; exact hlt
          have hds2 := hdd.out
          rw [show M - k = M - k - 1 + 1 by omega, hone, List.map_cons] at hds2
          have hcell := (hdg.on hbi) (r' % b) hda
          obtain ⟨d, e1, e1'⟩ : ∃ d : Nat, (r' : Int) % (b : Int) = (d : Int) ∧ r' % b = d := ⟨r' % b, by simp, rfl⟩
          obtain ⟨r2, e2, e2'⟩ : ∃ r2 : Nat, (r' : Int) / (b : Int) = (r2 : Int) ∧ r' / b = r2 := ⟨r' / b, by simp, rfl⟩
          rw [e1'] at hcell hds2 hda
          rw [e2'] at hds2 hlt2
          have hr2 : r2 < 4294967296 := by rw [← e2']; exact Nat.lt_of_le_of_lt (Nat.div_le_self _ _) hr32
          obtain ⟨z, hz⟩ : ∃ z, chr d = z := ⟨_, rfl⟩
          rw [hz] at hcell hds2
          have hz256 : z < 256 := by have := chr_lt hda; omega
          have Hds2 := Lib.hid (show (ds' ++ [z]) ++ (digs b (q * b ^ (M - k - 1) + r2)).map chr = (digs b N).map chr by rw [List.append_assoc]; exact hds2)
          have Hlt2 := Lib.hid hlt2
          have hdl : ds'.length < 10000 := by
            have := congrArg List.length hds2
            rw [List.length_append, List.length_map] at this
            have h2 := hNb.out
            omega
          have hob2 := own_base8 howi
          have q9 := cell_at (h2.on hbi).h 0 _ rfl
          have hgrow := fun W' (hg : wr.grownBy W' _) => rd_grown hrq htq howi hg
          clear hone hlt hlt2 hds2 hz e1' e2' g1'
          go_wp2_with first
            | (at_builtin; (refine wpList_append_own2 _ rfl _ _ 106 106 rfl w.heap.size 5 5 i0 (.int .u8 0) 1 1 hbt hbt hi hz0 hz1 hz2 rfl (by decide) _ _ _ rfl (howi.alloc _) ⟨wr.heap.size, 0, none⟩ 1 1 [.int .u8 (z : Int)] rfl rfl (cell_one_new _ _ _) (by simp [Value.oneCell']) (by unfold maxLen; omega) (by omega) (by have := hbi.size; simp; omega) ?_); intro v' w6 hown' hg6 _; have hb6 := (hbi.alloc hbi.size _).grown hg6 (by have := hbi.size; simp; omega) (fun j e => hob2 j e); have q6 := cell_at (h2.on hb6).h 0 _ rfl; have hal := (Below.refl wr.heap.size wr).alloc (Nat.le_refl _) (.cells #[.int .u8 (z : Int)] 5); obtain ⟨r6, t6⟩ := rd_grown (hrq.on hal) (typd_on htq hal) (howi.alloc _) hg6)
          refine ⟨⟨ds' ++ [z], r2, k + 1, rfl, by simp, by omega, ?_, hr2, r6, t6, ?_, hb6, ?_⟩, by simp only [intOf]; omega⟩
          · rw [show M - (k + 1) = M - k - 1 by omega]; exact Hlt2
          · rw [bvals_append, List.length_append]; exact hown'
          · rw [show M - (k + 1) = M - k - 1 by omega]; exact Hds2
        · have hkI : (k : Int) < (M : Int) := by omega
          have hE := hdd.out
          rw [Nat.zero_mul, Nat.zero_add, g2', digs_zero] at hE
          have HE := Lib.hid (show ds' ++ (digs b 0).map chr = (digs b N).map chr by rw [digs_zero]; exact hE)
          have hnr : ¬ 0 < r' := by omega
          have hnI : ¬ (0 : Int) < (r' : Int) := by omega
          have hz0' : ¬ 0 < (lim 0).length := by rw [lim_zero]; exact Nat.lt_irrefl _
          have hzI' : ¬ (0 : Int) < ((lim 0).length : Int) := by omega
          have Hn := Lib.hid (slotVal_eq hrq (d := cq))
          obtain ⟨L0, hL0⟩ : ∃ L, (lim 0).length = L := ⟨_, rfl⟩
          rw [hL0] at Hn nq hz0' hzI' ⊢
          have HL0 := Lib.hid hL0
          clear hE g1' g2' hL0
          go_wp2_with fail
          refine ⟨⟨ds', 0, Aq, cq, ?_, ?_, hrq, fun _ => htq, Nat.zero_le _, howi, hbi, HE⟩, ?_⟩
          · rw [HL0.out]
          · rw [HL0.out]; exact nq
          · rw [Hvx.out, Hn.out, val_lim, val_lim]; exact hx
        · have hE := hdd.out
          have hr0 : r' = 0 := by have := hrm.out; rw [Nat.sub_self, Nat.pow_zero] at this; omega
          rw [Nat.sub_self, Nat.pow_zero, Nat.mul_one, hr0, Nat.add_zero] at hE
          have HE := Lib.hid hE
          have Hn := Lib.hid (slotVal_eq hrq (d := cq))
          clear hE hr0
          go_wp2_with fail
          refine ⟨⟨ds', q, Aq, cq, rfl, nq, hrq, fun _ => htq, by have := Hqx.out; omega, howi, hbi, HE⟩, ?_⟩
          rw [Hvx.out, Hn.out, val_lim, val_lim]
          exact Hqx.out
    · obtain rfl : x = 0 := by omega
      have hz0' : ¬ 0 < (lim 0).length := by rw [lim_zero]; exact Nat.lt_irrefl _
      have hzI' : ¬ (0 : Int) < ((lim 0).length : Int) := by omega
      obtain ⟨L0, hL0⟩ : ∃ L, (lim 0).length = L := ⟨_, rfl⟩
      rw [hL0] at hcap hz0' hzI' ⊢
      have hE := hds.out
      rw [digs_zero, List.map_nil, List.append_nil] at hE
      have HE := Lib.hid hE
      have hdl : ds.length < 10000 := by
        rw [hE, List.length_map]
        have h2 := hNb.out
        omega
      have p9 := cell_at (h1.on hbl).blk 0 _ rfl
      have hob := own_base8 hown
      by_cases hd0 : ds.length = 0
      · obtain ⟨Ao, co, rfl⟩ := own_slice hown
        have hN0 : N = 0 := by
          rcases Nat.eq_zero_or_pos N with h | h
          · exact h
          · rw [hE, List.length_map, digs_pos hb1 h] at hd0
            cases hd0
        have HN0' := Lib.hid hN0
        rw [hd0]
        clear hE hN0 hd0 hL0
        go_wp2_with fail
        go_ret
        exact ⟨by rw [HN0'.out, HN0.out]; rfl, hbl⟩
      · have hN0 : 0 < N := by
          rcases Nat.eq_zero_or_pos N with h | h
          · rw [hE, h, digs_zero] at hd0; exact absurd rfl hd0
          · exact h
        have htx := HN1.out N hN0
        rw [← hE] at htx
        have hlt36 : ∀ y ∈ ds, y < 256 := by
          intro y hy
          rw [hE, List.mem_map] at hy
          obtain ⟨d, hd, rfl⟩ := hy
          have := chr_lt (Nat.lt_of_lt_of_le (digs_lt hb1 N d hd) hb2)
          omega
        cases n1
        · have hE2 := Lib.hid (show textL false b N = ds.reverse by rw [htx]; rfl)
          obtain ⟨g, co, rfl, -, -, hbg, hgl, hRB⟩ := own_bytes hown (by omega)
          have hrev := rev_calls g co w.heap.size ds wr hRB hbg (by omega)
          have hcv := fun W (h : RdB W g ds.reverse) => by
            have := conv_bytes W g co ds.reverse h (fun y hy => hlt36 y (List.mem_reverse.1 hy))
            rwa [List.length_reverse] at this
          have hdI : ¬ (ds.length : Int) = 0 := by omega
          clear hE hN0 hd0 hL0 htx hlt36
          go_wp2_with first
            | (go_at_call 84; refine hrev.mono ?_; rintro e w7 ⟨rfl, hR7, hb7⟩; have hcv7 := hcv w7 hR7)
          go_ret
          exact ⟨by rw [hE2.out]; rfl, hbl.trans hb7⟩
        · have hE2 := Lib.hid (show textL true b N = (ds ++ [45]).reverse by rw [htx, List.reverse_append]; rfl)
          have hdI : ¬ (ds.length : Int) = 0 := by omega
          obtain ⟨Ao, co, rfl⟩ := own_slice hown
          have hlt36' : Hid (∀ y ∈ ds ++ [45], y < 256) := by
            intro y hy
            rcases List.mem_append.1 hy with h | h
            · exact hlt36 y h
            · simp at h; omega
          obtain ⟨es, hes⟩ : ∃ es, ds ++ [45] = es := ⟨_, rfl⟩
          have hel : Hid (es.length = ds.length + 1) := by show _ = _; rw [← hes, List.length_append]; rfl
          have hev : Hid (bvals es = bvals ds ++ [.int .u8 45]) := by show _ = _; rw [← hes, bvals_append]; rfl
          rw [hes] at hE2 hlt36'
          clear hE hN0 hd0 hL0 htx hlt36 hes
          go_wp2_with first
            | (at_builtin; (refine wpList_append_own2 _ rfl _ _ 106 106 rfl w.heap.size 5 5 i0 (.int .u8 0) 1 1 hbt hbt hi hz0 hz1 hz2 rfl (by decide) _ _ _ rfl (hown.alloc _) ⟨wr.heap.size, 0, none⟩ 1 1 [.int .u8 45] rfl rfl (cell_one_new _ _ _) (by simp [Value.oneCell']) (by unfold maxLen; omega) (by omega) (by have := hbl.size; simp; omega) ?_); intro v' w6 hown' hg6 _; have hb6 := (hbl.alloc hbl.size _).grown hg6 (by have := hbl.size; simp; omega) (fun j e => hob j e); rw [← hel.out, ← hev.out] at hown'; obtain ⟨g, co', rfl, -, -, hbg, hgl, hRB⟩ := own_bytes hown' (by rw [hel.out]; exact Nat.succ_pos _); have hsm' : es.length ≤ 1048576 := (by rw [hel.out]; omega))
            | (go_at_call 84; refine (rev_calls g co' w.heap.size es w6 hRB hbg hsm').mono ?_; rintro e w7 ⟨rfl, hR7, hb7⟩; have hcv7 := conv_bytes w7 g co' es.reverse hR7 (fun y hy => hlt36'.out y (List.mem_reverse.1 hy)); rw [List.length_reverse] at hcv7)
          go_ret
          exact ⟨by rw [hE2.out]; rfl, hb6.trans hb7⟩

end Nm
end Go.Proofs.YtlhmbbpkhahbeaaDoor
namespace Go.Proofs.YtlhmbbpkhahbeaaDoor
namespace Nm
open Go.RowKit Go.Shelf Go.BigFrame
attribute [local go_sem] Oper.semAt_some

def PostS (s : ByteArray) (er : Int) (w : World) (e : Ending) (w' : World) : Prop :=
  (er = 0 → e = .returned (.string s) ∧ Below w.heap.size w w') ∧ (er ≠ 0 → e = .panicked (wrong er) ∧ s = ⟨#[]⟩ ∧ Below w.heap.size w w')

def RetSE (s : ByteArray) (er : Int) (w : World) (e : Ending) (w' : World) : Prop :=
  e = .returned (.tuple #[.string s, .int .i64 er]) ∧ Below w.heap.size w w'

theorem try_str (G : Nat) (caps : Array Value) (hG : ∀ (args : Array Value) (w : World), (callFunc G args).run Tryd.prog w = .ok (.enter G args) w) (w : World) (s : ByteArray) (er : Int)
    (h : Calls Tryd.prog G caps ((w.alloc (.cells #[.string ⟨#[]⟩] 9)).alloc (.cells #[.int .i64 0] 28)) (PostS s er ((w.alloc (.cells #[.string ⟨#[]⟩] 9)).alloc (.cells #[.int .i64 0] 28)))) (hz : er ≠ 0 → s = ⟨#[]⟩) :
    Calls Tryd.prog 80 #[.func (.func G) #[] caps] w (RetSE s er w) := by
  by_cases h0 : er = 0
  · subst h0
    refine (try_str_ok G caps hG w _ rfl (fun x w1 => x = s) (h.mono ?_)).mono ?_
    · rintro e w' ⟨h1, -⟩
      exact ⟨s, (h1 rfl).1, rfl, (h1 rfl).2⟩
    · rintro e w' ⟨x, w1, rfl, h5, h6, rfl⟩
      exact ⟨rfl, h5⟩
  · obtain rfl := hz h0
    refine (try_str_wrong G caps hG w _ rfl er (h.mono ?_)).mono ?_
    · rintro e w' ⟨-, h1⟩
      obtain ⟨h2, -, h3⟩ := h1 h0
      exact ⟨h2, h3⟩
    · rintro e w' ⟨h1, rfl⟩
      exact ⟨rfl, h1⟩

set_option maxRecDepth 100000 in
set_option maxHeartbeats 4000000 in
theorem text1_bad (g1 g2 : Nat) (n1 : Bool) (n : Int) (A1 : Option Addr) (c1 : Nat) (l1 : List Nat) (w : World) (h1 : IntBox w g1 n1 A1 c1 l1) (h2 : Blk w g2 #[.int .i64 n] 3) (hbad : okI n1 l1 = false) :
    Calls Tryd.prog 81 #[.pointer (some ⟨g1, 0, none⟩), .pointer (some ⟨g2, 0, none⟩)] w fun e w' => e = .panicked (wrong 1) ∧ Below w.heap.size w w' := by
  have x0 := cell_at h1.blk 0 _ rfl
  have x1 := cell_at h1.blk 1 _ rfl
  have y0 := cell_at h2.h 0 _ rfl
  have hb0 : ∀ o, Below w.heap.size w (w.alloc o) := fun o => (Below.refl _ w).alloc (Nat.le_refl _) _
  have hf := formed_one w.heap.size n1 A1 c1 l1 _ (World.alloc_heap_new w (.cells #[.bool n1, .slice A1 l1.length c1] 24)) (h1.rd.on (hb0 _)) h1.cap
  go_enter Tryd.func81, Tryd.ntmps81
  go_wp2_with (go_at_call 55; refine hf.mono ?_; rintro e w' ⟨-, hp, hbl⟩; cases hp hbad)
  exact ⟨rfl, rfl, (hb0 _).trans (hbl.mono (hb0 _).size)⟩

set_option maxRecDepth 100000 in
set_option maxHeartbeats 4000000 in
theorem text1_range (g1 g2 : Nat) (n1 : Bool) (n : Int) (A1 : Option Addr) (c1 : Nat) (l1 : List Nat) (w : World) (h1 : IntBox w g1 n1 A1 c1 l1) (h2 : Blk w g2 #[.int .i64 n] 3) (hok : okI n1 l1 = true) (h0 : ¬ (2 ≤ n ∧ n ≤ 36)) :
    Calls Tryd.prog 81 #[.pointer (some ⟨g1, 0, none⟩), .pointer (some ⟨g2, 0, none⟩)] w fun e w' => e = .panicked (wrong 1) ∧ Below w.heap.size w w' := by
  have x0 := cell_at h1.blk 0 _ rfl
  have x1 := cell_at h1.blk 1 _ rfl
  have y0 := cell_at h2.h 0 _ rfl
  have hb0 : ∀ o, Below w.heap.size w (w.alloc o) := fun o => (Below.refl _ w).alloc (Nat.le_refl _) _
  have hf := formed_one w.heap.size n1 A1 c1 l1 _ (World.alloc_heap_new w (.cells #[.bool n1, .slice A1 l1.length c1] 24)) (h1.rd.on (hb0 _)) h1.cap
  by_cases hn : 2 ≤ n
  · have hn2 : decide (n ≤ 36) = false := decide_eq_false fun h => h0 ⟨hn, h⟩
    clear h0
    go_enter Tryd.func81, Tryd.ntmps81
    go_wp2_with first
      | (go_at_call 55; refine hf.mono ?_; rintro e w' ⟨hp, -, hbl⟩; cases hp hok; have hb3 := (hb0 _).trans (hbl.mono (hb0 _).size); have p0 := cell_at (h1.on hb3).blk 0 _ rfl; have p1 := cell_at (h1.on hb3).blk 1 _ rfl; have p2 := cell_at (h2.on hb3).h 0 _ rfl)
      | (go_at_call 56; refine (must_no 1 _).mono ?_; rintro e w5 ⟨rfl, rfl⟩)
    exact ⟨rfl, rfl, hb3⟩
  · clear h0
    go_enter Tryd.func81, Tryd.ntmps81
    go_wp2_with first
      | (go_at_call 55; refine hf.mono ?_; rintro e w' ⟨hp, -, hbl⟩; cases hp hok; have hb3 := (hb0 _).trans (hbl.mono (hb0 _).size); have p0 := cell_at (h1.on hb3).blk 0 _ rfl; have p1 := cell_at (h1.on hb3).blk 1 _ rfl; have p2 := cell_at (h2.on hb3).h 0 _ rfl)
      | (go_at_call 56; refine (must_no 1 _).mono ?_; rintro e w5 ⟨rfl, rfl⟩)
    exact ⟨rfl, rfl, hb3⟩

theorem textR_zero (n1 : Bool) (l1 : List Nat) (n : Int) : (textR n1 l1 n).2 ≠ 0 → strB (textR n1 l1 n).1 = ⟨#[]⟩ := by
  unfold textR
  split
  · intro h; exact absurd rfl h
  · intro _; rfl

theorem text1_calls (g1 g2 : Nat) (n1 : Bool) (n : Int) (A1 : Option Addr) (c1 : Nat) (l1 : List Nat) (w : World) (h1 : IntBox w g1 n1 A1 c1 l1) (h2 : Blk w g2 #[.int .i64 n] 3) (hd : DigW w) :
    Calls Tryd.prog 81 #[.pointer (some ⟨g1, 0, none⟩), .pointer (some ⟨g2, 0, none⟩)] w (PostS (strB (textR n1 l1 n).1) (textR n1 l1 n).2 w) := by
  unfold textR
  by_cases hok : okI n1 l1 = true
  · by_cases hn : 2 ≤ n ∧ n ≤ 36
    · have hc : (okI n1 l1 && (decide (2 ≤ n) && decide (n ≤ 36))) = true := by rw [hok, decide_eq_true hn.1, decide_eq_true hn.2]; rfl
      rw [if_pos hc]
      obtain ⟨m, rfl⟩ : ∃ m : Nat, n = (m : Int) := ⟨n.toNat, by omega⟩
      rw [Int.toNat_natCast]
      exact (text1_ok g1 g2 n1 m A1 c1 l1 w h1 h2 hd (okI_isInt h1.rd.words hok) hok (by omega) (by omega)).mono fun e w' h => ⟨fun _ => h, fun h => absurd rfl h⟩
    · have hc : ¬ (okI n1 l1 && (decide (2 ≤ n) && decide (n ≤ 36))) = true := by
        intro h
        rw [Bool.and_eq_true, Bool.and_eq_true, decide_eq_true_eq, decide_eq_true_eq] at h
        exact hn h.2
      rw [if_neg hc]
      exact (text1_range g1 g2 n1 n A1 c1 l1 w h1 h2 hok hn).mono fun e w' h => ⟨fun h => absurd h (by decide), fun _ => ⟨h.1, rfl, h.2⟩⟩
  · have hc : ¬ (okI n1 l1 && (decide (2 ≤ n) && decide (n ≤ 36))) = true := by
      intro h
      rw [Bool.and_eq_true] at h
      exact hok h.1
    rw [if_neg hc]
    exact (text1_bad g1 g2 n1 n A1 c1 l1 w h1 h2 (by simpa using hok)).mono fun e w' h => ⟨fun h => absurd h (by decide), fun _ => ⟨h.1, rfl, h.2⟩⟩

set_option maxRecDepth 100000 in
set_option maxHeartbeats 4000000 in
theorem Text_calls (n1 : Bool) (n : Int) (A1 : Option Addr) (c1 : Nat) (l1 : List Nat) (w : World) (h1 : Rd w A1 l1) (hc1 : l1.length ≤ c1) (hd : DigW w) :
    Calls Tryd.prog 31 #[iv n1 A1 l1.length c1, .int .i64 n] w (RetSE (strB (textR n1 l1 n).1) (textR n1 l1 n).2 w) := by
  have hmf : ∀ (fn : Fn) (first cap : Array Value) (w : World), (Instr.makeFunc fn first cap).run Tryd.prog w = .ok (.func fn first cap) w := fun _ _ _ _ => rfl
  obtain ⟨W2, hW2⟩ : ∃ W2, (w.alloc (.cells #[.bool n1, .slice A1 l1.length c1] 24)).alloc (.cells #[.int .i64 n] 3) = W2 := ⟨_, rfl⟩
  have hb2 : Below w.heap.size w W2 := by rw [← hW2]; exact ((Below.refl _ w).alloc (Nat.le_refl _) _).alloc (by simp) _
  have B1 : IntBox W2 w.heap.size n1 A1 c1 l1 := ⟨by rw [← hW2]; exact (two_old w _ _ rfl).h, h1.on hb2, hc1⟩
  have B2 : Blk W2 (w.heap.size + 1) #[.int .i64 n] 3 := ⟨by rw [← hW2]; exact two_blk w _ _⟩
  have hB4 : ∀ o o', Below W2.heap.size W2 ((W2.alloc o).alloc o') := fun o o' => ((Below.refl _ W2).alloc (Nat.le_refl _) _).alloc (by simp) _
  have ht := try_str 81 #[.pointer (some ⟨w.heap.size, 0, none⟩), .pointer (some ⟨w.heap.size + 1, 0, none⟩)] (enters_of Tryd.func81 (by kernel_rfl) rfl) W2 _ _ (text1_calls _ _ n1 n A1 c1 l1 _ (B1.on (hB4 _ _)) (B2.on (hB4 _ _)) ((hd.on hb2).on (hB4 _ _))) (textR_zero n1 l1 n)
  generalize strB (textR n1 l1 n).1 = z at *
  generalize (textR n1 l1 n).2 = er at *
  go_enter Tryd.func31, Tryd.ntmps31
  go_wp2_with (go_at_call 80; refine ht.mono ?_; rintro e w' ⟨rfl, hb⟩)
  go_ret2
  exact ⟨rfl, hb2.trans (hb.mono hb2.size)⟩

end Nm
end Go.Proofs.YtlhmbbpkhahbeaaDoor
namespace Go.Proofs.YtlhmbbpkhahbeaaDoor
namespace Nm
open Go.RowKit Go.Shelf Go.BigFrame
attribute [local go_sem] Oper.semAt_some

/-- all but what the block g holds is as it was -/
structure But (g : Nat) (w w' : World) : Prop where
  low : Below g w w'
  high : ∀ k, g < k → k < w.heap.size → w'.heap[k]? = w.heap[k]?
theorem But.refl (g : Nat) (w : World) : But g w w := ⟨Below.refl _ _, fun _ _ _ => rfl⟩
theorem But.on {g : Nat} {w W W' : World} (h : But g w W) (hg : g < w.heap.size) (hb : Below W.heap.size W W') : But g w W' :=
  ⟨h.low.trans (hb.mono (by have := h.low.size; omega)), fun k h1 h2 => (hb.block k (by have := h.low.size; omega)).trans (h.high k h1 h2)⟩
theorem But.set {g : Nat} {w W : World} (h : But g w W) (i : Nat) (v : Value) : But g w (W.setCell ⟨g, i, none⟩ v) :=
  ⟨h.low.setCell (Nat.le_refl _) _, fun k h1 h2 => (Below.heap_setCell _ _ _ _ (by dsimp only; omega)).trans (h.high k h1 h2)⟩
theorem But.setNew {g : Nat} {w W : World} (h : But g w W) (hg : g < w.heap.size) {p : Addr} (hp : w.heap.size ≤ p.block) (v : Value) : But g w (W.setCell p v) :=
  ⟨h.low.setCell (by omega) _, fun k h1 h2 => (Below.heap_setCell _ _ _ _ (by omega)).trans (h.high k h1 h2)⟩
theorem But.size {g : Nat} {w W : World} (h : But g w W) : w.heap.size ≤ W.heap.size := h.low.size
theorem But.blk {g k : Nat} {w W : World} {cur : Array Value} {t : TypeId} (h : But g w W) (hk : k ≠ g) (hb : Blk w k cur t) : Blk W k cur t := by
  have hlt := (Array.getElem?_eq_some_iff.1 hb.h).1
  refine ⟨Eq.trans ?_ hb.h⟩
  rcases Nat.lt_or_gt_of_ne hk with h1 | h1
  · exact h.low.block k h1
  · exact h.high k h1 hlt

theorem But.trans {g : Nat} {a b c : World} (h : But g a b) (k : But g b c) : But g a c :=
  ⟨h.low.trans k.low, fun i h1 h2 => (k.high i h1 (Nat.lt_of_lt_of_le h2 h.low.size)).trans (h.high i h1 h2)⟩
theorem But.onLow {g : Nat} {w W W' : World} (h : But g w W) (hg : g < w.heap.size) (hb : Below w.heap.size W W') : But g w W' :=
  ⟨h.low.trans (hb.mono (by omega)), fun k h1 h2 => (hb.block k h2).trans (h.high k h1 h2)⟩

set_option maxRecDepth 100000 in
set_option maxHeartbeats 2000000 in
/-- 'try' over a closure that hands back an Int -/
theorem try_low_ok (m : Nat) (G : Nat) (caps : Array Value) (hG : ∀ (args : Array Value) (w : World), (callFunc G args).run Tryd.prog w = .ok (.enter G args) w) (w : World) (hm : m < w.heap.size) (W2 : World)
    (hW2 : (w.alloc (.cells #[.bool false, .slice none 0 0] 24)).alloc (.cells #[.int .i64 0] 28) = W2) (R : Bool → Option Addr → Nat → Nat → World → Prop)
    (h : Calls Tryd.prog G caps W2 fun e w' => ∃ s A n c, e = .returned (.agg #[.bool s, .slice A n c]) ∧ R s A n c w' ∧ But m W2 w') :
    Calls Tryd.prog 63 #[.func (.func G) #[] caps] w fun e w' =>
      ∃ s A n c w1, R s A n c w1 ∧ But m w w' ∧ (∀ A l, Rd w1 A l → Rd w' A l) ∧ e = .returned (.tuple #[.agg #[.bool s, .slice A n c], .int .i64 0]) := by
  have hmf : ∀ (fn : Fn) (first cap : Array Value) (w : World), (Instr.makeFunc fn first cap).run Tryd.prog w = .ok (.func fn first cap) w := fun _ _ _ _ => rfl
  have hz1 : W2.heap[w.heap.size]? = some (.cells #[.bool false, .slice none 0 0] 24 (0, 0)) := by rw [← hW2]; exact (Below.heap_alloc _ _ _ (by simp)).trans (World.alloc_heap_new w _)
  have hz2 : W2.heap[w.heap.size + 1]? = some (.cells #[.int .i64 0] 28 (0, 0)) := by rw [← hW2]; have := World.alloc_heap_new (w.alloc (.cells #[.bool false, .slice none 0 0] 24)) (.cells #[.int .i64 0] 28); rwa [World.size_alloc] at this
  have hsz : W2.heap.size = w.heap.size + 2 := by rw [← hW2]; simp
  have hb2 : Below w.heap.size w W2 := by rw [← hW2]; exact ((Below.refl _ w).alloc (Nat.le_refl _) _).alloc (by simp) _
  have Hsz := Lib.hid hsz
  clear hsz
  go_enter_defers Tryd.func63, Tryd.ntmps63
  go_wp2_with first
    | (refine h.mono ?_; rintro e w' ⟨s, A, n, c, rfl, hR, hbl⟩; have hy1 := (hbl.high w.heap.size hm (by have := Hsz.out; omega)).trans hz1; have hy2 := (hbl.high (w.heap.size + 1) (by omega) (by have := Hsz.out; omega)).trans hz2; have x0 := cell_at hy1 0 _ rfl; have x1 := cell_at hy1 1 _ rfl; have x2 := cell_at hy2 0 _ rfl; have y0 := frozen_at hy1 0; have y1 := frozen_at hy1 1; have y2 := frozen_at hy2 0)
  obtain ⟨X, hX⟩ : ∃ X, (((w'.setCell ⟨w.heap.size, 0, none⟩ (.bool s)).setCell ⟨w.heap.size, 1, none⟩ (.slice A n c)).setCell ⟨w.heap.size + 1, 0, none⟩ (.int .i64 0)) = X := ⟨_, rfl⟩
  have hx1 : X.heap[w.heap.size]? = some (.cells #[.bool s, .slice A n c] 24 (0, 0)) := by rw [← hX]; exact (Below.heap_setCell _ _ _ _ (by simp)).trans (set_blk (set_blk hy1 0 _) 1 _)
  have hx2 : X.heap[w.heap.size + 1]? = some (.cells #[.int .i64 0] 28 (0, 0)) := by rw [← hX]; exact set_blk ((Below.heap_setCell _ _ _ _ (by simp)).trans ((Below.heap_setCell _ _ _ _ (by simp)).trans hy2)) 0 _
  have hbX : But m w X := by rw [← hX]; exact (((((But.refl m w).on hm hb2).trans hbl).setNew hm (Nat.le_refl _) _).setNew hm (Nat.le_refl _) _).setNew hm (by simp) _
  have hRd : ∀ A l, Rd w' A l → Rd X A l := by
    intro A l hA
    rw [← hX]
    rcases Nat.eq_zero_or_pos l.length with h0 | h0
    · obtain rfl : l = [] := List.length_eq_zero_iff.1 h0
      exact Rd.nil _ _
    · obtain ⟨b, o, rfl⟩ := hA.head h0
      obtain ⟨b', o', e, hc⟩ := hA.cell 0 h0
      cases e
      have e1 : b ≠ w.heap.size := by
        rintro rfl
        simp only [World.cell?, hy1, Option.isSome_none, Bool.false_eq_true, if_false] at hc
        rcases Nat.lt_or_ge (o + 0) 2 with h | h
        · rcases (show o + 0 = 0 ∨ o + 0 = 1 by omega) with h | h <;> rw [h] at hc <;> simp at hc
        · rw [Array.getElem?_eq_none (by simpa using h)] at hc; cases hc
      have e2 : b ≠ w.heap.size + 1 := by
        rintro rfl
        simp only [World.cell?, hy2, Option.isSome_none, Bool.false_eq_true, if_false] at hc
        rcases Nat.lt_or_ge (o + 0) 1 with h | h
        · rw [show o + 0 = 0 by omega] at hc; simp at hc
        · rw [Array.getElem?_eq_none (by simpa using h)] at hc; cases hc
      exact grw_rd (grownBy_setCell_at _ _ _ _) (grw_rd (grownBy_setCell_at _ _ _ _) (grw_rd (grownBy_setCell_at _ _ _ _) hA (fun b o e => by cases e; exact e1)) (fun b o e => by cases e; exact e1)) (fun b o e => by cases e; exact e2)
  rw [hX]
  refine leaves_cons (f := 109) (args := #[.pointer (some ⟨w.heap.size, 0, none⟩), .pointer (some ⟨w.heap.size + 1, 0, none⟩)]) (by simp) (by simp [go_sem]) ?_
  refine (catch_idle_int ⟨w.heap.size, 0, none⟩ ⟨w.heap.size + 1, 0, none⟩ _).mono ?_
  rintro e u' w'' ⟨rfl, rfl, rfl⟩
  have v0 := cell_at hx1 0 _ rfl
  have v1 := cell_at hx1 1 _ rfl
  have v2 := cell_at hx2 0 _ rfl
  refine ⟨.tuple #[.agg #[.bool s, .slice A n c], .int .i64 0], ?_, s, A, n, c, w', hR, hbX, hRd, rfl⟩
  simp [results, Tryd.results63, go_sem, v0, v1, v2]

set_option maxRecDepth 100000 in
set_option maxHeartbeats 2000000 in
/-- 'try' over a closure that panics with 'wrong' -/
theorem try_low_wrong (m : Nat) (G : Nat) (caps : Array Value) (hG : ∀ (args : Array Value) (w : World), (callFunc G args).run Tryd.prog w = .ok (.enter G args) w) (w : World) (hm : m < w.heap.size) (W2 : World)
    (hW2 : (w.alloc (.cells #[.bool false, .slice none 0 0] 24)).alloc (.cells #[.int .i64 0] 28) = W2) (c : Int)
    (h : Calls Tryd.prog G caps W2 fun e w' => e = .panicked (wrong c) ∧ But m W2 w') :
    Calls Tryd.prog 63 #[.func (.func G) #[] caps] w fun e w' =>
      But m w w' ∧ e = .returned (.tuple #[.agg #[.bool false, .slice none 0 0], .int .i64 c]) := by
  have hmf : ∀ (fn : Fn) (first cap : Array Value) (w : World), (Instr.makeFunc fn first cap).run Tryd.prog w = .ok (.func fn first cap) w := fun _ _ _ _ => rfl
  have hz1 : W2.heap[w.heap.size]? = some (.cells #[.bool false, .slice none 0 0] 24 (0, 0)) := by rw [← hW2]; exact (Below.heap_alloc _ _ _ (by simp)).trans (World.alloc_heap_new w _)
  have hz2 : W2.heap[w.heap.size + 1]? = some (.cells #[.int .i64 0] 28 (0, 0)) := by rw [← hW2]; have := World.alloc_heap_new (w.alloc (.cells #[.bool false, .slice none 0 0] 24)) (.cells #[.int .i64 0] 28); rwa [World.size_alloc] at this
  have hsz : W2.heap.size = w.heap.size + 2 := by rw [← hW2]; simp
  have hb2 : Below w.heap.size w W2 := by rw [← hW2]; exact ((Below.refl _ w).alloc (Nat.le_refl _) _).alloc (by simp) _
  have Hsz := Lib.hid hsz
  clear hsz
  go_enter_defers Tryd.func63, Tryd.ntmps63
  go_wp2_with first
    | (refine h.mono ?_; rintro e w' ⟨rfl, hbl⟩)
  have hy1 := (hbl.high w.heap.size hm (by have := Hsz.out; omega)).trans hz1
  have hy2 := (hbl.high (w.heap.size + 1) (by omega) (by have := Hsz.out; omega)).trans hz2
  have hbw : But m w w' := ((But.refl m w).on hm hb2).trans hbl
  refine leaves_cons (f := 109) (args := #[.pointer (some ⟨w.heap.size, 0, none⟩), .pointer (some ⟨w.heap.size + 1, 0, none⟩)]) (by simp) (by simp [go_sem]) ?_
  refine (catch_wrong_int w.heap.size c [] _ _ _ _ hy1 hy2).mono ?_
  rintro e u' w'' ⟨rfl, rfl, hx1, hx2, hbx⟩
  have v0 := cell_at hx1 0 _ rfl
  have v1 := cell_at hx1 1 _ rfl
  have v2 := cell_at hx2 0 _ rfl
  refine ⟨.tuple #[.agg #[.bool false, .slice none 0 0], .int .i64 c], ?_, hbw.onLow hm hbx, rfl⟩
  simp [results, Tryd.results63, go_sem, v0, v1, v2]

def PostL (m : Nat) (z er : Int) (w : World) (e : Ending) (w' : World) : Prop :=
  (er = 0 → ∃ s A c l, e = .returned (iv s A l.length c) ∧ IsZ s l z ∧ l.length ≤ c ∧ Rd w' A l ∧ But m w w') ∧ (er ≠ 0 → e = .panicked (wrong er) ∧ z = 0 ∧ But m w w')

def RetZL (m : Nat) (z er : Int) (w : World) (e : Ending) (w' : World) : Prop :=
  ∃ s A c l, e = .returned (.tuple #[iv s A l.length c, .int .i64 er]) ∧ IsZ s l z ∧ l.length ≤ c ∧ Rd w' A l ∧ But m w w'

theorem try_low (m : Nat) (G : Nat) (caps : Array Value) (hG : ∀ (args : Array Value) (w : World), (callFunc G args).run Tryd.prog w = .ok (.enter G args) w) (w : World) (hm : m < w.heap.size) (z er : Int)
    (h : Calls Tryd.prog G caps ((w.alloc (.cells #[.bool false, .slice none 0 0] 24)).alloc (.cells #[.int .i64 0] 28)) (PostL m z er ((w.alloc (.cells #[.bool false, .slice none 0 0] 24)).alloc (.cells #[.int .i64 0] 28)))) (hz : er ≠ 0 → z = 0) :
    Calls Tryd.prog 63 #[.func (.func G) #[] caps] w (RetZL m z er w) := by
  by_cases h0 : er = 0
  · subst h0
    refine (try_low_ok m G caps hG w hm _ rfl (fun s A n c w1 => ∃ l, n = l.length ∧ IsZ s l z ∧ l.length ≤ c ∧ Rd w1 A l) (h.mono ?_)).mono ?_
    · rintro e w' ⟨h1, -⟩
      obtain ⟨s, A, c, l, rfl, h2, h3, h4, h5⟩ := h1 rfl
      exact ⟨s, A, l.length, c, rfl, ⟨l, rfl, h2, h3, h4⟩, h5⟩
    · rintro e w' ⟨s, A, n, c, w1, ⟨l, rfl, h2, h3, h4⟩, h5, h6, rfl⟩
      exact ⟨s, A, c, l, rfl, h2, h3, h6 _ _ h4, h5⟩
  · obtain rfl := hz h0
    refine (try_low_wrong m G caps hG w hm _ rfl er (h.mono ?_)).mono ?_
    · rintro e w' ⟨-, h1⟩
      obtain ⟨h2, -, h3⟩ := h1 h0
      exact ⟨h2, h3⟩
    · rintro e w' ⟨h1, rfl⟩
      exact ⟨false, none, 0, [], rfl, isZ_zero, Nat.le_refl _, Rd.nil _ _, h1⟩

end Nm
end Go.Proofs.YtlhmbbpkhahbeaaDoor
