/-
  Contracts of the walks below.
-/
import Derived.Test.YtjghnghceeijeaaGreatDoorDb13
set_option maxRecDepth 100000
set_option maxHeartbeats 4000000
set_option linter.unusedVariables false
set_option linter.unusedSimpArgs false
namespace Go.Proofs.YtjghnghceeijeaaGreatDoor
namespace Nm
open Go.RowKit Go.Shelf Go.BigFrame
attribute [local go_sem] Oper.semAt_some
def RetTQ (q r er : Int) (w : World) (e : Ending) (w' : World) : Prop :=
 ∃ s1 A1 c1 l1 s2 A2 c2 l2, e = .returned (.tuple #[.agg #[.bool s1, .slice A1 l1.length c1, .bool s2, .slice A2 l2.length c2], .int .i64 er]) ∧ IsZ s1 l1 q ∧ IsZ s2 l2 r ∧ l1.length ≤ c1 ∧ l2.length ≤ c2 ∧ Rd w' A1 l1 ∧ Rd w' A2 l2 ∧ Below w.heap.size w w'
theorem try_div (G : Nat) (caps : Array Value) (hG : ∀ (args : Array Value) (w : World), (callFunc G args).run Tryz.prog w = .ok (.enter G args) w) (w : World) (q r er : Int)
 (h : Calls Tryz.prog G caps ((w.alloc (.cells #[.bool false, .slice none 0 0, .bool false, .slice none 0 0] 227)).alloc (.cells #[.int .i64 0] 30)) (PostQR q r er ((w.alloc (.cells #[.bool false, .slice none 0 0, .bool false, .slice none 0 0] 227)).alloc (.cells #[.int .i64 0] 30)))) (hz : er ≠ 0 → q = 0 ∧ r = 0) :
 Calls Tryz.prog 228 #[.func (.func G) #[] caps] w (RetTQ q r er w) := by
 by_cases h0 : er = 0
 · subst h0
   refine (try_div_ok G caps hG w _ rfl (fun s1 A1 m1 c1 s2 A2 m2 c2 w1 => ∃ l1 l2, m1 = l1.length ∧ m2 = l2.length ∧ IsZ s1 l1 q ∧ IsZ s2 l2 r ∧ l1.length ≤ c1 ∧ l2.length ≤ c2 ∧ Rd w1 A1 l1 ∧ Rd w1 A2 l2) (h.mono ?_)).mono ?_
   · rintro e w' ⟨h1, -⟩
     obtain ⟨s1, A1, c1, l1, s2, A2, c2, l2, rfl, h2, h3, h4, h5, h6, h7, h8⟩ := h1 rfl
     exact ⟨s1, A1, _, c1, s2, A2, _, c2, rfl, ⟨l1, l2, rfl, rfl, h2, h3, h4, h5, h6, h7⟩, h8⟩
   · rintro e w' ⟨s1, A1, m1, c1, s2, A2, m2, c2, w1, ⟨l1, l2, rfl, rfl, h2, h3, h4, h5, h6, h7⟩, h8, h9, rfl⟩
     exact ⟨s1, A1, c1, l1, s2, A2, c2, l2, rfl, h2, h3, h4, h5, h9 _ _ h6, h9 _ _ h7, h8⟩
 · obtain ⟨rfl, rfl⟩ := hz h0
   refine (try_div_wrong G caps hG w _ rfl er (h.mono ?_)).mono ?_
   · rintro e w' ⟨-, h1⟩
     obtain ⟨h2, -, -, h3⟩ := h1 h0
     exact ⟨h2, h3⟩
   · rintro e w' ⟨h1, rfl⟩
     exact ⟨false, none, 0, [], false, none, 0, [], rfl, isZ_zero, isZ_zero, Nat.le_refl _, Nat.le_refl _, Rd.nil _ _, Rd.nil _ _, h1⟩
theorem ret_cct {fn : Func} {p q u : Tmp} (h : fn.results = #[.cell p 24, .cell q 24, .tmp u]) {a : Act} {w : World} {g1 g2 : Nat} {x1 y1 x2 y2 : Value} {R : Ending → World → Prop} (hd0 : a.defers = []) (hp : a.tmps.getD p undef = .pointer (some ⟨g1, 0, none⟩)) (hq : a.tmps.getD q undef = .pointer (some ⟨g2, 0, none⟩))
 (hg1 : w.heap[g1]? = some (.cells #[x1, y1] 24 (0, 0))) (hg2 : w.heap[g2]? = some (.cells #[x2, y2] 24 (0, 0))) (hR : R (.returned (.tuple #[.agg #[x1, y1], .agg #[x2, y2], a.tmps.getD u undef])) w) : bodyPost Tryz.prog fn R .ret a w := by
 refine bodyPost_ret (v := .tuple #[.agg #[x1, y1], .agg #[x2, y2], a.tmps.getD u undef]) ?_ hd0 hR
 have e1 := run_loadVar_row (P := Tryz.prog) w g1 24 24 #[x1, y1] (0, 0) _ hg1 Tryz.underlying24 rfl int_size
 have e2 := run_loadVar_row (P := Tryz.prog) w g2 24 24 #[x2, y2] (0, 0) _ hg2 Tryz.underlying24 rfl int_size
 rw [Array.getD_eq_getD_getElem?] at hp hq
 simp [results, h, hp, hq, asAddr, Result.andThen, e1, e2, Sem.run_bind]
theorem boxes4 (w : World) (n1 n2 : Bool) (A1 A2 : Option Addr) (c1 c2 : Nat) (l1 l2 : List Nat) (h1 : Rd w A1 l1) (h2 : Rd w A2 l2) (hc1 : l1.length ≤ c1) (hc2 : l2.length ≤ c2) (cur cur' : Array Value) (t t' : TypeId) :
 ∃ W4, ((((w.alloc (.cells #[.bool n1, .slice A1 l1.length c1] 24)).alloc (.cells #[.bool n2, .slice A2 l2.length c2] 24)).alloc (.cells cur t)).alloc (.cells cur' t')) = W4 ∧ Below w.heap.size w W4 ∧
  IntBox W4 w.heap.size n1 A1 c1 l1 ∧ IntBox W4 (w.heap.size + 1) n2 A2 c2 l2 ∧ Blk W4 (w.heap.size + 1 + 1) cur t ∧ Blk W4 (w.heap.size + 1 + 1 + 1) cur' t' ∧ W4.heap.size = w.heap.size + 4 := by
 obtain ⟨W4, hW4⟩ : ∃ W4, ((((w.alloc (.cells #[.bool n1, .slice A1 l1.length c1] 24)).alloc (.cells #[.bool n2, .slice A2 l2.length c2] 24)).alloc (.cells cur t)).alloc (.cells cur' t')) = W4 := ⟨_, rfl⟩
 have hb4 : Below w.heap.size w W4 := by rw [← hW4]; exact ((((Below.refl _ w).alloc (Nat.le_refl _) _).alloc (by simp) _).alloc (by simp; omega) _).alloc (by simp; omega) _
 refine ⟨W4, hW4, hb4, ?_, ?_, ?_, ?_, ?_⟩
 · exact ⟨by rw [← hW4]; exact (Below.heap_alloc _ _ _ (by simp; omega)).trans ((Below.heap_alloc _ _ _ (by simp; omega)).trans ((Below.heap_alloc _ _ _ (by simp)).trans (World.alloc_heap_new w _))), h1.on hb4, hc1⟩
 · exact ⟨by rw [← hW4]; exact (Below.heap_alloc _ _ _ (by simp <;> omega)).trans ((Below.heap_alloc _ _ _ (by simp)).trans (two_blk w _ _)), h2.on hb4, hc2⟩
 · exact ⟨by rw [← hW4]; refine (Below.heap_alloc _ _ _ (by simp)).trans ?_; have := World.alloc_heap_new ((w.alloc (.cells #[.bool n1, .slice A1 l1.length c1] 24)).alloc (.cells #[.bool n2, .slice A2 l2.length c2] 24)) (.cells cur t); rwa [World.size_alloc, World.size_alloc] at this⟩
 · exact ⟨by rw [← hW4]; have := World.alloc_heap_new (((w.alloc (.cells #[.bool n1, .slice A1 l1.length c1] 24)).alloc (.cells #[.bool n2, .slice A2 l2.length c2] 24)).alloc (.cells cur t)) (.cells cur' t'); rwa [World.size_alloc, World.size_alloc, World.size_alloc] at this⟩
 · rw [← hW4]; simp
theorem Div_calls (n1 n2 : Bool) (A1 A2 : Option Addr) (c1 c2 : Nat) (l1 l2 : List Nat) (w : World) (h1 : Rd w A1 l1) (h2 : Rd w A2 l2) (hc1 : l1.length ≤ c1) (hc2 : l2.length ≤ c2) :
 Calls Tryz.prog 198 #[iv n1 A1 l1.length c1, iv n2 A2 l2.length c2] w (RetQRE (divR n1 l1 n2 l2).1 (divR n1 l1 n2 l2).2.1 (divR n1 l1 n2 l2).2.2 w) := by
 have hmf := mkf
 obtain ⟨W4, hW4, hb4, B1, B2, hR1, hR2, hsz⟩ := boxes4 w n1 n2 A1 A2 c1 c2 l1 l2 h1 h2 hc1 hc2 #[.bool false, .slice none 0 0] #[.bool false, .slice none 0 0] 24 24
 have hB5 : ∀ o o', Below W4.heap.size W4 ((W4.alloc o).alloc o') := fun o o' => ((Below.refl _ W4).alloc (Nat.le_refl _) _).alloc (by simp) _
 have ht := try_div 229 #[.pointer (some ⟨w.heap.size, 0, none⟩), .pointer (some ⟨w.heap.size + 1, 0, none⟩)] (enters_of Tryz.func229 (by kernel_rfl) rfl) W4 _ _ _ (div1_calls _ _ n1 n2 A1 A2 c1 c2 l1 l2 _ (B1.on (hB5 _ _)) (B2.on (hB5 _ _))) (divR_zero n1 l1 n2 l2)
 generalize (divR n1 l1 n2 l2).1 = q at *
 generalize (divR n1 l1 n2 l2).2.1 = r at *
 generalize (divR n1 l1 n2 l2).2.2 = er at *
 have Hsz := Lib.hid hsz
 clear hsz
 go_enter Tryz.func198, Tryz.ntmps198
 go_wp2_with (go_at_call 228; refine ht.mono ?_; rintro e w5 ⟨s5, A5, c5, l5, s6, A6, c6, l6, rfl, z5, z6, n5, n6, r5, r6, b5⟩)
 have hb6 : Below w5.heap.size w5 (w5.alloc (.cells #[.bool s5, .slice A5 l5.length c5, .bool s6, .slice A6 l6.length c6] 227)) := (Below.refl _ _).alloc (Nat.le_refl _) _
 have hX := World.alloc_heap_new w5 (.cells #[.bool s5, .slice A5 l5.length c5, .bool s6, .slice A6 l6.length c6] 227)
 have q1 := (hR1.on b5).on hb6
 have q2 := (hR2.on b5).on hb6
 have p1 := r5.on hb6
 have p2 := r6.on hb6
 have bb := hb4.trans ((b5.mono hb4.size).trans (hb6.mono (Nat.le_trans hb4.size b5.size)))
 have hs5 := b5.size
 have hsz := Hsz.out
 clear hW4
 generalize (w5.alloc (.cells #[.bool s5, .slice A5 l5.length c5, .bool s6, .slice A6 l6.length c6] 227)) = W6 at *
 obtain ⟨B, hB⟩ : ∃ B, w5.heap.size = B := ⟨_, rfl⟩
 obtain ⟨G1, hG1⟩ : ∃ G1, w.heap.size + 1 + 1 = G1 := ⟨_, rfl⟩
 obtain ⟨G2, hG2⟩ : ∃ G2, G1 + 1 = G2 := ⟨_, rfl⟩
 have d1 : ¬ G1 = G2 := by omega
 have d2 : ¬ G2 = G1 := by omega
 have d3 : ¬ G1 = B := by omega
 have d4 : ¬ B = G1 := by omega
 have d5 : ¬ G2 = B := by omega
 have d6 : ¬ B = G2 := by omega
 have d7 : w.heap.size ≤ G1 := by omega
 have d8 : w.heap.size ≤ G2 := by omega
 rw [hB] at hX ⊢
 rw [hG1] at q1 q2 ⊢
 rw [hG2] at q2 ⊢
 clear hB hG1 hG2 hs5 hsz
 obtain ⟨x0, x1, x2, x3⟩ := cL4 hX
 obtain ⟨y0, y1⟩ := cL2 q1.h
 obtain ⟨y2, y3⟩ := cL2 q2.h
 obtain ⟨u0, u1⟩ := fZ2 q1.h
 obtain ⟨u2, u3⟩ := fZ2 q2.h
 go_region
 go_wp2_with fail
 have nw : ∀ {v1 v2 : Value}, (∀ x : Int, v1 ≠ .int .u32 x) → (∀ x : Int, v2 ≠ .int .u32 x) → ∀ (i : Nat) (x : Int), (#[v1, v2] : Array Value)[i]? = some (.int .u32 x) → False := by
  intro v1 v2 h1 h2 i x h
  rcases i with _ | _ | i <;> simp at h
  · exact h1 _ h
  · exact h2 _ h
 have m1 := p1.ne q1.h (nw (by simp) (by simp))
 have m2 := p1.ne q2.h (nw (by simp) (by simp))
 have m3 := p2.ne q1.h (nw (by simp) (by simp))
 have m4 := p2.ne q2.h (nw (by simp) (by simp))
 exact ret_cct rfl rfl rfl rfl (heap_drew _ _ ((Below.heap_setCell _ _ _ G1 (by first | exact d1 | exact d2)).trans ((Below.heap_setCell _ _ _ G1 (by first | exact d1 | exact d2)).trans (set_blk (set_blk q1.h 0 _) 1 _))))
  (heap_drew _ _ (set_blk (set_blk ((Below.heap_setCell _ _ _ G2 (by first | exact d1 | exact d2)).trans ((Below.heap_setCell _ _ _ G2 (by first | exact d1 | exact d2)).trans q2.h)) 0 _) 1 _))
  ⟨s5, A5, c5, l5, s6, A6, c6, l6, rfl, z5, z6, n5, n6, ((((p1.setNe m1).setNe m1).setNe m2).setNe m2).on (below_drew (Below.refl _ _)), ((((p2.setNe m3).setNe m3).setNe m4).setNe m4).on (below_drew (Below.refl _ _)), below_drew ((((bb.setCell d7 _).setCell d7 _).setCell d8 _).setCell d8 _)⟩
theorem formed_one (g : Nat) (n1 : Bool) (A1 : Option Addr) (c1 : Nat) (l1 : List Nat) (w : World) (hg : w.heap[g]? = some (.cells #[.bool n1, .slice A1 l1.length c1] 24 (0, 0))) (h1 : Rd w A1 l1) (hc1 : l1.length ≤ c1) :
 Calls Tryz.prog 146 #[.slice (some ⟨g, 0, none⟩) 1 1] w fun e w' =>
  (okI n1 l1 = true → e = .returned (.tuple #[])) ∧ (okI n1 l1 = false → e = .panicked (wrong 1)) ∧ Below w.heap.size w w' := by
 have := formed_calls g [⟨n1, A1, c1, l1⟩] w (Array.getElem?_eq_some_iff.1 hg).1 ⟨?_, ?_, ?_⟩ (by simp)
 · simpa [IntArg.ok] using this
 · intro k hk
   match k, hk with
   | 0, _ => exact cell_at hg 0 _ rfl
 · intro k hk
   match k, hk with
   | 0, _ => exact cell_at hg 1 _ rfl
 · intro k hk
   match k, hk with
   | 0, _ => exact ⟨h1, hc1⟩
def powR (n1 : Bool) (l1 : List Nat) (n : Int) : Int × Int := if okI n1 l1 = true then (if 0 ≤ n ∧ n ≤ 9600 then fitZ (toZ n1 l1 ^ n.toNat) else (0, 1)) else (0, 1)
theorem powR_zero (n1 : Bool) (l1 : List Nat) (n : Int) : (powR n1 l1 n).2 ≠ 0 → (powR n1 l1 n).1 = 0 := by
 unfold powR
 split
 · split
   · exact fit_zero _
   · simp
 · simp
theorem neg_pow (a m : Nat) : (-(a : Int)) ^ m = if m % 2 = 1 then -((a ^ m : Nat) : Int) else ((a ^ m : Nat) : Int) := by
 induction m with
 | zero => simp
 | succ m ih =>
  rw [Int.pow_succ, ih, Nat.pow_succ]
  by_cases h : m % 2 = 1
  · rw [if_pos h, if_neg (by omega), Int.neg_mul_neg]; simp
  · rw [if_neg h, if_pos (by omega), Int.mul_neg]; simp
theorem pow_z (n1 : Bool) (l1 : List Nat) (m : Nat) : toZ n1 l1 ^ m = if (n1 && ((m : Int) % 2 == 1)) = true then -((val l1 ^ m : Nat) : Int) else ((val l1 ^ m : Nat) : Int) := by
 unfold toZ
 cases n1
 · simp
 · rw [if_pos rfl, neg_pow, Bool.true_and]
   by_cases h : m % 2 = 1
   · rw [if_pos h, if_pos (by rw [beq_iff_eq]; omega)]
   · rw [if_neg h, if_neg (by rw [beq_iff_eq]; omega)]
theorem pow1_bad (g1 g2 : Nat) (n1 : Bool) (n : Int) (A1 : Option Addr) (c1 : Nat) (l1 : List Nat) (w : World) (h1 : IntBox w g1 n1 A1 c1 l1) (h2 : Blk w g2 #[.int .i64 n] 3) (hbad : okI n1 l1 = false) :
 Calls Tryz.prog 151 #[.pointer (some ⟨g1, 0, none⟩), .pointer (some ⟨g2, 0, none⟩)] w fun e w' => e = .panicked (wrong 1) ∧ Below w.heap.size w w' := by
 obtain ⟨x0, x1⟩ := cL2 h1.blk
 have y0 := cell_at h2.h 0 _ rfl
 have t1 := (Array.getElem?_eq_some_iff.1 h1.blk).1
 have t2 := (Array.getElem?_eq_some_iff.1 h2.h).1
 have hb2 : ∀ a b, Below w.heap.size w ((w.alloc a).alloc b) := fun a b => ((Below.refl _ w).alloc (Nat.le_refl _) _).alloc (by simp) _
 have hf := fun a => formed_one (w.heap.size + 1) n1 A1 c1 l1 _ (two_blk w a (.cells #[.bool n1, .slice A1 l1.length c1] 24)) (h1.rd.on (hb2 _ _)) h1.cap
 go_enter Tryz.func151, Tryz.ntmps151
 go_wp2_with (go_at_call 146; refine (hf _).mono ?_; rintro e w' ⟨-, hp, hbl⟩; cases hp hbad)
 exact ⟨rfl, rfl, (hb2 _ _).trans (hbl.mono (hb2 _ _).size)⟩
theorem pow1_range (g1 g2 : Nat) (n1 : Bool) (n : Int) (A1 : Option Addr) (c1 : Nat) (l1 : List Nat) (w : World) (h1 : IntBox w g1 n1 A1 c1 l1) (h2 : Blk w g2 #[.int .i64 n] 3) (hok : okI n1 l1 = true) (h0 : ¬ (0 ≤ n ∧ n ≤ 9600)) :
 Calls Tryz.prog 151 #[.pointer (some ⟨g1, 0, none⟩), .pointer (some ⟨g2, 0, none⟩)] w fun e w' => e = .panicked (wrong 1) ∧ Below w.heap.size w w' := by
 obtain ⟨x0, x1⟩ := cL2 h1.blk
 have y0 := cell_at h2.h 0 _ rfl
 have t1 := (Array.getElem?_eq_some_iff.1 h1.blk).1
 have t2 := (Array.getElem?_eq_some_iff.1 h2.h).1
 have hb2 : ∀ a b, Below w.heap.size w ((w.alloc a).alloc b) := fun a b => ((Below.refl _ w).alloc (Nat.le_refl _) _).alloc (by simp) _
 have hf := fun a => formed_one (w.heap.size + 1) n1 A1 c1 l1 _ (two_blk w a (.cells #[.bool n1, .slice A1 l1.length c1] 24)) (h1.rd.on (hb2 _ _)) h1.cap
 by_cases hn : 0 ≤ n
 · have hn2 : decide (n ≤ 9600) = false := decide_eq_false fun h => h0 ⟨hn, h⟩
   clear h0
   go_enter Tryz.func151, Tryz.ntmps151
   go_wp2_with first
    | (go_at_call 146; refine (hf _).mono ?_; rintro e w' ⟨hp, -, hbl⟩; cases hp hok; have hb3 := (hb2 _ _).trans (hbl.mono (hb2 _ _).size); obtain ⟨p0, p1⟩ := cL2 (h1.on hb3).blk; have p2 := cell_at (h2.on hb3).h 0 _ rfl)
    | (go_at_call 152; refine (must_no 1 _).mono ?_; rintro e w5 ⟨rfl, rfl⟩)
   exact ⟨rfl, rfl, hb3⟩
 · clear h0
   go_enter Tryz.func151, Tryz.ntmps151
   go_wp2_with first
    | (go_at_call 146; refine (hf _).mono ?_; rintro e w' ⟨hp, -, hbl⟩; cases hp hok; have hb3 := (hb2 _ _).trans (hbl.mono (hb2 _ _).size); obtain ⟨p0, p1⟩ := cL2 (h1.on hb3).blk; have p2 := cell_at (h2.on hb3).h 0 _ rfl)
    | (go_at_call 152; refine (must_no 1 _).mono ?_; rintro e w5 ⟨rfl, rfl⟩)
   exact ⟨rfl, rfl, hb3⟩
theorem calls_false {P : Program} {f : FuncId} {args : Array Value} {w : World} {R : Ending → World → Prop} (h : False) (_ : ∀ v w', False → R (.returned v) w') : Calls P f args w R := h.elim
theorem keep2 {w : World} {g B i : Nat} {v v0 v1 : Value} (hne : ¬ B = g) (h : w.cell? ⟨g, i, none⟩ = some v) : ((w.setCell ⟨B, 0, none⟩ v0).setCell ⟨B, 1, none⟩ v1).cell? ⟨g, i, none⟩ = some v :=
 (World.cell?_setCell_other _ _ _ v1 (by intro e; cases e; exact hne rfl)).trans ((World.cell?_setCell_other w _ _ v0 (by intro e; cases e; exact hne rfl)).trans h)
theorem pow1_ok (g1 g2 : Nat) (n1 : Bool) (m : Nat) (A1 : Option Addr) (c1 : Nat) (l1 : List Nat) (w : World) (h1 : IntBox w g1 n1 A1 c1 l1) (h2 : Blk w g2 #[.int .i64 (m : Int)] 3) (k1 : IsInt n1 l1) (hok : okI n1 l1 = true) (hm : m ≤ 9600) (b : Bool) (hpar : ((m : Int) % 2 == 1) = b) (hs : (lim (val l1 ^ m)).length ≤ 300) (z : Int) (hz : Hid ((if (n1 && b) = true then -((val l1 ^ m : Nat) : Int) else ((val l1 ^ m : Nat) : Int)) = z)) :
 Calls Tryz.prog 151 #[.pointer (some ⟨g1, 0, none⟩), .pointer (some ⟨g2, 0, none⟩)] w (RetZ z w) := by
 obtain ⟨x0, x1⟩ := cL2 h1.blk
 have y0 := cell_at h2.h 0 _ rfl
 have t1 := (Array.getElem?_eq_some_iff.1 h1.blk).1
 have t2 := (Array.getElem?_eq_some_iff.1 h2.h).1
 have hb2 : ∀ a b, Below w.heap.size w ((w.alloc a).alloc b) := fun a b => ((Below.refl _ w).alloc (Nat.le_refl _) _).alloc (by simp) _
 have hf := fun a => formed_one (w.heap.size + 1) n1 A1 c1 l1 _ (two_blk w a (.cells #[.bool n1, .slice A1 l1.length c1] 24)) (h1.rd.on (hb2 _ _)) h1.cap
 have hpw := fun W (hW : Below w.heap.size w W) => power_calls A1 c1 (val l1) m W (by rw [lim_val k1.canon]; exact h1.rd.on hW) (by rw [lim_val k1.canon]; exact h1.cap) (by rw [lim_val k1.canon]; exact k1.small) (by omega)
 rw [lim_val k1.canon] at hpw
 have hpt : ((m : Int).tmod 2 == 1) = b := by rw [Int.tmod_eq_emod_of_nonneg (by omega)]; exact hpar
 have hdm : decide (m ≤ 9600) = true := decide_eq_true hm
 have hdi : decide ((m : Int) ≤ 9600) = true := decide_eq_true (by omega)
 have d1 : ¬ g1 = w.heap.size := by omega
 have d2 : ¬ g2 = w.heap.size := by omega
 have d3 : ¬ w.heap.size = g1 := by omega
 have d4 : ¬ w.heap.size = g2 := by omega
 have hqx := two_old w (.cells #[.bool false, .slice none 0 0] 24) (.cells #[.bool n1, .slice A1 l1.length c1] 24) rfl
 have hwz := fun W A c (h : Rd W A (lim (val l1 ^ m))) (hc : (lim (val l1 ^ m)).length ≤ c) => whole_z (n1 && b) (val l1 ^ m) hs A c W h hc
 generalize val l1 ^ m = Pw at *
 cases n1
 · simp only [Bool.false_and] at *
   go_enter Tryz.func151, Tryz.ntmps151
   go_wp2_with first
    | (go_at_call 146; refine (hf _).mono ?_; rintro e w' ⟨hp, -, hbl⟩; cases hp hok; have hb3 := (hb2 _ _).trans (hbl.mono (hb2 _ _).size); obtain ⟨p0, p1⟩ := cL2 (h1.on hb3).blk; have p2 := cell_at (h2.on hb3).h 0 _ rfl)
    | (go_at_call 152; refine (must_ok 1 _).mono ?_; rintro e w4 ⟨rfl, rfl⟩; have hq1 := hqx.on hbl)
   clear x0 x1 y0
   refine wp_region_held_drew (S := (fun w'' => w''.cell? ⟨g1, 0, none⟩ = some (.bool false) ∧ w''.cell? ⟨g1, 1, none⟩ = some (.slice A1 l1.length c1) ∧ w''.cell? ⟨g2, 0, none⟩ = some (.int .i64 (m : Int)))) (by kernel_rfl) ⟨p0, p1, p2⟩ (fun hHeld => ?_)
   refine wpAnyH_take (i := 0) (v := Value.pointer (some ⟨g1, 0, none⟩)) rfl (by kernel_rfl) (by kernel_rfl) (by kernel_rfl) (fun _ _ _ h => h) (Or.inl ⟨by rfl, fun w hSw => by (try dsimp only at hSw); go_simp⟩) (by assumption) ?_
   try simp only [Act.put, List.setIfInBounds_toArray]
   refine wpAnyH_take (i := 1) (v := Value.bool false) rfl (by kernel_rfl) (by kernel_rfl) (by kernel_rfl) (fun _ _ _ h => h) (Or.inl ⟨by rfl, fun w hSw => by (try dsimp only at hSw); go_simp⟩) (by assumption) ?_
   try simp only [Act.put]
   refine wpAnyH_take (i := 2) (v := Value.bool false) rfl (by kernel_rfl) (by kernel_rfl) (by kernel_rfl) (fun _ _ _ h => h) (Or.inl ⟨by rfl, fun w hSw => by (try dsimp only at hSw); go_simp⟩) (by assumption) ?_
   try simp only [Act.put]
   refine wpAnyH_take (i := 3) (v := undef) rfl (by kernel_rfl) (by kernel_rfl) (by kernel_rfl) (fun _ _ _ h => h) (Or.inr ⟨by rfl, rfl⟩) (by assumption) ?_
   try simp only [Act.put]
   refine wpAnyH_take (i := 4) (v := undef) rfl (by kernel_rfl) (by kernel_rfl) (by kernel_rfl) (fun _ _ _ h => h) (Or.inr ⟨by rfl, rfl⟩) (by assumption) ?_
   try simp only [Act.put]
   refine wpAnyH_take (i := 5) (v := undef) rfl (by kernel_rfl) (by kernel_rfl) (by kernel_rfl) (fun _ _ _ h => h) (Or.inr ⟨by rfl, rfl⟩) (by assumption) ?_
   try simp only [Act.put]
   refine wpAnyH_take (i := 6) (v := Value.bool false) rfl (by kernel_rfl) (by kernel_rfl) (by kernel_rfl) (fun _ _ _ h => h) (Or.inl ⟨by rfl, fun w hSw => by (try dsimp only at hSw); go_simp⟩) (by assumption) ?_
   try simp only [Act.put]
   refine wpAnyH_take (i := 7) (v := Value.pointer (some ⟨g1, 1, none⟩)) rfl (by kernel_rfl) (by kernel_rfl) (by kernel_rfl) (fun _ _ _ h => h) (Or.inl ⟨by rfl, fun w hSw => by (try dsimp only at hSw); go_simp⟩) (by assumption) ?_
   try simp only [Act.put]
   refine wpAnyH_take (i := 8) (v := Value.slice A1 l1.length c1) rfl (by kernel_rfl) (by kernel_rfl) (by kernel_rfl) (fun _ _ _ h => h) (Or.inl ⟨by rfl, fun w hSw => by (try dsimp only at hSw); go_simp⟩) (by assumption) ?_
   try simp only [Act.put]
   refine wpAnyH_take (i := 9) (v := Value.int .i64 (m : Int)) rfl (by kernel_rfl) (by kernel_rfl) (by kernel_rfl) (fun _ _ _ h => h) (Or.inl ⟨by rfl, fun w hSw => by (try dsimp only at hSw); go_simp⟩) (by assumption) ?_
   try simp only [Act.put]
   refine wpAnyH_ready (rs := [10]) (by kernel_rfl) (by simp) ?_
   refine AllReadyH.cons rfl (fun K hK => ?_) AllReadyH.nil
   go_simp
   go_at_call 153; refine (hpw _ (below_drew hb3)).mono ?_; rintro e w5 ⟨hp, -, -⟩; obtain ⟨A5, c5, rfl, n5, r5, b5⟩ := hp hs; replace b5 := (below_drew (Below.refl _ w4)).trans b5; have hb5 := hb3.trans (b5.mono hb3.size); obtain ⟨i0, i1⟩ := cL2 (h1.on hb5).blk; have i2 := cell_at (h2.on hb5).h 0 _ rfl
   go_wp2_with fail
   refine hK.out _ _ ⟨i0, i1, i2⟩ (fun hHeld => ?_)
   clear hK K
   try simp only [Act.put, aQ, bQ, cQ]
   refine wpAnyH_ready (rs := [11]) (by kernel_rfl) (by simp) ?_
   refine AllReadyH.cons rfl (fun K hK => ?_) AllReadyH.nil
   go_simp
   go_at_call 147; refine (hwz _ A5 c5 r5 n5).mono ?_; rintro e w6 ⟨s6, A6, c6, l6, rfl, z6, n6, r6, b6⟩; have hb6 := hb5.trans (b6.mono hb5.size); obtain ⟨j0, j1⟩ := cL2 (h1.on hb6).blk; have j2 := cell_at (h2.on hb6).h 0 _ rfl; have hq6 := (hq1.on b5).on b6; obtain ⟨z0, z1⟩ := cL2 hq6.h; obtain ⟨u0, u1⟩ := fZ2 hq6.h
   go_wp2_with fail
   refine hK.out _ _ ⟨j0, j1, j2⟩ (fun hHeld => ?_)
   clear hK K
   try simp only [Act.put, aQ, bQ, cQ]
   refine wpAnyH_ready (rs := [12]) (by kernel_rfl) (by simp) ?_
   refine AllReadyH.cons rfl (fun K hK => ?_) AllReadyH.nil
   go_simp
   refine hK.out _ _ ⟨keep2 d3 j0, keep2 d3 j1, keep2 d4 j2⟩ (fun hHeld => ?_)
   clear hK K
   try simp only [Act.put, aQ, bQ, cQ]
   refine wpAnyH_done (by kernel_rfl) ?_ _
   all_goals go_wp2_with fail
   all_goals exact ret_cell rfl rfl rfl (set_blk (set_blk hq6.h 0 _) 1 _) ⟨s6, A6, c6, l6, rfl, z6.cast hz.out, n6, rd_sets r6 hq6 _ _, (hb6.setCell (Nat.le_refl _) _).setCell (Nat.le_refl _) _⟩
 · simp only [Bool.true_and] at *
   go_enter Tryz.func151, Tryz.ntmps151
   go_wp2_with first
    | (go_at_call 146; refine (hf _).mono ?_; rintro e w' ⟨hp, -, hbl⟩; cases hp hok; have hb3 := (hb2 _ _).trans (hbl.mono (hb2 _ _).size); obtain ⟨p0, p1⟩ := cL2 (h1.on hb3).blk; have p2 := cell_at (h2.on hb3).h 0 _ rfl)
    | (go_at_call 152; refine (must_ok 1 _).mono ?_; rintro e w4 ⟨rfl, rfl⟩; have hq1 := hqx.on hbl)
   clear x0 x1 y0
   first
   | go_region_held3 (fun w'' => w''.cell? ⟨g1, 0, none⟩ = some (.bool true) ∧ w''.cell? ⟨g1, 1, none⟩ = some (.slice A1 l1.length c1) ∧ w''.cell? ⟨g2, 0, none⟩ = some (.int .i64 (m : Int))) ((first | assumption | go_keep))
    ((first
     | (go_at_call 153; refine (hpw _ (below_drew hb3)).mono ?_; rintro e w5 ⟨hp, -, -⟩; obtain ⟨A5, c5, rfl, n5, r5, b5⟩ := hp hs; replace b5 := (below_drew (Below.refl _ w4)).trans b5; have hb5 := hb3.trans (b5.mono hb3.size); obtain ⟨i0, i1⟩ := cL2 (h1.on hb5).blk; have i2 := cell_at (h2.on hb5).h 0 _ rfl)
     | (go_at_call 147; refine (hwz _ A5 c5 r5 n5).mono ?_; rintro e w6 ⟨s6, A6, c6, l6, rfl, z6, n6, r6, b6⟩; have hb6 := hb5.trans (b6.mono hb5.size); obtain ⟨j0, j1⟩ := cL2 (h1.on hb6).blk; have j2 := cell_at (h2.on hb6).h 0 _ rfl; have hq6 := (hq1.on b5).on b6; obtain ⟨z0, z1⟩ := cL2 hq6.h; obtain ⟨u0, u1⟩ := fZ2 hq6.h)))
   | fail
   all_goals go_wp2_with fail
   all_goals exact ret_cell rfl rfl rfl (set_blk (set_blk hq6.h 0 _) 1 _) ⟨s6, A6, c6, l6, rfl, z6.cast hz.out, n6, rd_sets r6 hq6 _ _, (hb6.setCell (Nat.le_refl _) _).setCell (Nat.le_refl _) _⟩
theorem pow1_big (g1 g2 : Nat) (n1 : Bool) (m : Nat) (A1 : Option Addr) (c1 : Nat) (l1 : List Nat) (w : World) (h1 : IntBox w g1 n1 A1 c1 l1) (h2 : Blk w g2 #[.int .i64 (m : Int)] 3) (k1 : IsInt n1 l1) (hok : okI n1 l1 = true) (hm : m ≤ 9600) (b : Bool) (hpar : ((m : Int) % 2 == 1) = b) (hs : 300 < (lim (val l1 ^ m)).length) :
 Calls Tryz.prog 151 #[.pointer (some ⟨g1, 0, none⟩), .pointer (some ⟨g2, 0, none⟩)] w fun e w' => e = .panicked (wrong 3) ∧ Below w.heap.size w w' := by
 obtain ⟨x0, x1⟩ := cL2 h1.blk
 have y0 := cell_at h2.h 0 _ rfl
 have t1 := (Array.getElem?_eq_some_iff.1 h1.blk).1
 have t2 := (Array.getElem?_eq_some_iff.1 h2.h).1
 have hb2 : ∀ a b, Below w.heap.size w ((w.alloc a).alloc b) := fun a b => ((Below.refl _ w).alloc (Nat.le_refl _) _).alloc (by simp) _
 have hf := fun a => formed_one (w.heap.size + 1) n1 A1 c1 l1 _ (two_blk w a (.cells #[.bool n1, .slice A1 l1.length c1] 24)) (h1.rd.on (hb2 _ _)) h1.cap
 have hpw := fun W (hW : Below w.heap.size w W) => power_calls A1 c1 (val l1) m W (by rw [lim_val k1.canon]; exact h1.rd.on hW) (by rw [lim_val k1.canon]; exact h1.cap) (by rw [lim_val k1.canon]; exact k1.small) (by omega)
 rw [lim_val k1.canon] at hpw
 have hpt : ((m : Int).tmod 2 == 1) = b := by rw [Int.tmod_eq_emod_of_nonneg (by omega)]; exact hpar
 have hdm : decide (m ≤ 9600) = true := decide_eq_true hm
 have hdi : decide ((m : Int) ≤ 9600) = true := decide_eq_true (by omega)
 have d1 : ¬ g1 = w.heap.size := by omega
 have d2 : ¬ g2 = w.heap.size := by omega
 have d3 : ¬ w.heap.size = g1 := by omega
 have d4 : ¬ w.heap.size = g2 := by omega
 have hqx := two_old w (.cells #[.bool false, .slice none 0 0] 24) (.cells #[.bool n1, .slice A1 l1.length c1] 24) rfl
 cases n1
 · skip
   go_enter Tryz.func151, Tryz.ntmps151
   go_wp2_with first
    | (go_at_call 146; refine (hf _).mono ?_; rintro e w' ⟨hp, -, hbl⟩; cases hp hok; have hb3 := (hb2 _ _).trans (hbl.mono (hb2 _ _).size); obtain ⟨p0, p1⟩ := cL2 (h1.on hb3).blk; have p2 := cell_at (h2.on hb3).h 0 _ rfl)
    | (go_at_call 152; refine (must_ok 1 _).mono ?_; rintro e w4 ⟨rfl, rfl⟩; have hq1 := hqx.on hbl)
   clear x0 x1 y0
   refine wp_region_held_drew (S := (fun w'' => w''.cell? ⟨g1, 0, none⟩ = some (.bool false) ∧ w''.cell? ⟨g1, 1, none⟩ = some (.slice A1 l1.length c1) ∧ w''.cell? ⟨g2, 0, none⟩ = some (.int .i64 (m : Int)))) (by kernel_rfl) ⟨p0, p1, p2⟩ (fun hHeld => ?_)
   refine wpAnyH_take (i := 0) (v := Value.pointer (some ⟨g1, 0, none⟩)) rfl (by kernel_rfl) (by kernel_rfl) (by kernel_rfl) (fun _ _ _ h => h) (Or.inl ⟨by rfl, fun w hSw => by (try dsimp only at hSw); go_simp⟩) (by assumption) ?_
   try simp only [Act.put, List.setIfInBounds_toArray]
   refine wpAnyH_take (i := 1) (v := Value.bool false) rfl (by kernel_rfl) (by kernel_rfl) (by kernel_rfl) (fun _ _ _ h => h) (Or.inl ⟨by rfl, fun w hSw => by (try dsimp only at hSw); go_simp⟩) (by assumption) ?_
   try simp only [Act.put]
   refine wpAnyH_take (i := 2) (v := Value.bool false) rfl (by kernel_rfl) (by kernel_rfl) (by kernel_rfl) (fun _ _ _ h => h) (Or.inl ⟨by rfl, fun w hSw => by (try dsimp only at hSw); go_simp⟩) (by assumption) ?_
   try simp only [Act.put]
   refine wpAnyH_take (i := 3) (v := undef) rfl (by kernel_rfl) (by kernel_rfl) (by kernel_rfl) (fun _ _ _ h => h) (Or.inr ⟨by rfl, rfl⟩) (by assumption) ?_
   try simp only [Act.put]
   refine wpAnyH_take (i := 4) (v := undef) rfl (by kernel_rfl) (by kernel_rfl) (by kernel_rfl) (fun _ _ _ h => h) (Or.inr ⟨by rfl, rfl⟩) (by assumption) ?_
   try simp only [Act.put]
   refine wpAnyH_take (i := 5) (v := undef) rfl (by kernel_rfl) (by kernel_rfl) (by kernel_rfl) (fun _ _ _ h => h) (Or.inr ⟨by rfl, rfl⟩) (by assumption) ?_
   try simp only [Act.put]
   refine wpAnyH_take (i := 6) (v := Value.bool false) rfl (by kernel_rfl) (by kernel_rfl) (by kernel_rfl) (fun _ _ _ h => h) (Or.inl ⟨by rfl, fun w hSw => by (try dsimp only at hSw); go_simp⟩) (by assumption) ?_
   try simp only [Act.put]
   refine wpAnyH_take (i := 7) (v := Value.pointer (some ⟨g1, 1, none⟩)) rfl (by kernel_rfl) (by kernel_rfl) (by kernel_rfl) (fun _ _ _ h => h) (Or.inl ⟨by rfl, fun w hSw => by (try dsimp only at hSw); go_simp⟩) (by assumption) ?_
   try simp only [Act.put]
   refine wpAnyH_take (i := 8) (v := Value.slice A1 l1.length c1) rfl (by kernel_rfl) (by kernel_rfl) (by kernel_rfl) (fun _ _ _ h => h) (Or.inl ⟨by rfl, fun w hSw => by (try dsimp only at hSw); go_simp⟩) (by assumption) ?_
   try simp only [Act.put]
   refine wpAnyH_take (i := 9) (v := Value.int .i64 (m : Int)) rfl (by kernel_rfl) (by kernel_rfl) (by kernel_rfl) (fun _ _ _ h => h) (Or.inl ⟨by rfl, fun w hSw => by (try dsimp only at hSw); go_simp⟩) (by assumption) ?_
   try simp only [Act.put]
   refine wpAnyH_ready (rs := [10]) (by kernel_rfl) (by simp) ?_
   refine AllReadyH.cons rfl (fun K hK => ?_) AllReadyH.nil
   go_simp
   go_at_call 153; refine (hpw _ (below_drew hb3)).mono ?_; rintro e w5 ⟨-, hp, hbl5⟩; obtain rfl := hp hs
   go_wp2_with fail
   exact ⟨rfl, rfl, hb3.trans (((below_drew (Below.refl _ w4)).trans hbl5).mono hb3.size)⟩
 · skip
   go_enter Tryz.func151, Tryz.ntmps151
   go_wp2_with first
    | (go_at_call 146; refine (hf _).mono ?_; rintro e w' ⟨hp, -, hbl⟩; cases hp hok; have hb3 := (hb2 _ _).trans (hbl.mono (hb2 _ _).size); obtain ⟨p0, p1⟩ := cL2 (h1.on hb3).blk; have p2 := cell_at (h2.on hb3).h 0 _ rfl)
    | (go_at_call 152; refine (must_ok 1 _).mono ?_; rintro e w4 ⟨rfl, rfl⟩; have hq1 := hqx.on hbl)
   clear x0 x1 y0
   first
   | go_region_held2 (fun w'' => w''.cell? ⟨g1, 0, none⟩ = some (.bool true) ∧ w''.cell? ⟨g1, 1, none⟩ = some (.slice A1 l1.length c1) ∧ w''.cell? ⟨g2, 0, none⟩ = some (.int .i64 (m : Int))) ((first | exact HF.out.elim | assumption | go_keep))
    ((first
     | (go_at_call 153; refine calls_panic (c := wrong 3) (B := fun w5 => Below w.heap.size w w5) ((hpw _ (below_drew hb3)).mono (fun e w5 h => ⟨h.2.1 hs, hb3.trans (((below_drew (Below.refl _ w4)).trans h.2.2).mono hb3.size)⟩)) (fun w5 b5 => ⟨rfl, rfl, b5⟩) ?_; intro v w5 hF; have HF : Hid False := hF; obtain ⟨A5, m5, c5, rfl⟩ : ∃ A5 m5 c5, v = .slice A5 m5 c5 := hF.elim; clear hF)
     | (go_at_call 147; refine calls_false HF.out ?_; intro v w6 hF; obtain ⟨s', A', n', c', rfl⟩ : ∃ s' A' n' c', v = .agg #[.bool s', .slice A' n' c'] := hF.elim; have hq5 : Blk w6 w.heap.size #[.bool false, .slice none 0 0] 24 := hF.elim; obtain ⟨z0, z1⟩ := cL2 hq5.h; obtain ⟨u0, u1⟩ := fZ2 hq5.h; clear hF)))
   | fail
   all_goals exact HF.out.elim
theorem pow1_calls (g1 g2 : Nat) (n1 : Bool) (n : Int) (A1 : Option Addr) (c1 : Nat) (l1 : List Nat) (w : World) (h1 : IntBox w g1 n1 A1 c1 l1) (h2 : Blk w g2 #[.int .i64 n] 3) :
 Calls Tryz.prog 151 #[.pointer (some ⟨g1, 0, none⟩), .pointer (some ⟨g2, 0, none⟩)] w (PostZE (powR n1 l1 n).1 (powR n1 l1 n).2 w) := by
 unfold powR
 by_cases hok : okI n1 l1 = true
 · rw [if_pos hok]
   have k1 := okI_isInt h1.rd.words hok
   by_cases hn : 0 ≤ n ∧ n ≤ 9600
   · rw [if_pos hn]
     obtain ⟨m, rfl⟩ : ∃ m : Nat, n = (m : Int) := ⟨n.toNat, by omega⟩
     rw [Int.toNat_natCast]
     have hz := pow_z n1 l1 m
     have ha : (toZ n1 l1 ^ m).natAbs = val l1 ^ m := by rw [hz]; split <;> simp
     unfold fitZ
     rw [ha]
     by_cases hs : (lim (val l1 ^ m)).length ≤ 300
     · rw [if_pos hs]
       exact (pow1_ok g1 g2 n1 m A1 c1 l1 w h1 h2 k1 hok (by omega) _ rfl hs _ hz.symm).mono fun e w' h => .ok h
     · rw [if_neg hs]
       exact (pow1_big g1 g2 n1 m A1 c1 l1 w h1 h2 k1 hok (by omega) _ rfl (by omega)).mono fun e w' h => .no h (by decide)
   · rw [if_neg hn]
     exact (pow1_range g1 g2 n1 n A1 c1 l1 w h1 h2 hok hn).mono fun e w' h => .no h (by decide)
 · rw [if_neg hok]
   exact (pow1_bad g1 g2 n1 n A1 c1 l1 w h1 h2 (by simpa using hok)).mono fun e w' h => .no h (by decide)
theorem boxesN (w : World) (n1 : Bool) (n : Int) (A1 : Option Addr) (c1 : Nat) (l1 : List Nat) (h1 : Rd w A1 l1) (hc1 : l1.length ≤ c1) (cur : Array Value) (t : TypeId) :
 ∃ W3, (((w.alloc (.cells #[.bool n1, .slice A1 l1.length c1] 24)).alloc (.cells #[.int .i64 n] 3)).alloc (.cells cur t)) = W3 ∧ Below w.heap.size w W3 ∧
  IntBox W3 w.heap.size n1 A1 c1 l1 ∧ Blk W3 (w.heap.size + 1) #[.int .i64 n] 3 ∧ Blk W3 (w.heap.size + 1 + 1) cur t ∧ W3.heap.size = w.heap.size + 3 := by
 obtain ⟨W3, hW3⟩ : ∃ W3, (((w.alloc (.cells #[.bool n1, .slice A1 l1.length c1] 24)).alloc (.cells #[.int .i64 n] 3)).alloc (.cells cur t)) = W3 := ⟨_, rfl⟩
 have hb3 : Below w.heap.size w W3 := by rw [← hW3]; exact (((Below.refl _ w).alloc (Nat.le_refl _) _).alloc (by simp) _).alloc (by simp; omega) _
 refine ⟨W3, hW3, hb3, ?_, ?_, ?_, ?_⟩
 · exact ⟨by rw [← hW3]; exact (Below.heap_alloc _ _ _ (by simp; omega)).trans ((Below.heap_alloc _ _ _ (by simp)).trans (World.alloc_heap_new w _)), h1.on hb3, hc1⟩
 · exact ⟨by rw [← hW3]; exact (Below.heap_alloc _ _ _ (by simp)).trans (two_blk w _ _)⟩
 · exact ⟨by rw [← hW3]; have := World.alloc_heap_new ((w.alloc (.cells #[.bool n1, .slice A1 l1.length c1] 24)).alloc (.cells #[.int .i64 n] 3)) (.cells cur t); rwa [World.size_alloc, World.size_alloc] at this⟩
 · rw [← hW3]; simp
theorem Pow_calls (n1 : Bool) (n : Int) (A1 : Option Addr) (c1 : Nat) (l1 : List Nat) (w : World) (h1 : Rd w A1 l1) (hc1 : l1.length ≤ c1) :
 Calls Tryz.prog 82 #[iv n1 A1 l1.length c1, .int .i64 n] w (RetZE (powR n1 l1 n).1 (powR n1 l1 n).2 w) := by
 have hmf := mkf
 obtain ⟨W3, hW3, hb3, B1, B2, hR, hsz⟩ := boxesN w n1 n A1 c1 l1 h1 hc1 #[.bool false, .slice none 0 0] 24
 have hB4 : ∀ o o', Below W3.heap.size W3 ((W3.alloc o).alloc o') := fun o o' => ((Below.refl _ W3).alloc (Nat.le_refl _) _).alloc (by simp) _
 have ht := try_int 151 #[.pointer (some ⟨w.heap.size, 0, none⟩), .pointer (some ⟨w.heap.size + 1, 0, none⟩)] (enters_of Tryz.func151 (by kernel_rfl) rfl) W3 _ _ (pow1_calls _ _ n1 n A1 c1 l1 _ (B1.on (hB4 _ _)) (B2.on (hB4 _ _))) (powR_zero n1 l1 n)
 generalize (powR n1 l1 n).1 = z at *
 generalize (powR n1 l1 n).2 = er at *
 clear hsz
 go_enter Tryz.func82, Tryz.ntmps82
 go_wp2_with (go_at_call 144; refine ht.mono ?_; rintro e w' ⟨s, A, c, l, rfl, hz, hc, hr, hb⟩; have hq := hR.on hb; obtain ⟨z0, z1⟩ := cL2 hq.h; obtain ⟨u0, u1⟩ := fZ2 hq.h)
 exact ret_cell_tmp (x := .bool s) (y := .slice A l.length c) rfl rfl rfl (set_blk (set_blk hq.h 0 _) 1 _) ⟨s, A, c, l, rfl, hz, hc, rd_sets hr hq _ _, ((hb3.trans (hb.mono hb3.size)).setCell (by dsimp only; omega) _).setCell (by dsimp only; omega) _⟩
end Nm
end Go.Proofs.YtjghnghceeijeaaGreatDoor
