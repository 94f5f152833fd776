/-
  Contracts of the walks below.
-/
import Derived.Test.YtjghnghceeijeaaGreatDoorDb9
import Derived.Laws.ResultCell
set_option maxRecDepth 100000
set_option maxHeartbeats 4000000
set_option linter.unusedVariables false
set_option linter.unusedSimpArgs false
namespace Go.Proofs.YtjghnghceeijeaaGreatDoor
namespace Nm
open Go.RowKit Go.Shelf Go.BigFrame
attribute [local go_sem] Oper.semAt_some
structure IsZ (s : Bool) (l : List Nat) (z : Int) : Prop where
 sgn : s = decide (z < 0)
 abs : l = lim z.natAbs
theorem IsZ.canon {s : Bool} {l : List Nat} {z : Int} (h : IsZ s l z) : Canon l := by rw [h.abs]; exact canon_lim _
theorem IsZ.val {s : Bool} {l : List Nat} {z : Int} (h : IsZ s l z) : val l = z.natAbs := by rw [h.abs, val_lim]
theorem IsZ.toZ {s : Bool} {l : List Nat} {z : Int} (h : IsZ s l z) : toZ s l = z := by
 unfold Nm.toZ
 rw [h.val, h.sgn]
 by_cases hz : z < 0
 · simp [hz]; omega
 · simp [hz]; omega
theorem IsZ.sign {s : Bool} {l : List Nat} {z : Int} (h : IsZ s l z) (hs : s = true) : l ≠ [] := by
 rw [h.sgn, decide_eq_true_eq] at hs
 rw [h.abs]
 intro h0
 rw [lim_nil] at h0
 omega
theorem IsInt.isZ {s : Bool} {l : List Nat} (h : IsInt s l) : IsZ s l (toZ s l) := by
 unfold toZ
 constructor
 · cases s
   · simp <;> omega
   · have := val_pos_of_canon h.canon (h.sign rfl)
     simp <;> omega
 · rw [show (if s = true then -(Nm.val l : Int) else (Nm.val l : Int)).natAbs = Nm.val l from by split <;> omega, lim_val h.canon]
theorem isZ_zero : IsZ false [] 0 := ⟨rfl, by simp [lim_zero]⟩
theorem isZ_nat (n : Nat) : IsZ false (lim n) n := ⟨by simp <;> omega, by simp⟩
theorem isZ_of (s : Bool) (n : Nat) : IsZ (s && n != 0) (lim n) (if s then -(n : Int) else n) := by
 constructor
 · cases s
   · simp <;> omega
   · by_cases h : n = 0
     · subst h; rfl
     · have h1 : (n != 0) = true := by simpa using h
       rw [h1, Bool.true_and, if_pos rfl]
       exact (decide_eq_true (show -(n : Int) < 0 by omega)).symm
 · rw [show (if s = true then -(n : Int) else (n : Int)).natAbs = n from by split <;> omega]
theorem okI_of {s : Bool} {l : List Nat} {z : Int} (h : IsZ s l z) (hl : l.length ≤ 300) : okI s l = true := by
 unfold okI
 by_cases h0 : l.length = 0
 · rw [if_pos h0]
   cases s
   · rfl
   · exact absurd (List.length_eq_zero_iff.1 h0) (h.sign rfl)
 · rw [if_neg h0]
   have hne : l ≠ [] := fun e => h0 (by rw [e]; rfl)
   have ht : l.getD (l.length - 1) 0 = l.getLast hne := by rw [List.getLast_eq_getElem, List.getD_eq_getElem?_getD, List.getElem?_eq_getElem (by omega)]; rfl
   rw [ht]
   simp [hl, h.canon.2 hne]
theorem addS_z (s1 s2 : Bool) (a b : Nat) : IsZ ((addS s1 a s2 b).1 && (addS s1 a s2 b).2 != 0) (lim (addS s1 a s2 b).2) ((if s1 then -(a : Int) else a) + (if s2 then -(b : Int) else b)) := by
 have := isZ_of (addS s1 a s2 b).1 (addS s1 a s2 b).2
 rwa [show (if (addS s1 a s2 b).1 = true then -((addS s1 a s2 b).2 : Int) else ((addS s1 a s2 b).2 : Int)) = (if s1 then -(a : Int) else a) + (if s2 then -(b : Int) else b) from by
  unfold addS
  cases s1 <;> cases s2 <;> simp <;> (try split) <;> (try simp) <;> omega] at this
def fitZ (z : Int) : Int × Int := if (lim z.natAbs).length ≤ 300 then (z, 0) else (0, 3)
def addR (n1 : Bool) (l1 : List Nat) (n2 : Bool) (l2 : List Nat) : Int × Int := if (okI n1 l1 && okI n2 l2) = true then fitZ (toZ n1 l1 + toZ n2 l2) else (0, 1)
def subR (n1 : Bool) (l1 : List Nat) (n2 : Bool) (l2 : List Nat) : Int × Int := if (okI n1 l1 && okI n2 l2) = true then fitZ (toZ n1 l1 - toZ n2 l2) else (0, 1)
def mulR (n1 : Bool) (l1 : List Nat) (n2 : Bool) (l2 : List Nat) : Int × Int := if (okI n1 l1 && okI n2 l2) = true then fitZ (toZ n1 l1 * toZ n2 l2) else (0, 1)
def RetZ (z : Int) (w : World) (e : Ending) (w' : World) : Prop :=
 ∃ s A c l, e = .returned (iv s A l.length c) ∧ IsZ s l z ∧ l.length ≤ c ∧ Rd w' A l ∧ Below w.heap.size w w'
def RetZE (z er : Int) (w : World) (e : Ending) (w' : World) : Prop :=
 ∃ s A c l, e = .returned (.tuple #[iv s A l.length c, .int .i64 er]) ∧ IsZ s l z ∧ l.length ≤ c ∧ Rd w' A l ∧ Below w.heap.size w w'
def PostZE (z er : Int) (w : World) (e : Ending) (w' : World) : Prop :=
 (er = 0 → RetZ z w e w') ∧ (er ≠ 0 → e = .panicked (wrong er) ∧ z = 0 ∧ Below w.heap.size w w')
theorem PostZE.ok {z : Int} {w : World} {e : Ending} {w' : World} (h : RetZ z w e w') : PostZE z 0 w e w' := ⟨fun _ => h, fun h => absurd rfl h⟩
theorem PostZE.no {er : Int} {w : World} {e : Ending} {w' : World} (h : e = .panicked (wrong er) ∧ Below w.heap.size w w') (hn : er ≠ 0) : PostZE 0 er w e w' := ⟨fun h => absurd h hn, fun _ => ⟨h.1, rfl, h.2⟩⟩
theorem RetInt.z {s : Bool} {n : Nat} {z : Int} {w : World} {e : Ending} {w' : World} (h : RetInt s n w e w') (hz : IsZ s (lim n) z) : RetZ z w e w' := by
 obtain ⟨A, c, rfl, h1, h2, h3⟩ := h
 exact ⟨s, A, c, lim n, rfl, hz, h1, h2, h3⟩
theorem try_int (G : Nat) (caps : Array Value) (hG : ∀ (args : Array Value) (w : World), (callFunc G args).run Tryz.prog w = .ok (.enter G args) w) (w : World) (z er : Int)
 (h : Calls Tryz.prog G caps ((w.alloc (.cells #[.bool false, .slice none 0 0] 24)).alloc (.cells #[.int .i64 0] 30)) (PostZE z er ((w.alloc (.cells #[.bool false, .slice none 0 0] 24)).alloc (.cells #[.int .i64 0] 30)))) (hz : er ≠ 0 → z = 0) :
 Calls Tryz.prog 144 #[.func (.func G) #[] caps] w (RetZE z er w) := by
 by_cases h0 : er = 0
 · subst h0
   refine (try_int_ok G caps hG w _ rfl (fun s A n c w1 => ∃ l, n = l.length ∧ IsZ s l z ∧ l.length ≤ c ∧ Rd w1 A l) (h.mono ?_)).mono ?_
   · rintro e w' ⟨h1, -⟩
     obtain ⟨s, A, c, l, rfl, h2, h3, h4, h5⟩ := h1 rfl
     exact ⟨s, A, l.length, c, rfl, ⟨l, rfl, h2, h3, h4⟩, h5⟩
   · rintro e w' ⟨s, A, n, c, w1, ⟨l, rfl, h2, h3, h4⟩, h5, h6, rfl⟩
     exact ⟨s, A, c, l, rfl, h2, h3, h6 _ _ h4, h5⟩
 · obtain rfl := hz h0
   refine (try_int_wrong G caps hG w _ rfl er (h.mono ?_)).mono ?_
   · rintro e w' ⟨-, h1⟩
     obtain ⟨h2, -, h3⟩ := h1 h0
     exact ⟨h2, h3⟩
   · rintro e w' ⟨h1, rfl⟩
     exact ⟨false, none, 0, [], rfl, isZ_zero, Nat.le_refl _, Rd.nil _ _, h1⟩
theorem add1_calls (g1 g2 : Nat) (n1 n2 : Bool) (A1 A2 : Option Addr) (c1 c2 : Nat) (l1 l2 : List Nat) (w : World) (h1 : IntBox w g1 n1 A1 c1 l1) (h2 : IntBox w g2 n2 A2 c2 l2) :
 Calls Tryz.prog 145 #[.pointer (some ⟨g1, 0, none⟩), .pointer (some ⟨g2, 0, none⟩)] w (PostZE (addR n1 l1 n2 l2).1 (addR n1 l1 n2 l2).2 w) := by
 unfold addR
 by_cases hok : (okI n1 l1 && okI n2 l2) = true
 · rw [if_pos hok]
   have hok' := hok
   rw [Bool.and_eq_true] at hok'
   have k1 := okI_isInt h1.rd.words hok'.1
   have k2 := okI_isInt h2.rd.words hok'.2
   have hz := addS_z n1 n2 (val l1) (val l2)
   have hz' : toZ n1 l1 + toZ n2 l2 = (if n1 then -(val l1 : Int) else val l1) + (if n2 then -(val l2 : Int) else val l2) := rfl
   rw [← hz'] at hz
   unfold fitZ
   have ha := hz.abs
   rw [← ha]
   by_cases hs : (lim (addS n1 (val l1) n2 (val l2)).2).length ≤ 300
   · rw [if_pos hs]
     exact (add1_ok g1 g2 n1 n2 A1 A2 c1 c2 l1 l2 w h1 h2 k1 k2 hok hs).mono fun e w' h => .ok (h.z hz)
   · rw [if_neg hs]
     exact (add1_big g1 g2 n1 n2 A1 A2 c1 c2 l1 l2 w h1 h2 k1 k2 hok (by omega)).mono fun e w' h => .no h (by decide)
 · rw [if_neg hok]
   exact (add1_bad g1 g2 n1 n2 A1 A2 c1 c2 l1 l2 w h1 h2 (by simpa using hok)).mono fun e w' h => .no h (by decide)
theorem fit_zero (z : Int) : (fitZ z).2 ≠ 0 → (fitZ z).1 = 0 := by
 unfold fitZ
 split <;> simp
theorem addR_zero (n1 : Bool) (l1 : List Nat) (n2 : Bool) (l2 : List Nat) : (addR n1 l1 n2 l2).2 ≠ 0 → (addR n1 l1 n2 l2).1 = 0 := by
 unfold addR
 split
 · exact fit_zero _
 · simp
theorem subR_zero (n1 : Bool) (l1 : List Nat) (n2 : Bool) (l2 : List Nat) : (subR n1 l1 n2 l2).2 ≠ 0 → (subR n1 l1 n2 l2).1 = 0 := by
 unfold subR
 split
 · exact fit_zero _
 · simp
theorem mulR_zero (n1 : Bool) (l1 : List Nat) (n2 : Bool) (l2 : List Nat) : (mulR n1 l1 n2 l2).2 ≠ 0 → (mulR n1 l1 n2 l2).1 = 0 := by
 unfold mulR
 split
 · exact fit_zero _
 · simp
theorem ret_cell_tmp {fn : Func} {p u : Tmp} (h : fn.results = #[.cell p 24, .tmp u]) {a : Act} {w : World} {g : Nat} {x y : Value} {R : Ending → World → Prop} (hd0 : a.defers = []) (hp : a.tmps.getD p undef = .pointer (some ⟨g, 0, none⟩))
 (hg : w.heap[g]? = some (.cells #[x, y] 24 (0, 0))) (hR : R (.returned (.tuple #[.agg #[x, y], a.tmps.getD u undef])) w) : bodyPost Tryz.prog fn R .ret a w := by
 refine bodyPost_ret (v := .tuple #[.agg #[x, y], a.tmps.getD u undef]) ?_ hd0 hR
 rw [results_cell_tmp h, hp]
 simp [asAddr, Result.andThen, run_loadVar_row w g 24 24 #[x, y] (0, 0) _ hg Tryz.underlying24 rfl int_size]
theorem Add_calls (n1 n2 : Bool) (A1 A2 : Option Addr) (c1 c2 : Nat) (l1 l2 : List Nat) (w : World) (h1 : Rd w A1 l1) (h2 : Rd w A2 l2) (hc1 : l1.length ≤ c1) (hc2 : l2.length ≤ c2) :
 Calls Tryz.prog 71 #[iv n1 A1 l1.length c1, iv n2 A2 l2.length c2] w (RetZE (addR n1 l1 n2 l2).1 (addR n1 l1 n2 l2).2 w) := by
 have hmf := mkf
 obtain ⟨W3, hW3⟩ : ∃ W3, (((w.alloc (.cells #[.bool n1, .slice A1 l1.length c1] 24)).alloc (.cells #[.bool n2, .slice A2 l2.length c2] 24)).alloc (.cells #[.bool false, .slice none 0 0] 24)) = W3 := ⟨_, rfl⟩
 have hb3 : Below w.heap.size w W3 := by rw [← hW3]; exact (((Below.refl _ w).alloc (Nat.le_refl _) _).alloc (by simp) _).alloc (by simp; omega) _
 have hB1 : IntBox W3 w.heap.size n1 A1 c1 l1 := ⟨by rw [← hW3]; exact (Below.heap_alloc _ _ _ (by simp; omega)).trans ((Below.heap_alloc _ _ _ (by simp)).trans (World.alloc_heap_new w _)), h1.on hb3, hc1⟩
 have hB2 : IntBox W3 (w.heap.size + 1) n2 A2 c2 l2 := ⟨by rw [← hW3]; exact (Below.heap_alloc _ _ _ (by simp)).trans (two_blk w _ _), h2.on hb3, hc2⟩
 have hR : Blk W3 (w.heap.size + 1 + 1) #[.bool false, .slice none 0 0] 24 := ⟨by rw [← hW3]; have := World.alloc_heap_new ((w.alloc (.cells #[.bool n1, .slice A1 l1.length c1] 24)).alloc (.cells #[.bool n2, .slice A2 l2.length c2] 24)) (.cells #[.bool false, .slice none 0 0] 24); rwa [World.size_alloc, World.size_alloc] at this⟩
 have hB4 : ∀ o o', Below W3.heap.size W3 ((W3.alloc o).alloc o') := fun o o' => ((Below.refl _ W3).alloc (Nat.le_refl _) _).alloc (by simp) _
 have ht := try_int 145 #[.pointer (some ⟨w.heap.size, 0, none⟩), .pointer (some ⟨w.heap.size + 1, 0, none⟩)] (enters_of Tryz.func145 (by kernel_rfl) rfl) W3 _ _ (add1_calls _ _ n1 n2 A1 A2 c1 c2 l1 l2 _ (hB1.on (hB4 _ _)) (hB2.on (hB4 _ _))) (addR_zero n1 l1 n2 l2)
 generalize (addR n1 l1 n2 l2).1 = z at *
 generalize (addR n1 l1 n2 l2).2 = er at *
 go_enter Tryz.func71, Tryz.ntmps71
 go_wp2_with (go_at_call 144; refine ht.mono ?_; rintro e w' ⟨s, A, c, l, rfl, hz, hc, hr, hb⟩; have hq := hR.on hb; obtain ⟨z0, z1⟩ := cL2 hq.h; obtain ⟨u0, u1⟩ := fZ2 hq.h)
 exact ret_cell_tmp (x := .bool s) (y := .slice A l.length c) rfl rfl rfl (set_blk (set_blk hq.h 0 _) 1 _) ⟨s, A, c, l, rfl, hz, hc, rd_sets hr hq _ _, ((hb3.trans (hb.mono hb3.size)).setCell (by dsimp only; omega) _).setCell (by dsimp only; omega) _⟩
set_option maxHeartbeats 1000000 in
theorem Formed_calls (neg : Bool) (A : Option Addr) (c : Nat) (l : List Nat) (w : World) (hA : Rd w A l) (hc : l.length ≤ c) :
 Calls Tryz.prog 70 #[iv neg A l.length c] w fun e w' => e = .returned (.bool (okI neg l)) ∧ Below w.heap.size w w' := by
 have hs := hA.small
 by_cases h300 : 300 < l.length
 · have hk : okI neg l = false := by unfold okI; rw [if_neg (by omega), show decide (l.length ≤ 300) = false from decide_eq_false (by omega)]; rfl
   rw [hk]
   clear hk
   have h0' : ((l.length : Int) == 0) = false := by rw [beq_eq_false_iff_ne]; omega
   have h3' : decide ((l.length : Int) ≤ 300) = false := decide_eq_false (by omega)
   go_enter Tryz.func70, Tryz.ntmps70
   go_wp2
   go_ret
   exact ⟨rfl, (Below.refl _ _).alloc (Nat.le_refl _) _⟩
 · by_cases h0 : l.length = 0
   · obtain rfl : l = [] := List.length_eq_zero_iff.1 h0
     have hk : okI neg [] = !neg := rfl
     rw [hk]
     clear hk
     cases neg
     all_goals
      go_enter Tryz.func70, Tryz.ntmps70
      go_wp2
      go_ret
      exact ⟨rfl, (Below.refl _ _).alloc (Nat.le_refl _) _⟩
   · obtain ⟨b, o, x, rfl, hcx, hx, hxb⟩ := hA.get (l.length - 1) (by omega)
     have hbl : b < w.heap.size := World.block_lt_of_cell? w _ hcx
     have h0' : ((l.length : Int) == 0) = false := by rw [beq_eq_false_iff_ne]; omega
     have hp : 0 < l.length := by omega
     have hk : okI neg l = (x != 0) := by unfold okI; rw [if_neg h0, hx.out, show decide (l.length ≤ 300) = true from decide_eq_true (by omega)]; rfl
     have h300' : decide ((l.length : Int) ≤ 300) = true := decide_eq_true (by omega)
     rw [hk]
     clear hk h0
     have hx0 : ((x : Int) != 0) = (x != 0) := by rw [Bool.eq_iff_iff]; simp
     go_enter Tryz.func70, Tryz.ntmps70
     go_wp2
     go_ret
     exact ⟨rfl, (Below.refl _ _).alloc (Nat.le_refl _) _⟩
def sameI (n1 : Bool) (l1 : List Nat) (n2 : Bool) (l2 : List Nat) : Bool := n1 == n2 && l1 == l2
theorem two_on {w : World} {A : Option Addr} {l : List Nat} (h : Rd w A l) (a b : Obj) : Rd ((w.alloc a).alloc b) A l := h.on (((Below.refl _ w).alloc (Nat.le_refl _) _).alloc (by simp) _)
theorem Same_calls (n1 n2 : Bool) (A1 A2 : Option Addr) (c1 c2 : Nat) (l1 l2 : List Nat) (w : World) (h1 : Rd w A1 l1) (h2 : Rd w A2 l2) (_hc1 : l1.length ≤ c1) (hc2 : l2.length ≤ c2) :
 Calls Tryz.prog 67 #[iv n1 A1 l1.length c1, iv n2 A2 l2.length c2] w fun e w' => e = .returned (.bool (sameI n1 l1 n2 l2)) ∧ Below w.heap.size w w' := by
 have hs1 := h1.small
 have hs2 := h2.small
 by_cases hn : n1 = n2
 · by_cases hl : l1.length = l2.length
   · subst hn
     have hne : (n1 != n1) = false := by simp
     rw [← hl]
     have hc2' : l1.length ≤ c2 := by omega
     have H := Lib.hid hl
     have hne0 : ((l1.length : Int) != (l1.length : Int)) = false := by simp
     clear hl hc2 hs2
     have g1 : Rd ((w.alloc (.cells #[.bool n1, .slice A1 l1.length c1] 24)).alloc (.cells #[.bool n1, .slice A2 l1.length c2] 24)) A1 l1 := two_on h1 _ _
     have g2 : Rd ((w.alloc (.cells #[.bool n1, .slice A1 l1.length c1] 24)).alloc (.cells #[.bool n1, .slice A2 l1.length c2] 24)) A2 l2 := two_on h2 _ _
     have b1 : Blk ((w.alloc (.cells #[.bool n1, .slice A1 l1.length c1] 24)).alloc (.cells #[.bool n1, .slice A2 l1.length c2] 24)) w.heap.size #[.bool n1, .slice A1 l1.length c1] 24 := two_old w _ _ rfl
     have b2 : Blk ((w.alloc (.cells #[.bool n1, .slice A1 l1.length c1] 24)).alloc (.cells #[.bool n1, .slice A2 l1.length c2] 24)) (w.heap.size + 1) #[.bool n1, .slice A2 l1.length c2] 24 := ⟨two_blk w _ _⟩
     have hB : ∀ a b, Below w.heap.size w ((w.alloc a).alloc b) := fun a b => ((Below.refl _ w).alloc (Nat.le_refl _) _).alloc (by simp) _
     have hBB := hB (.cells #[.bool n1, .slice A1 l1.length c1] 24) (.cells #[.bool n1, .slice A2 l1.length c2] 24)
     go_enter Tryz.func67, Tryz.ntmps67
     go_wp2
     generalize ((w.alloc (.cells #[.bool n1, .slice A1 l1.length c1] 24)).alloc (.cells #[.bool n1, .slice A2 l1.length c2] 24)) = V at *
     have x0 := cell_at b1.h 1 _ rfl
     have y0 := cell_at b2.h 1 _ rfl
     go_loopw [5] (fun i w' => ∃ k : Nat, k ≤ l1.length ∧ i = .int .i64 (k : Int) ∧ (∃ n, w' = V.drewN n) ∧ Hid (l1.take k = l2.take k)) (fun i _ => l1.length - (intOf i).toNat)
     case atStart => exact ⟨0, Nat.zero_le _, rfl, ⟨0, rfl⟩, rfl⟩
     case round =>
      obtain ⟨k, hk, rfl, ⟨n0, rfl⟩, hd⟩ := hrel
      by_cases h0 : k < l1.length
      · obtain ⟨b1', o1, x, rfl, hcx, hx, hxb⟩ := g1.get k h0
        obtain ⟨b2', o2, y, rfl, hcy, hy, hyb⟩ := g2.get k (by have := H.out; omega)
        have hlt : ((k : Int) < (l1.length : Int)) ↔ True := by rw [iff_true]; omega
        by_cases hxy : x = y
        · subst hxy
          have hne : ((x : Int) != (x : Int)) = false := by simp
          go_wp2
          go_quiet (fail)
          go_wp2
          go_roundw
          case rel =>
           refine ⟨k + 1, by omega, rfl, ⟨_, rfl⟩, ?_⟩
           show _ = _
           have hx' := hx.out
           have hy' := hy.out
           rw [List.getD_eq_getElem?_getD, List.getElem?_eq_getElem (by omega)] at hx'
           rw [List.getD_eq_getElem?_getD, List.getElem?_eq_getElem (by have := H.out; omega)] at hy'
           rw [List.take_succ_eq_append_getElem (by omega), List.take_succ_eq_append_getElem (by have := H.out; omega), hd.out]
           rw [show l1[k] = x by simpa using hx', show l2[k] = x by simpa using hy']
          case measure => simp [intOf]; omega
        · have hne : ((x : Int) != (y : Int)) = true := by rw [bne_iff_ne]; omega
          go_wp2
          go_quiet (fail)
          go_wp2
          go_ret
          have hf : sameI n1 l1 n1 l2 = false := by
           unfold sameI
           rw [Bool.and_eq_false_iff]
           right
           rw [beq_eq_false_iff_ne]
           rintro rfl
           exact hxy (hx.out.symm.trans hy.out)
          rw [hf]
          exact ⟨rfl, below_drewN (below_drewN hBB _) _⟩
      · have hlt : ((k : Int) < (l1.length : Int)) ↔ False := by rw [iff_false]; omega
        go_wp2
        go_ret
        have e : l1 = l2 := by
         have := hd.out
         rwa [List.take_of_length_le (by omega), List.take_of_length_le (by have := H.out; omega)] at this
        have hf : sameI n1 l1 n1 l2 = true := by
         unfold sameI
         rw [e]
         simp
        rw [hf]
        exact ⟨rfl, below_drewN hBB _⟩
   · have hf : sameI n1 l1 n2 l2 = false := by
      unfold sameI
      rw [Bool.and_eq_false_iff]
      right
      rw [beq_eq_false_iff_ne]
      rintro rfl
      exact hl rfl
     rw [hf]
     have hne : ((l1.length : Int) != (l2.length : Int)) = true := by rw [bne_iff_ne]; omega
     subst hn
     have hne' : (n1 != n1) = false := by simp
     clear hl hf
     go_enter Tryz.func67, Tryz.ntmps67
     go_wp2
     go_ret
     exact ⟨rfl, ((Below.refl _ w).alloc (Nat.le_refl _) _).alloc (by simp) _⟩
 · have hf : sameI n1 l1 n2 l2 = false := by
    unfold sameI
    rw [Bool.and_eq_false_iff]
    left
    rw [beq_eq_false_iff_ne]
    exact hn
   rw [hf]
   have hne : (n1 == n2) = false := by rw [beq_eq_false_iff_ne]; exact hn
   clear hn hf
   go_enter Tryz.func67, Tryz.ntmps67
   go_wp2
   go_ret
   exact ⟨rfl, ((Below.refl _ w).alloc (Nat.le_refl _) _).alloc (by simp) _⟩
set_option maxHeartbeats 1000000 in
theorem larger_ne (A1 A2 : Option Addr) (c1 c2 : Nat) (l1 l2 : List Nat) (w : World) (h : l1.length ≠ l2.length) :
 Calls Tryz.prog 123 #[.slice A1 l1.length c1, .slice A2 l2.length c2] w fun e w' => e = .returned (.int .i64 (cmpZ l1.length l2.length)) ∧ ∃ n, w' = w.drewN n := by
 have h' : ((l1.length : Int) != (l2.length : Int)) = true := by rw [bne_iff_ne]; omega
 by_cases hl : (l1.length : Int) < (l2.length : Int)
 · rw [show cmpZ l1.length l2.length = -1 from if_pos hl]
   clear h
   go_enter Tryz.func123, Tryz.ntmps123
   go_wp2
   go_ret
   exact ⟨rfl, 0, rfl⟩
 · rw [show cmpZ l1.length l2.length = 1 from by unfold cmpZ; rw [if_neg hl, if_pos (by omega)]]
   clear h
   go_enter Tryz.func123, Tryz.ntmps123
   go_wp2
   go_ret
   exact ⟨rfl, 0, rfl⟩
theorem larger_eq (A1 A2 : Option Addr) (c1 c2 : Nat) (l1 l2 : List Nat) (w : World) (h1 : Rd w A1 l1) (h2 : Rd w A2 l2) (_hc1 : l1.length ≤ c1) (hc2 : l2.length ≤ c2) (h : l1.length = l2.length) :
 Calls Tryz.prog 123 #[.slice A1 l1.length c1, .slice A2 l2.length c2] w fun e w' => e = .returned (.int .i64 (cmpZ (val l1) (val l2))) ∧ ∃ n, w' = w.drewN n := by
 have hs := h1.small
 rw [← h]
 have hc2' : l1.length ≤ c2 := by omega
 have H := Lib.hid h
 have hne0 : ((l1.length : Int) != (l1.length : Int)) = false := by simp
 clear h hc2
 go_enter Tryz.func123, Tryz.ntmps123
 go_wp2
 go_loopw [5] (fun i w' => ∃ k : Nat, k ≤ l1.length ∧ i = .int .i64 ((k : Int) - 1) ∧ (∃ n, w' = w.drewN n) ∧ Hid (l1.drop k = l2.drop k)) (fun i _ => (intOf i + 1).toNat)
 case atStart => exact ⟨l1.length, Nat.le_refl _, rfl, ⟨0, rfl⟩, by show _ = _; rw [List.drop_of_length_le (Nat.le_refl _), List.drop_of_length_le (by have := H.out; omega)]⟩
 case round =>
  obtain ⟨k, hk, rfl, ⟨n0, rfl⟩, hd⟩ := hrel
  by_cases h0 : 0 < k
  · obtain ⟨k, rfl⟩ : ∃ j, k = j + 1 := ⟨k - 1, by omega⟩
    obtain ⟨b1, o1, x, rfl, hcx, hx, hxb⟩ := h1.get k (by omega)
    obtain ⟨b2, o2, y, rfl, hcy, hy, hyb⟩ := h2.get k (by have := H.out; omega)
    rw [show ((k + 1 : Nat) : Int) - 1 = (k : Int) by omega]
    clear h0
    by_cases hxy : x = y
    · subst hxy
      have hne : ((x : Int) < (x : Int)) ↔ False := by simp
      go_wp2
      go_quiet (fail)
      go_wp2
      go_quiet (fail)
      go_wp2
      go_roundw
      case rel =>
       refine ⟨k, by omega, rfl, ⟨_, rfl⟩, ?_⟩
       show _ = _
       have e1 : l1.drop k = x :: l1.drop (k + 1) := by
        have := hx.out
        rw [List.getD_eq_getElem?_getD, List.getElem?_eq_getElem (by omega)] at this
        rw [List.drop_eq_getElem_cons (by omega)]; rw [show l1[k] = x by simpa using this]
       have e2 : l2.drop k = x :: l2.drop (k + 1) := by
        have := hy.out
        rw [List.getD_eq_getElem?_getD, List.getElem?_eq_getElem (by have := H.out; omega)] at this
        rw [List.drop_eq_getElem_cons (by have := H.out; omega)]; rw [show l2[k] = x by simpa using this]
       rw [e1, e2, hd.out]
      case measure => simp [intOf]
    · have hl := H.out
      by_cases hlt' : x < y
      · have hlt : ((x : Int) < (y : Int)) ↔ True := by rw [iff_true]; omega
        have hf : cmpZ (val l1) (val l2) = -1 := by
         have := val_drop_lt h1.words h2.words H.out (k := k) (by omega) hd.out (by rw [hx.out, hy.out]; exact hlt')
         exact if_pos (by omega)
        have Hf := Lib.hid hf
        clear hlt' hf hxy hl
        go_wp2
        go_quiet (fail)
        go_wp2
        go_ret
        exact ⟨ret_int Hf.out.symm, _, by rw [World.drewN_drewN]⟩
      · have hlt : ((x : Int) < (y : Int)) ↔ False := by rw [iff_false]; omega
        have hgt : ((y : Int) < (x : Int)) ↔ True := by rw [iff_true]; omega
        have hf : cmpZ (val l1) (val l2) = 1 := by
         have := val_drop_lt h2.words h1.words H.out.symm (k := k) (by omega) hd.out.symm (by rw [hx.out, hy.out]; omega)
         unfold cmpZ
         rw [if_neg (by omega), if_pos (by omega)]
        have Hf := Lib.hid hf
        clear hlt' hf hxy hl
        go_wp2
        go_quiet (fail)
        go_wp2
        go_quiet (fail)
        go_wp2
        go_ret
        exact ⟨ret_int Hf.out.symm, _, by rw [World.drewN_drewN, World.drewN_drewN]⟩
  · obtain rfl : k = 0 := by omega
    go_wp2
    go_ret
    have e : l1 = l2 := by simpa using hd.out
    exact ⟨ret_int (by rw [e]; simp [cmpZ]), n0, rfl⟩
theorem larger_calls (A1 A2 : Option Addr) (c1 c2 : Nat) (l1 l2 : List Nat) (w : World) (h1 : Rd w A1 l1) (h2 : Rd w A2 l2) (hc1 : l1.length ≤ c1) (hc2 : l2.length ≤ c2) (k1 : Canon l1) (k2 : Canon l2) :
 Calls Tryz.prog 123 #[.slice A1 l1.length c1, .slice A2 l2.length c2] w fun e w' => e = .returned (.int .i64 (cmpZ (val l1) (val l2))) ∧ ∃ n, w' = w.drewN n := by
 by_cases h : l1.length = l2.length
 · exact larger_eq A1 A2 c1 c2 l1 l2 w h1 h2 hc1 hc2 h
 · refine (larger_ne A1 A2 c1 c2 l1 l2 w h).mono ?_
   rintro e w' ⟨rfl, h'⟩
   refine ⟨ret_int ?_, h'⟩
   unfold cmpZ
   rcases Nat.lt_or_gt_of_ne h with hlt | hgt
   · have := val_lt_of_length k1.1 k2 hlt
     rw [if_pos (by omega), if_pos (by omega)]
   · have := val_lt_of_length k2.1 k1 hgt
     rw [if_neg (by omega), if_pos (by omega), if_neg (by omega), if_pos (by omega)]
end Nm
end Go.Proofs.YtjghnghceeijeaaGreatDoor
namespace Go
variable {P : Program}
end Go
namespace Go.Proofs.YtjghnghceeijeaaGreatDoor
namespace Nm
open Go.RowKit Go.Shelf Go.BigFrame
attribute [local go_sem] Oper.semAt_some
theorem rd_news' {w : World} {ad : Addr} {l : List Nat} (h : Rd w (some ad) l) : ∀ j u, (wvals l)[j]? = some u → w.cell? (ad.add j) = some u := by
 rcases Nat.eq_zero_or_pos l.length with h0 | h0
 · obtain rfl : l = [] := List.length_eq_zero_iff.1 h0
   intro j u hu
   simp [wvals] at hu
 · obtain ⟨b, o, e⟩ := h.head h0
   cases e
   exact rd_news h
theorem made_fin {neg : Bool} {k : Nat} {l : List Nat} (hk : k ≤ l.length) (ht : trim l = l.take k) : IsZ (neg && decide ((0 : Int) < (k : Int))) (l.take k) (if neg then -(val l : Int) else val l) := by
 have h := isZ_of neg (val l)
 have hl : (lim (val l)).length = k := by
  have : (trim l).length = k := by rw [ht, List.length_take]; omega
  exact this
 have e : (val l != 0) = decide ((0 : Int) < (k : Int)) := by
  rcases Nat.eq_zero_or_pos (val l) with h0 | h0
  · rw [h0, lim_zero] at hl
    rw [h0, ← hl]
    rfl
  · have := lim_length_pos h0
    rw [show (val l != 0) = true by simp; omega]
    exact (decide_eq_true (by omega)).symm
 rw [← e, ← ht]
 exact h
theorem made_calls (neg : Bool) (A : Option Addr) (c : Nat) (l : List Nat) (w : World) (hA : Rd w A l) (hl : l.length ≤ c) :
 Calls Tryz.prog 118 #[.bool neg, .slice A l.length c] w (RetZ (if neg then -(val l : Int) else val l) w) := by
 have hfin := fun k hk ht => made_fin (neg := neg) (k := k) (l := l) hk ht
 generalize (if neg = true then -(val l : Int) else (val l : Int)) = z at *
 have hs := hA.small
 have hb : ∀ o, Below w.heap.size w (w.alloc o) := fun o => (Below.refl _ _).alloc (Nat.le_refl _) _
 obtain ⟨i0, hi, hz0, hz1, hz2⟩ := info_parts info_u32
 have hbt : Tryz.prog.underlying 22 = some (.slice 127) := by kernel_rfl
 obtain ⟨W, hW⟩ : ∃ W, w.alloc (.cells #[.bool false, .slice none 0 0] 24) = W := ⟨_, rfl⟩
 have hrw : Rd W A l := by rw [← hW]; exact hA.on (hb _)
 have hbk : Blk W w.heap.size #[.bool false, .slice none 0 0] 24 := ⟨by rw [← hW]; exact World.alloc_heap_new w _⟩
 have hbw : Below w.heap.size w W := by rw [← hW]; exact hb _
 have hsz : W.heap.size = w.heap.size + 1 := by rw [← hW]; simp
 have hbW : ∀ o, Below W.heap.size W (W.alloc o) := fun o => (Below.refl _ _).alloc (Nat.le_refl _) _
 go_enter Tryz.func118, Tryz.ntmps118
 have Hsz := Lib.hid hsz
 clear hsz
 go_wp2
 clear hW
 go_loop [5] (fun n => ∃ k : Nat, k ≤ l.length ∧ n = .int .i64 k ∧ Hid (∀ i, k ≤ i → l.getD i 0 = 0)) (fun n => (intOf n).toNat)
 case atStart => exact ⟨l.length, Nat.le_refl _, rfl, fun i hi => by rw [List.getD_eq_getElem?_getD, List.getElem?_eq_none (by omega)]; rfl⟩
 case round =>
  obtain ⟨k, hk, rfl, hz⟩ := hrel
  by_cases h0 : 0 < k
  · obtain ⟨b, o, x, rfl, hc, hx, hxb⟩ := hrw.get (k - 1) (by omega)
    by_cases hx0 : x = 0
    · subst hx0
      go_wp2
      go_round
      case rel => 
       refine ⟨k - 1, by omega, by go_num, fun i hi => ?_⟩
       by_cases e : i = k - 1
       · rw [e]; exact hx.out
       · exact hz.out i (by omega)
      case measure => simp [intOf]; omega
    · have hx1 : ((x : Int) == 0) = false := by simp; omega
      have htr := trim_eq_take hrw.words hk hz.out (.inr (by rw [hx.out]; exact hx0))
      have hf := hfin k hk htr
      have hlk : (l.take k).length = k := by rw [List.length_take]; omega
      have hown0 := own_empty (W.alloc (.cells #[] 127)) W.heap.size W.heap.size (World.alloc_heap_new W _) (Nat.le_refl _)
      have hlk0 : ((0 : Int) < (k : Int)) ↔ True := by rw [iff_true]; omega
      have hnw : ∀ j u, (wvals (l.take k))[j]? = some u → (W.alloc (.cells #[] 127)).cell? ((⟨b, o, none⟩ : Addr).add j) = some u := rd_news' ((hrw.take k).on (hbW _))
      have hwt := words_take hrw.words k
      have hwl : (wvals (l.take k)).length = k * 1 := by simp [wvals]; omega
      have Hwl := Lib.hid hwl
      have Hlk := Lib.hid hlk
      have Hf := Lib.hid hf
      rw [decide_eq_true (show (0 : Int) < (k : Int) by omega)] at hf
      clear hwl hlk hx0
      cases neg
      all_goals
       go_wp2_with first
        | (at_builtin; (refine wpList_append_own2 _ rfl _ _ 22 22 rfl W.heap.size 127 127 i0 (.int .u32 0) 1 4 hbt hbt hi hz0 hz1 hz2 rfl (by decide) _ _ _ rfl hown0 ⟨b, o, none⟩ k c (wvals (l.take k)) rfl Hwl.out hnw (wvals_one _) (by unfold maxLen; omega) (by omega) (by simp) ?_); intro v' w4 hown' hg4 _; obtain ⟨A', c', hv', hn', hc', hrd', hab⟩ := own_rd (l := l.take k) hown' hwt (by omega); subst hv'; have hb4 : Below W.heap.size W w4 := (hbW _).grown hg4 (by simp) (fun j e => by cases e; exact Nat.le_refl _); have hq := hbk.on hb4; obtain ⟨x0, x1⟩ := cL2 hq.h; obtain ⟨y0, y1⟩ := fZ2 hq.h)
       refine ret_cell rfl rfl rfl (set_blk (set_blk hq.h 0 _) 1 _) ⟨_, A', c', l.take k, ?_, hf, ?_, rd_sets hrd' hq _ _, ((hbw.trans (hb4.mono hbw.size)).setCell (Nat.le_refl _) _).setCell (Nat.le_refl _) _⟩
       · rw [Hlk.out]; simp
       · rw [Hlk.out]; omega
  · obtain rfl : k = 0 := by omega
    have hf := hfin 0 hk (trim_eq_take hrw.words hk hz.out (.inl rfl))
    rw [List.take_zero] at hf
    have hx0 : ∀ o, (W.alloc o).cell? ⟨w.heap.size, 0, none⟩ = some (.bool false) := fun o => cell_at (hbk.on (hbW o)).h 0 _ rfl
    have hx1 : ∀ o, (W.alloc o).cell? ⟨w.heap.size, 1, none⟩ = some (.slice none 0 0) := fun o => cell_at (hbk.on (hbW o)).h 1 _ rfl
    have hy0 : ∀ o, (W.alloc o).frozen? ⟨w.heap.size, 0, none⟩ = false := fun o => frozen_at (hbk.on (hbW o)).h 0
    have hy1 : ∀ o, (W.alloc o).frozen? ⟨w.heap.size, 1, none⟩ = false := fun o => frozen_at (hbk.on (hbW o)).h 1
    cases A <;> cases neg
    all_goals
     go_wp2
     refine ret_cell rfl rfl rfl (set_blk (set_blk (hbk.on (hbW _)).h 0 _) 1 _) ⟨_, _, _, [], rfl, hf, Nat.zero_le _, Rd.nil _ _, ((hbw.trans ((hbW _).mono hbw.size)).setCell (Nat.le_refl _) _).setCell (Nat.le_refl _) _⟩
end Nm
end Go.Proofs.YtjghnghceeijeaaGreatDoor
