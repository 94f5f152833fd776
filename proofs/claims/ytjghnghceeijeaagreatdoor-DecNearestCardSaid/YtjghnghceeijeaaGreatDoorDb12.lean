/-
  Contracts of the walks below.
-/
import Derived.Test.YtjghnghceeijeaaGreatDoorDb10
import Derived.Deep.RegionHeld2
set_option maxRecDepth 100000
set_option maxHeartbeats 4000000
set_option linter.unusedVariables false
set_option linter.unusedSimpArgs false
namespace Go.Proofs.YtjghnghceeijeaaGreatDoor
namespace Nm
open Go.RowKit Go.Shelf Go.BigFrame
attribute [local go_sem] Oper.semAt_some
theorem calls_panic {P : Program} {f : FuncId} {args : Array Value} {w : World} {c : List PanicEntry} {B : World → Prop} {R : Ending → World → Prop} (h : Calls P f args w fun e w' => e = .panicked c ∧ B w')
 (hp : ∀ w', B w' → R (.panicked c) w') (_ : ∀ v w', False → R (.returned v) w') : Calls P f args w R := h.mono (by rintro e w' ⟨rfl, hb⟩; exact hp _ hb)
theorem toZ_not (n : Bool) (l : List Nat) : toZ (!n) l = -toZ n l := by
 unfold toZ
 cases n <;> simp
theorem sub1_bad (g1 g2 : Nat) (n1 n2 : Bool) (A1 A2 : Option Addr) (c1 c2 : Nat) (l1 l2 : List Nat) (w : World) (h1 : IntBox w g1 n1 A1 c1 l1) (h2 : IntBox w g2 n2 A2 c2 l2) (hbad : (okI n1 l1 && okI n2 l2) = false) :
 Calls Tryz.prog 215 #[.pointer (some ⟨g1, 0, none⟩), .pointer (some ⟨g2, 0, none⟩)] w fun e w' => e = .panicked (wrong 1) ∧ Below w.heap.size w w' := by
 obtain ⟨x0, x1⟩ := cL2 h1.blk
 obtain ⟨y0, y1⟩ := cL2 h2.blk
 have t1 := (Array.getElem?_eq_some_iff.1 h1.blk).1
 have t2 := (Array.getElem?_eq_some_iff.1 h2.blk).1
 have hb2 : ∀ a b, Below w.heap.size w ((w.alloc a).alloc b) := fun a b => ((Below.refl _ w).alloc (Nat.le_refl _) _).alloc (by simp) _
 have hf := fun a => formed_two (w.heap.size + 1) n1 n2 A1 A2 c1 c2 l1 l2 _ (two_blk w a (.cells #[.bool n1, .slice A1 l1.length c1, .bool n2, .slice A2 l2.length c2] 24)) (h1.rd.on (hb2 _ _)) (h2.rd.on (hb2 _ _)) h1.cap h2.cap
 go_enter Tryz.func215, Tryz.ntmps215
 go_wp2_with (go_at_call 146; refine (hf _).mono ?_; rintro e w' ⟨-, hp, hbl⟩; cases hp hbad)
 exact ⟨rfl, rfl, (hb2 _ _).trans (hbl.mono (hb2 _ _).size)⟩
theorem sub1_ok (g1 g2 : Nat) (n1 n2 : Bool) (A1 A2 : Option Addr) (c1 c2 : Nat) (l1 l2 : List Nat) (w : World) (h1 : IntBox w g1 n1 A1 c1 l1) (h2 : IntBox w g2 n2 A2 c2 l2) (k1 : IsInt n1 l1) (k2 : IsInt n2 l2) (hok : (okI n1 l1 && okI n2 l2) = true)
 (hs : (lim (addS n1 (val l1) (!n2) (val l2)).2).length ≤ 300) :
 Calls Tryz.prog 215 #[.pointer (some ⟨g1, 0, none⟩), .pointer (some ⟨g2, 0, none⟩)] w (RetInt ((addS n1 (val l1) (!n2) (val l2)).1 && (addS n1 (val l1) (!n2) (val l2)).2 != 0) (addS n1 (val l1) (!n2) (val l2)).2 w) := by
 obtain ⟨x0, x1⟩ := cL2 h1.blk
 obtain ⟨y0, y1⟩ := cL2 h2.blk
 have t1 := (Array.getElem?_eq_some_iff.1 h1.blk).1
 have t2 := (Array.getElem?_eq_some_iff.1 h2.blk).1
 have hb2 : ∀ a b, Below w.heap.size w ((w.alloc a).alloc b) := fun a b => ((Below.refl _ w).alloc (Nat.le_refl _) _).alloc (by simp) _
 have hf := fun a => formed_two (w.heap.size + 1) n1 n2 A1 A2 c1 c2 l1 l2 _ (two_blk w a (.cells #[.bool n1, .slice A1 l1.length c1, .bool n2, .slice A2 l2.length c2] 24)) (h1.rd.on (hb2 _ _)) (h2.rd.on (hb2 _ _)) h1.cap h2.cap
 have ht := fun W (hW : Below w.heap.size w W) => total_calls n1 (!n2) A1 A2 c1 c2 l1 l2 W (h1.rd.on hW) (h2.rd.on hW) h1.cap h2.cap k1.canon k2.canon (by have := k1.small; omega) (by have := k2.small; omega)
 generalize addS n1 (val l1) (!n2) (val l2) = r at *
 obtain ⟨s, m⟩ := r
 dsimp only at *
 have hw := fun W A c (h : Rd W A (lim m)) (hc : (lim m).length ≤ c) => whole_ok s A c (lim m) W h hc (by rw [val_lim]; exact hs)
 simp only [val_lim] at hw
 go_enter Tryz.func215, Tryz.ntmps215
 go_wp2_with first
  | (go_at_call 146; refine (hf _).mono ?_; rintro e w' ⟨hp, -, hbl⟩; cases hp hok; have hb3 := (hb2 _ _).trans (hbl.mono (hb2 _ _).size); obtain ⟨x0', x1'⟩ := cL2 ((hb3.block g1 t1).trans h1.blk); obtain ⟨y0', y1'⟩ := cL2 ((hb3.block g2 t2).trans h2.blk))
  | (go_at_call 148; refine (ht _ hb3).mono ?_; rintro e w4 ⟨A4, c4, rfl, n4, r4, b4⟩)
  | (go_at_call 147; refine (hw _ A4 c4 r4 n4).mono ?_; rintro e w5 ⟨A5, c5, rfl, n5, r5, b5⟩; have hq0 := two_old w (.cells #[.bool false, .slice none 0 0] 24) (.cells #[.bool n1, .slice A1 l1.length c1, .bool n2, .slice A2 l2.length c2] 24) rfl; have hq := hq0.on hbl; have hq' := hq.on b4; have hq5 := hq'.on b5; obtain ⟨z0, z1⟩ := cL2 hq5.h; obtain ⟨u0, u1⟩ := fZ2 hq5.h)
 exact ret_cell rfl rfl rfl (set_blk (set_blk hq5.h 0 _) 1 _) ⟨A5, c5, rfl, n5, rd_sets r5 hq5 _ _, (((((hb3.trans (b4.mono hb3.size)).trans (b5.mono (hb3.trans (b4.mono hb3.size)).size))).setCell (Nat.le_refl _) _).setCell (Nat.le_refl _) _)⟩
theorem sub1_big (g1 g2 : Nat) (n1 n2 : Bool) (A1 A2 : Option Addr) (c1 c2 : Nat) (l1 l2 : List Nat) (w : World) (h1 : IntBox w g1 n1 A1 c1 l1) (h2 : IntBox w g2 n2 A2 c2 l2) (k1 : IsInt n1 l1) (k2 : IsInt n2 l2) (hok : (okI n1 l1 && okI n2 l2) = true)
 (hs : 300 < (lim (addS n1 (val l1) (!n2) (val l2)).2).length) :
 Calls Tryz.prog 215 #[.pointer (some ⟨g1, 0, none⟩), .pointer (some ⟨g2, 0, none⟩)] w fun e w' => e = .panicked (wrong 3) ∧ Below w.heap.size w w' := by
 obtain ⟨x0, x1⟩ := cL2 h1.blk
 obtain ⟨y0, y1⟩ := cL2 h2.blk
 have t1 := (Array.getElem?_eq_some_iff.1 h1.blk).1
 have t2 := (Array.getElem?_eq_some_iff.1 h2.blk).1
 have hb2 : ∀ a b, Below w.heap.size w ((w.alloc a).alloc b) := fun a b => ((Below.refl _ w).alloc (Nat.le_refl _) _).alloc (by simp) _
 have hf := fun a => formed_two (w.heap.size + 1) n1 n2 A1 A2 c1 c2 l1 l2 _ (two_blk w a (.cells #[.bool n1, .slice A1 l1.length c1, .bool n2, .slice A2 l2.length c2] 24)) (h1.rd.on (hb2 _ _)) (h2.rd.on (hb2 _ _)) h1.cap h2.cap
 have ht := fun W (hW : Below w.heap.size w W) => total_calls n1 (!n2) A1 A2 c1 c2 l1 l2 W (h1.rd.on hW) (h2.rd.on hW) h1.cap h2.cap k1.canon k2.canon (by have := k1.small; omega) (by have := k2.small; omega)
 generalize addS n1 (val l1) (!n2) (val l2) = r at *
 obtain ⟨s, m⟩ := r
 dsimp only at *
 have hw := fun W A c (h : Rd W A (lim m)) (hc : (lim m).length ≤ c) => whole_no s A c (lim m) W h hc (by rw [val_lim]; exact hs)
 go_enter Tryz.func215, Tryz.ntmps215
 go_wp2_with first
  | (go_at_call 146; refine (hf _).mono ?_; rintro e w' ⟨hp, -, hbl⟩; cases hp hok; have hb3 := (hb2 _ _).trans (hbl.mono (hb2 _ _).size); obtain ⟨x0', x1'⟩ := cL2 ((hb3.block g1 t1).trans h1.blk); obtain ⟨y0', y1'⟩ := cL2 ((hb3.block g2 t2).trans h2.blk))
  | (go_at_call 148; refine (ht _ hb3).mono ?_; rintro e w4 ⟨A4, c4, rfl, n4, r4, b4⟩)
  | (go_at_call 147; refine (hw _ A4 c4 r4 n4).mono ?_; rintro e w5 ⟨rfl, b5⟩)
 exact ⟨rfl, rfl, (hb3.trans (b4.mono hb3.size)).trans (b5.mono (hb3.trans (b4.mono hb3.size)).size)⟩
theorem sub1_calls (g1 g2 : Nat) (n1 n2 : Bool) (A1 A2 : Option Addr) (c1 c2 : Nat) (l1 l2 : List Nat) (w : World) (h1 : IntBox w g1 n1 A1 c1 l1) (h2 : IntBox w g2 n2 A2 c2 l2) :
 Calls Tryz.prog 215 #[.pointer (some ⟨g1, 0, none⟩), .pointer (some ⟨g2, 0, none⟩)] w (PostZE (subR n1 l1 n2 l2).1 (subR n1 l1 n2 l2).2 w) := by
 unfold subR
 by_cases hok : (okI n1 l1 && okI n2 l2) = true
 · rw [if_pos hok]
   have hok' := hok
   rw [Bool.and_eq_true] at hok'
   have k1 := okI_isInt h1.rd.words hok'.1
   have k2 := okI_isInt h2.rd.words hok'.2
   have hz := addS_z n1 (!n2) (val l1) (val l2)
   have hz' : toZ n1 l1 - toZ n2 l2 = (if n1 then -(val l1 : Int) else val l1) + (if (!n2) then -(val l2 : Int) else val l2) := by rw [Int.sub_eq_add_neg, ← toZ_not]; rfl
   rw [← hz'] at hz
   unfold fitZ
   have ha := hz.abs
   rw [← ha]
   by_cases hs : (lim (addS n1 (val l1) (!n2) (val l2)).2).length ≤ 300
   · rw [if_pos hs]
     exact (sub1_ok g1 g2 n1 n2 A1 A2 c1 c2 l1 l2 w h1 h2 k1 k2 hok hs).mono fun e w' h => .ok (h.z hz)
   · rw [if_neg hs]
     exact (sub1_big g1 g2 n1 n2 A1 A2 c1 c2 l1 l2 w h1 h2 k1 k2 hok (by omega)).mono fun e w' h => .no h (by decide)
 · rw [if_neg hok]
   exact (sub1_bad g1 g2 n1 n2 A1 A2 c1 c2 l1 l2 w h1 h2 (by simpa using hok)).mono fun e w' h => .no h (by decide)
theorem Sub_calls (n1 n2 : Bool) (A1 A2 : Option Addr) (c1 c2 : Nat) (l1 l2 : List Nat) (w : World) (h1 : Rd w A1 l1) (h2 : Rd w A2 l2) (hc1 : l1.length ≤ c1) (hc2 : l2.length ≤ c2) :
 Calls Tryz.prog 163 #[iv n1 A1 l1.length c1, iv n2 A2 l2.length c2] w (RetZE (subR n1 l1 n2 l2).1 (subR n1 l1 n2 l2).2 w) := by
 have hmf := mkf
 obtain ⟨W3, hW3⟩ : ∃ W3, (((w.alloc (.cells #[.bool n1, .slice A1 l1.length c1] 24)).alloc (.cells #[.bool n2, .slice A2 l2.length c2] 24)).alloc (.cells #[.bool false, .slice none 0 0] 24)) = W3 := ⟨_, rfl⟩
 have hb3 : Below w.heap.size w W3 := by rw [← hW3]; exact (((Below.refl _ w).alloc (Nat.le_refl _) _).alloc (by simp) _).alloc (by simp; omega) _
 have hB1 : IntBox W3 w.heap.size n1 A1 c1 l1 := ⟨by rw [← hW3]; exact (Below.heap_alloc _ _ _ (by simp; omega)).trans ((Below.heap_alloc _ _ _ (by simp)).trans (World.alloc_heap_new w _)), h1.on hb3, hc1⟩
 have hB2 : IntBox W3 (w.heap.size + 1) n2 A2 c2 l2 := ⟨by rw [← hW3]; exact (Below.heap_alloc _ _ _ (by simp)).trans (two_blk w _ _), h2.on hb3, hc2⟩
 have hR : Blk W3 (w.heap.size + 1 + 1) #[.bool false, .slice none 0 0] 24 := ⟨by rw [← hW3]; have := World.alloc_heap_new ((w.alloc (.cells #[.bool n1, .slice A1 l1.length c1] 24)).alloc (.cells #[.bool n2, .slice A2 l2.length c2] 24)) (.cells #[.bool false, .slice none 0 0] 24); rwa [World.size_alloc, World.size_alloc] at this⟩
 have hB4 : ∀ o o', Below W3.heap.size W3 ((W3.alloc o).alloc o') := fun o o' => ((Below.refl _ W3).alloc (Nat.le_refl _) _).alloc (by simp) _
 have ht := try_int 215 #[.pointer (some ⟨w.heap.size, 0, none⟩), .pointer (some ⟨w.heap.size + 1, 0, none⟩)] (enters_of Tryz.func215 (by kernel_rfl) rfl) W3 _ _ (sub1_calls _ _ n1 n2 A1 A2 c1 c2 l1 l2 _ (hB1.on (hB4 _ _)) (hB2.on (hB4 _ _))) (subR_zero n1 l1 n2 l2)
 generalize (subR n1 l1 n2 l2).1 = z at *
 generalize (subR n1 l1 n2 l2).2 = er at *
 go_enter Tryz.func163, Tryz.ntmps163
 go_wp2_with (go_at_call 144; refine ht.mono ?_; rintro e w' ⟨s, A, c, l, rfl, hz, hc, hr, hb⟩; have hq := hR.on hb; obtain ⟨z0, z1⟩ := cL2 hq.h; obtain ⟨u0, u1⟩ := fZ2 hq.h)
 exact ret_cell_tmp (x := .bool s) (y := .slice A l.length c) rfl rfl rfl (set_blk (set_blk hq.h 0 _) 1 _) ⟨s, A, c, l, rfl, hz, hc, rd_sets hr hq _ _, ((hb3.trans (hb.mono hb3.size)).setCell (by dsimp only; omega) _).setCell (by dsimp only; omega) _⟩
theorem mul1_bad (g1 g2 : Nat) (n1 n2 : Bool) (A1 A2 : Option Addr) (c1 c2 : Nat) (l1 l2 : List Nat) (w : World) (h1 : IntBox w g1 n1 A1 c1 l1) (h2 : IntBox w g2 n2 A2 c2 l2) (hbad : (okI n1 l1 && okI n2 l2) = false) :
 Calls Tryz.prog 203 #[.pointer (some ⟨g1, 0, none⟩), .pointer (some ⟨g2, 0, none⟩)] w fun e w' => e = .panicked (wrong 1) ∧ Below w.heap.size w w' := by
 obtain ⟨x0, x1⟩ := cL2 h1.blk
 obtain ⟨y0, y1⟩ := cL2 h2.blk
 have t1 := (Array.getElem?_eq_some_iff.1 h1.blk).1
 have t2 := (Array.getElem?_eq_some_iff.1 h2.blk).1
 have hb2 : ∀ a b, Below w.heap.size w ((w.alloc a).alloc b) := fun a b => ((Below.refl _ w).alloc (Nat.le_refl _) _).alloc (by simp) _
 have hf := fun a => formed_two (w.heap.size + 1) n1 n2 A1 A2 c1 c2 l1 l2 _ (two_blk w a (.cells #[.bool n1, .slice A1 l1.length c1, .bool n2, .slice A2 l2.length c2] 24)) (h1.rd.on (hb2 _ _)) (h2.rd.on (hb2 _ _)) h1.cap h2.cap
 go_enter Tryz.func203, Tryz.ntmps203
 go_wp2_with (go_at_call 146; refine (hf _).mono ?_; rintro e w' ⟨-, hp, hbl⟩; cases hp hbad)
 exact ⟨rfl, rfl, (hb2 _ _).trans (hbl.mono (hb2 _ _).size)⟩
theorem toZ_mul (n1 n2 : Bool) (l1 l2 : List Nat) : toZ n1 l1 * toZ n2 l2 = if (n1 != n2) then -((val l1 * val l2 : Nat) : Int) else ((val l1 * val l2 : Nat) : Int) := by
 unfold toZ
 cases n1 <;> cases n2 <;> simp [Int.neg_mul, Int.mul_neg]
theorem mul1_ok (g1 g2 : Nat) (n1 n2 : Bool) (A1 A2 : Option Addr) (c1 c2 : Nat) (l1 l2 : List Nat) (w : World) (h1 : IntBox w g1 n1 A1 c1 l1) (h2 : IntBox w g2 n2 A2 c2 l2) (k1 : IsInt n1 l1) (k2 : IsInt n2 l2) (hok : (okI n1 l1 && okI n2 l2) = true)
 (hs : (lim (val l1 * val l2)).length ≤ 300) :
 Calls Tryz.prog 203 #[.pointer (some ⟨g1, 0, none⟩), .pointer (some ⟨g2, 0, none⟩)] w (RetInt ((n1 != n2) && val l1 * val l2 != 0) (val l1 * val l2) w) := by
 obtain ⟨x0, x1⟩ := cL2 h1.blk
 obtain ⟨y0, y1⟩ := cL2 h2.blk
 have t1 := (Array.getElem?_eq_some_iff.1 h1.blk).1
 have t2 := (Array.getElem?_eq_some_iff.1 h2.blk).1
 have hb2 : ∀ a b, Below w.heap.size w ((w.alloc a).alloc b) := fun a b => ((Below.refl _ w).alloc (Nat.le_refl _) _).alloc (by simp) _
 have hf := fun a => formed_two (w.heap.size + 1) n1 n2 A1 A2 c1 c2 l1 l2 _ (two_blk w a (.cells #[.bool n1, .slice A1 l1.length c1, .bool n2, .slice A2 l2.length c2] 24)) (h1.rd.on (hb2 _ _)) (h2.rd.on (hb2 _ _)) h1.cap h2.cap
 have ht := fun W (hW : Below w.heap.size w W) => mul_calls A1 A2 c1 c2 l1 l2 W (h1.rd.on hW) (h2.rd.on hW) h1.cap h2.cap k1.canon k2.canon (by have := k1.small; have := k2.small; omega)
 generalize hm : val l1 * val l2 = m at *
 clear hm
 rw [show (n1 != n2) = !(n1 == n2) from rfl]
 generalize hs' : (n1 == n2) = s at *
 have hw := fun W A c (h : Rd W A (lim m)) (hc : (lim m).length ≤ c) => whole_ok (!s) A c (lim m) W h hc (by rw [val_lim]; exact hs)
 simp only [val_lim] at hw
 have q1 := Lib.hid h1.blk
 have q2 := Lib.hid h2.blk
 have d1 : ¬ g1 = w.heap.size := by omega
 have d2 : ¬ g2 = w.heap.size := by omega
 have d3 : ¬ w.heap.size = g1 := by omega
 have d4 : ¬ w.heap.size = g2 := by omega
 go_enter Tryz.func203, Tryz.ntmps203
 go_wp2_with first
  | (go_at_call 146; refine (hf _).mono ?_; rintro e w' ⟨hp, -, hbl⟩; cases hp hok; have hb3 := (hb2 _ _).trans (hbl.mono (hb2 _ _).size); have hX : True := trivial)
 obtain ⟨x0', x1'⟩ := cL2 ((hb3.block g1 t1).trans h1.blk)
 obtain ⟨y0', y1'⟩ := cL2 ((hb3.block g2 t2).trans h2.blk)
 have hq0 := two_old w (.cells #[.bool false, .slice none 0 0] 24) (.cells #[.bool n1, .slice A1 l1.length c1, .bool n2, .slice A2 l2.length c2] 24) rfl
 have hq := hq0.on hbl
 go_region_held3 (fun w'' => w''.cell? ⟨g1, 0, none⟩ = some (.bool n1) ∧ w''.cell? ⟨g1, 1, none⟩ = some (.slice A1 l1.length c1) ∧ w''.cell? ⟨g2, 0, none⟩ = some (.bool n2) ∧ w''.cell? ⟨g2, 1, none⟩ = some (.slice A2 l2.length c2)) ((first | assumption | go_keep))
  ((first
   | (go_at_call 158; refine (ht _ (below_drew hb3)).mono ?_; rintro e w4 ⟨A4, c4, rfl, n4, r4, b4⟩; replace b4 := (below_drew (Below.refl _ w')).trans b4; have bb4 := hb3.trans (b4.mono hb3.size); obtain ⟨i0, i1⟩ := cL2 ((bb4.block g1 t1).trans h1.blk); obtain ⟨j0, j1⟩ := cL2 ((bb4.block g2 t2).trans h2.blk))
   | (go_at_call 147; refine (hw _ A4 c4 r4 n4).mono ?_; rintro e w5 ⟨A5, c5, rfl, n5, r5, b5⟩; have bb5 := bb4.trans (b5.mono bb4.size); obtain ⟨i0', i1'⟩ := cL2 ((bb5.block g1 t1).trans h1.blk); obtain ⟨j0', j1'⟩ := cL2 ((bb5.block g2 t2).trans h2.blk); have hq' := hq.on b4; have hq5 := hq'.on b5; obtain ⟨z0, z1⟩ := cL2 hq5.h; obtain ⟨u0, u1⟩ := fZ2 hq5.h)))
 go_wp2_with fail
 exact ret_cell rfl rfl rfl (set_blk (set_blk hq5.h 0 _) 1 _) ⟨A5, c5, rfl, n5, rd_sets r5 hq5 _ _, (((((hb3.trans (b4.mono hb3.size)).trans (b5.mono (hb3.trans (b4.mono hb3.size)).size))).setCell (Nat.le_refl _) _).setCell (Nat.le_refl _) _)⟩
theorem mul1_big (g1 g2 : Nat) (n1 n2 : Bool) (A1 A2 : Option Addr) (c1 c2 : Nat) (l1 l2 : List Nat) (w : World) (h1 : IntBox w g1 n1 A1 c1 l1) (h2 : IntBox w g2 n2 A2 c2 l2) (k1 : IsInt n1 l1) (k2 : IsInt n2 l2) (hok : (okI n1 l1 && okI n2 l2) = true)
 (hs : 300 < (lim (val l1 * val l2)).length) :
 Calls Tryz.prog 203 #[.pointer (some ⟨g1, 0, none⟩), .pointer (some ⟨g2, 0, none⟩)] w fun e w' => e = .panicked (wrong 3) ∧ Below w.heap.size w w' := by
 obtain ⟨x0, x1⟩ := cL2 h1.blk
 obtain ⟨y0, y1⟩ := cL2 h2.blk
 have t1 := (Array.getElem?_eq_some_iff.1 h1.blk).1
 have t2 := (Array.getElem?_eq_some_iff.1 h2.blk).1
 have hb2 : ∀ a b, Below w.heap.size w ((w.alloc a).alloc b) := fun a b => ((Below.refl _ w).alloc (Nat.le_refl _) _).alloc (by simp) _
 have hf := fun a => formed_two (w.heap.size + 1) n1 n2 A1 A2 c1 c2 l1 l2 _ (two_blk w a (.cells #[.bool n1, .slice A1 l1.length c1, .bool n2, .slice A2 l2.length c2] 24)) (h1.rd.on (hb2 _ _)) (h2.rd.on (hb2 _ _)) h1.cap h2.cap
 have ht := fun W (hW : Below w.heap.size w W) => mul_calls A1 A2 c1 c2 l1 l2 W (h1.rd.on hW) (h2.rd.on hW) h1.cap h2.cap k1.canon k2.canon (by have := k1.small; have := k2.small; omega)
 generalize hm : val l1 * val l2 = m at *
 clear hm
 generalize hs' : (n1 == n2) = s at *
 have hw := fun W A c (h : Rd W A (lim m)) (hc : (lim m).length ≤ c) => whole_no (!s) A c (lim m) W h hc (by rw [val_lim]; exact hs)
 have q1 := Lib.hid h1.blk
 have q2 := Lib.hid h2.blk
 go_enter Tryz.func203, Tryz.ntmps203
 go_wp2_with first
  | (go_at_call 146; refine (hf _).mono ?_; rintro e w' ⟨hp, -, hbl⟩; cases hp hok; have hb3 := (hb2 _ _).trans (hbl.mono (hb2 _ _).size); have hX : True := trivial)
 obtain ⟨x0', x1'⟩ := cL2 ((hb3.block g1 t1).trans h1.blk)
 obtain ⟨y0', y1'⟩ := cL2 ((hb3.block g2 t2).trans h2.blk)
 have hq0 := two_old w (.cells #[.bool false, .slice none 0 0] 24) (.cells #[.bool n1, .slice A1 l1.length c1, .bool n2, .slice A2 l2.length c2] 24) rfl
 have hq := hq0.on hbl
 go_region_held2 (fun w'' => w''.cell? ⟨g1, 0, none⟩ = some (.bool n1) ∧ w''.cell? ⟨g1, 1, none⟩ = some (.slice A1 l1.length c1) ∧ w''.cell? ⟨g2, 0, none⟩ = some (.bool n2) ∧ w''.cell? ⟨g2, 1, none⟩ = some (.slice A2 l2.length c2)) ((first | exact HF.out.elim | assumption | go_keep))
  ((first
   | (go_at_call 158; refine (ht _ (below_drew hb3)).mono ?_; rintro e w4 ⟨A4, c4, rfl, n4, r4, b4⟩; replace b4 := (below_drew (Below.refl _ w')).trans b4; have bb4 := hb3.trans (b4.mono hb3.size); obtain ⟨i0, i1⟩ := cL2 ((bb4.block g1 t1).trans h1.blk); obtain ⟨j0, j1⟩ := cL2 ((bb4.block g2 t2).trans h2.blk))
   | (go_at_call 147; refine calls_panic (hw _ A4 c4 r4 n4) (fun w5 b5 => ⟨rfl, rfl, bb4.trans (b5.mono bb4.size)⟩) ?_; intro v w5 hF; have HF : Hid False := hF; obtain ⟨s', A', n', c', rfl⟩ : ∃ s' A' n' c', v = .agg #[.bool s', .slice A' n' c'] := hF.elim; have hq5 : Blk w5 w.heap.size #[.bool false, .slice none 0 0] 24 := hF.elim; obtain ⟨z0, z1⟩ := cL2 hq5.h; obtain ⟨u0, u1⟩ := fZ2 hq5.h; clear hF)))
 exact HF.out.elim
theorem mul1_calls (g1 g2 : Nat) (n1 n2 : Bool) (A1 A2 : Option Addr) (c1 c2 : Nat) (l1 l2 : List Nat) (w : World) (h1 : IntBox w g1 n1 A1 c1 l1) (h2 : IntBox w g2 n2 A2 c2 l2) :
 Calls Tryz.prog 203 #[.pointer (some ⟨g1, 0, none⟩), .pointer (some ⟨g2, 0, none⟩)] w (PostZE (mulR n1 l1 n2 l2).1 (mulR n1 l1 n2 l2).2 w) := by
 unfold mulR
 by_cases hok : (okI n1 l1 && okI n2 l2) = true
 · rw [if_pos hok]
   have hok' := hok
   rw [Bool.and_eq_true] at hok'
   have k1 := okI_isInt h1.rd.words hok'.1
   have k2 := okI_isInt h2.rd.words hok'.2
   have hz := isZ_of (n1 != n2) (val l1 * val l2)
   rw [← toZ_mul] at hz
   unfold fitZ
   have ha := hz.abs
   rw [← ha]
   by_cases hs : (lim (val l1 * val l2)).length ≤ 300
   · rw [if_pos hs]
     exact (mul1_ok g1 g2 n1 n2 A1 A2 c1 c2 l1 l2 w h1 h2 k1 k2 hok hs).mono fun e w' h => .ok (h.z hz)
   · rw [if_neg hs]
     exact (mul1_big g1 g2 n1 n2 A1 A2 c1 c2 l1 l2 w h1 h2 k1 k2 hok (by omega)).mono fun e w' h => .no h (by decide)
 · rw [if_neg hok]
   exact (mul1_bad g1 g2 n1 n2 A1 A2 c1 c2 l1 l2 w h1 h2 (by simpa using hok)).mono fun e w' h => .no h (by decide)
theorem Mul_calls (n1 n2 : Bool) (A1 A2 : Option Addr) (c1 c2 : Nat) (l1 l2 : List Nat) (w : World) (h1 : Rd w A1 l1) (h2 : Rd w A2 l2) (hc1 : l1.length ≤ c1) (hc2 : l2.length ≤ c2) :
 Calls Tryz.prog 155 #[iv n1 A1 l1.length c1, iv n2 A2 l2.length c2] w (RetZE (mulR n1 l1 n2 l2).1 (mulR n1 l1 n2 l2).2 w) := by
 have hmf := mkf
 obtain ⟨W3, hW3⟩ : ∃ W3, (((w.alloc (.cells #[.bool n1, .slice A1 l1.length c1] 24)).alloc (.cells #[.bool n2, .slice A2 l2.length c2] 24)).alloc (.cells #[.bool false, .slice none 0 0] 24)) = W3 := ⟨_, rfl⟩
 have hb3 : Below w.heap.size w W3 := by rw [← hW3]; exact (((Below.refl _ w).alloc (Nat.le_refl _) _).alloc (by simp) _).alloc (by simp; omega) _
 have hB1 : IntBox W3 w.heap.size n1 A1 c1 l1 := ⟨by rw [← hW3]; exact (Below.heap_alloc _ _ _ (by simp; omega)).trans ((Below.heap_alloc _ _ _ (by simp)).trans (World.alloc_heap_new w _)), h1.on hb3, hc1⟩
 have hB2 : IntBox W3 (w.heap.size + 1) n2 A2 c2 l2 := ⟨by rw [← hW3]; exact (Below.heap_alloc _ _ _ (by simp)).trans (two_blk w _ _), h2.on hb3, hc2⟩
 have hR : Blk W3 (w.heap.size + 1 + 1) #[.bool false, .slice none 0 0] 24 := ⟨by rw [← hW3]; have := World.alloc_heap_new ((w.alloc (.cells #[.bool n1, .slice A1 l1.length c1] 24)).alloc (.cells #[.bool n2, .slice A2 l2.length c2] 24)) (.cells #[.bool false, .slice none 0 0] 24); rwa [World.size_alloc, World.size_alloc] at this⟩
 have hB4 : ∀ o o', Below W3.heap.size W3 ((W3.alloc o).alloc o') := fun o o' => ((Below.refl _ W3).alloc (Nat.le_refl _) _).alloc (by simp) _
 have ht := try_int 203 #[.pointer (some ⟨w.heap.size, 0, none⟩), .pointer (some ⟨w.heap.size + 1, 0, none⟩)] (enters_of Tryz.func203 (by kernel_rfl) rfl) W3 _ _ (mul1_calls _ _ n1 n2 A1 A2 c1 c2 l1 l2 _ (hB1.on (hB4 _ _)) (hB2.on (hB4 _ _))) (mulR_zero n1 l1 n2 l2)
 generalize (mulR n1 l1 n2 l2).1 = z at *
 generalize (mulR n1 l1 n2 l2).2 = er at *
 go_enter Tryz.func155, Tryz.ntmps155
 go_wp2_with (go_at_call 144; refine ht.mono ?_; rintro e w' ⟨s, A, c, l, rfl, hz, hc, hr, hb⟩; have hq := hR.on hb; obtain ⟨z0, z1⟩ := cL2 hq.h; obtain ⟨u0, u1⟩ := fZ2 hq.h)
 exact ret_cell_tmp (x := .bool s) (y := .slice A l.length c) rfl rfl rfl (set_blk (set_blk hq.h 0 _) 1 _) ⟨s, A, c, l, rfl, hz, hc, rd_sets hr hq _ _, ((hb3.trans (hb.mono hb3.size)).setCell (by dsimp only; omega) _).setCell (by dsimp only; omega) _⟩
theorem Rd.ne {W : World} {A : Option Addr} {l : List Nat} (h : Rd W A l) {g : Nat} {cur : Array Value} {t : TypeId} (hb : W.heap[g]? = some (.cells cur t (0, 0))) (hn : ∀ (i : Nat) (x : Int), cur[i]? = some (.int .u32 x) → False) :
 ∀ b o, A = some ⟨b, o, none⟩ → 0 < l.length → b ≠ g := by
 rintro b o rfl h0 rfl
 obtain ⟨b', o', e, hc⟩ := h.cell 0 h0
 cases e
 simp only [World.cell?, hb, Option.isSome_none, Bool.false_eq_true, if_false] at hc
 exact hn _ _ hc
theorem Rd.setNe {W : World} {A : Option Addr} {l : List Nat} (h : Rd W A l) {g i : Nat} {v : Value} (hne : ∀ b o, A = some ⟨b, o, none⟩ → 0 < l.length → b ≠ g) : Rd (W.setCell ⟨g, i, none⟩ v) A l := by
 rcases Nat.eq_zero_or_pos l.length with h0 | h0
 · obtain rfl : l = [] := List.length_eq_zero_iff.1 h0
   exact Rd.nil _ _
 · obtain ⟨b, o, rfl⟩ := h.head h0
   exact grw_rd (grownBy_setCell_at _ _ _ _) h (fun b o e => hne b o e h0)
theorem catch_idle_div (p q : Addr) (w : World) :
 CallsD Tryz.prog 246 #[.pointer (some p), .pointer (some q)] .returning w fun e u' w' => e = .returned (.tuple #[]) ∧ u' = .returning ∧ w' = w := by
 refine callsD_of_wpS Tryz.func246 rfl fun c₀ cs hu => ?_
 apply wpS_seq
 apply wpS_region
 simp [wpOpsS, go_sem, recoverD, hu, Tryz.ntmps246, Exit.thenS]
 apply wpS_seq
 apply wpS_seq
 apply wpS_region
 simp [wpOpsS, go_sem, Exit.thenS]
 refine wpS_cond (t := true) (by simp [Act.eval, Array.replicate]) ?_
 simp only [if_true]
 refine wpS_of_wp (wp_ret ?_)
 cases c₀
 simp_all [bodyPostS, results, Tryz.results246, Exit.thenS]
theorem catch_wrong_div (g : Nat) (x : Int) (older : List PanicEntry) (a0 a1 a2 a3 : Value) (c : Value) (w : World) (h1 : w.heap[g]? = some (.cells #[a0, a1, a2, a3] 227 (0, 0))) (h2 : w.heap[g + 1]? = some (.cells #[c] 30 (0, 0))) :
 CallsD Tryz.prog 246 #[.pointer (some ⟨g, 0, none⟩), .pointer (some ⟨g + 1, 0, none⟩)] (.panicking ({ v := .iface 201 (.agg #[.int .i64 x]), recovered := false } :: older)) w fun e u' w' =>
  e = .returned (.tuple #[]) ∧ u' = .panicking ({ v := .iface 201 (.agg #[.int .i64 x]), recovered := true } :: older) ∧
   w'.heap[g]? = some (.cells #[.bool false, .slice none 0 0, .bool false, .slice none 0 0] 227 (0, 0)) ∧ w'.heap[g + 1]? = some (.cells #[.int .i64 x] 30 (0, 0)) ∧ Below g w w' := by
 refine callsD_of_wpS Tryz.func246 rfl fun c₀ cs hu => ?_
 apply wpS_seq
 apply wpS_region
 simp [wpOpsS, go_sem, recoverD, hu, Tryz.ntmps246, Exit.thenS]
 refine wpS_of_wp ?_
 have hta := assert_wrong x
 have x0 := cell_at h1 0 a0 rfl
 have y0 := frozen_at h1 0
 have x1 := cell_at h1 1 a1 rfl
 have y1 := frozen_at h1 1
 have x2 := cell_at h1 2 a2 rfl
 have y2 := frozen_at h1 2
 have x3 := cell_at h1 3 a3 rfl
 have y3 := frozen_at h1 3
 have xe := cell_at h2 0 c rfl
 have ye := frozen_at h2 0
 simp only [Array.replicate_succ, Array.replicate_zero, List.push_toArray, List.nil_append, List.cons_append]
 go_wp2_with fail
 have hl1 := (Array.getElem?_eq_some_iff.1 h1).1
 have hl2 := (Array.getElem?_eq_some_iff.1 h2).1
 obtain ⟨W4, hW4⟩ : ∃ W4, ((w.alloc (.cells #[.int .i64 x] 201)).alloc (.cells #[.bool false, .slice none 0 0, .bool false, .slice none 0 0] 227)) = W4 := ⟨_, rfl⟩
 have hz1 : W4.heap[w.heap.size]? = some (.cells #[.int .i64 x] 201 (0, 0)) := by rw [← hW4]; exact (Below.heap_alloc _ _ _ (by simp)).trans (World.alloc_heap_new w _)
 have hz2 : W4.heap[w.heap.size + 1]? = some (.cells #[.bool false, .slice none 0 0, .bool false, .slice none 0 0] 227 (0, 0)) := by rw [← hW4]; have := World.alloc_heap_new (w.alloc (.cells #[.int .i64 x] 201)) (.cells #[.bool false, .slice none 0 0, .bool false, .slice none 0 0] 227); rwa [World.size_alloc] at this
 have hz3 : W4.heap[g]? = some (.cells #[a0, a1, a2, a3] 227 (0, 0)) := by rw [← hW4]; exact (Below.heap_alloc _ _ _ (by simp; omega)).trans ((Below.heap_alloc _ _ _ hl1).trans h1)
 have hz4 : W4.heap[g + 1]? = some (.cells #[c] 30 (0, 0)) := by rw [← hW4]; exact (Below.heap_alloc _ _ _ (by simp; omega)).trans ((Below.heap_alloc _ _ _ hl2).trans h2)
 have hbl : Below g w W4 := by rw [← hW4]; exact ((Below.refl g w).alloc (by omega) _).alloc (by simp; omega) _
 rw [hW4]
 clear hW4 x0 y0 x1 y1 x2 y2 x3 y3 xe ye h1 h2
 have z0 := cell_at hz1 0 _ rfl
 have zz0 := cell_at hz2 0 _ rfl
 have x0 := cell_at hz3 0 a0 rfl
 have y0 := frozen_at hz3 0
 have zz1 := cell_at hz2 1 _ rfl
 have x1 := cell_at hz3 1 a1 rfl
 have y1 := frozen_at hz3 1
 have zz2 := cell_at hz2 2 _ rfl
 have x2 := cell_at hz3 2 a2 rfl
 have y2 := frozen_at hz3 2
 have zz3 := cell_at hz2 3 _ rfl
 have x3 := cell_at hz3 3 a3 rfl
 have y3 := frozen_at hz3 3
 have xe := cell_at hz4 0 c rfl
 have ye := frozen_at hz4 0
 have n1 : ¬ g = w.heap.size := by omega
 have n2 : ¬ g = w.heap.size + 1 := by omega
 have n3 : ¬ w.heap.size = g := by omega
 have n4 : ¬ w.heap.size + 1 = g := by omega
 have n5 : ¬ g + 1 = w.heap.size := by omega
 have n6 : ¬ g + 1 = w.heap.size + 1 := by omega
 have n7 : ¬ w.heap.size = g + 1 := by omega
 have n8 : ¬ w.heap.size + 1 = g + 1 := by omega
 generalize w.heap.size = bq at *
 go_region
 cases c₀
 simp (config := { zetaDelta := true }) only [bodyPostS, results, Tryz.results246]
 refine ⟨trivial, _, rfl, .tuple #[], by simp [go_sem], rfl, rfl, ?_, ?_, ?_⟩
 · exact (Below.heap_setCell _ _ _ g (by simp)).trans (set_blk (set_blk (set_blk (set_blk (hz3) 0 _) 1 _) 2 _) 3 _)
 · exact set_blk ((Below.heap_setCell _ _ _ (g + 1) (by simp)).trans ((Below.heap_setCell _ _ _ (g + 1) (by simp)).trans ((Below.heap_setCell _ _ _ (g + 1) (by simp)).trans ((Below.heap_setCell _ _ _ (g + 1) (by simp)).trans (hz4))))) 0 _
 · exact below_drew ((((((hbl).setCell (Nat.le_refl _) _).setCell (Nat.le_refl _) _).setCell (Nat.le_refl _) _).setCell (Nat.le_refl _) _).setCell (by simp) _)
theorem try_div_ok (G : Nat) (caps : Array Value) (hG : ∀ (args : Array Value) (w : World), (callFunc G args).run Tryz.prog w = .ok (.enter G args) w) (w : World) (W2 : World)
 (hW2 : (w.alloc (.cells #[.bool false, .slice none 0 0, .bool false, .slice none 0 0] 227)).alloc (.cells #[.int .i64 0] 30) = W2) (R : Bool → Option Addr → Nat → Nat → Bool → Option Addr → Nat → Nat → World → Prop)
 (h : Calls Tryz.prog G caps W2 fun e w' => ∃ (s1 : Bool) (A1 : Option Addr) (m1 : Nat) (c1 : Nat) (s2 : Bool) (A2 : Option Addr) (m2 : Nat) (c2 : Nat), e = .returned (.agg #[.bool s1, .slice A1 m1 c1, .bool s2, .slice A2 m2 c2]) ∧ R s1 A1 m1 c1 s2 A2 m2 c2 w' ∧ Below W2.heap.size W2 w') :
 Calls Tryz.prog 228 #[.func (.func G) #[] caps] w fun e w' =>
  ∃ (s1 : Bool) (A1 : Option Addr) (m1 : Nat) (c1 : Nat) (s2 : Bool) (A2 : Option Addr) (m2 : Nat) (c2 : Nat) (w1 : World), R s1 A1 m1 c1 s2 A2 m2 c2 w1 ∧ Below w.heap.size w w' ∧ (∀ A l, Rd w1 A l → Rd w' A l) ∧ e = .returned (.tuple #[.agg #[.bool s1, .slice A1 m1 c1, .bool s2, .slice A2 m2 c2], .int .i64 0]) := by
 have hmf := mkf
 have hz1 : W2.heap[w.heap.size]? = some (.cells #[.bool false, .slice none 0 0, .bool false, .slice none 0 0] 227 (0, 0)) := by rw [← hW2]; exact (Below.heap_alloc _ _ _ (by simp)).trans (World.alloc_heap_new w _)
 have hz2 : W2.heap[w.heap.size + 1]? = some (.cells #[.int .i64 0] 30 (0, 0)) := by rw [← hW2]; have := World.alloc_heap_new (w.alloc (.cells #[.bool false, .slice none 0 0, .bool false, .slice none 0 0] 227)) (.cells #[.int .i64 0] 30); rwa [World.size_alloc] at this
 have hsz : W2.heap.size = w.heap.size + 2 := by rw [← hW2]; simp
 have hb2 : Below w.heap.size w W2 := by rw [← hW2]; exact ((Below.refl _ w).alloc (Nat.le_refl _) _).alloc (by simp) _
 have Hsz := Lib.hid hsz
 clear hsz
 go_enter_defers Tryz.func228, Tryz.ntmps228
 go_wp2_with first
  | (refine h.mono ?_; rintro e w' ⟨s1, A1, m1, c1, s2, A2, m2, c2, rfl, hR, hbl⟩; have hy1 := (hbl.block w.heap.size (by have := Hsz.out; omega)).trans hz1; have hy2 := (hbl.block (w.heap.size + 1) (by have := Hsz.out; omega)).trans hz2; have x0 := cell_at hy1 0 _ rfl; have y0 := frozen_at hy1 0; have x1 := cell_at hy1 1 _ rfl; have y1 := frozen_at hy1 1; have x2 := cell_at hy1 2 _ rfl; have y2 := frozen_at hy1 2; have x3 := cell_at hy1 3 _ rfl; have y3 := frozen_at hy1 3; have xe := cell_at hy2 0 _ rfl; have ye := frozen_at hy2 0)
 obtain ⟨X, hX⟩ : ∃ X, (((((w'.setCell ⟨w.heap.size, 0, none⟩ (.bool s1)).setCell ⟨w.heap.size, 1, none⟩ (.slice A1 m1 c1)).setCell ⟨w.heap.size, 2, none⟩ (.bool s2)).setCell ⟨w.heap.size, 3, none⟩ (.slice A2 m2 c2)).setCell ⟨w.heap.size + 1, 0, none⟩ (.int .i64 0)) = X := ⟨_, rfl⟩
 have hx1 : X.heap[w.heap.size]? = some (.cells #[.bool s1, .slice A1 m1 c1, .bool s2, .slice A2 m2 c2] 227 (0, 0)) := by rw [← hX]; exact (Below.heap_setCell _ _ _ _ (by simp)).trans (set_blk (set_blk (set_blk (set_blk (hy1) 0 _) 1 _) 2 _) 3 _)
 have hx2 : X.heap[w.heap.size + 1]? = some (.cells #[.int .i64 0] 30 (0, 0)) := by rw [← hX]; exact set_blk ((Below.heap_setCell _ _ _ _ (by simp)).trans ((Below.heap_setCell _ _ _ _ (by simp)).trans ((Below.heap_setCell _ _ _ _ (by simp)).trans ((Below.heap_setCell _ _ _ _ (by simp)).trans (hy2))))) 0 _
 have hbX : Below w.heap.size w X := by rw [← hX]; exact (((((hb2.trans (hbl.mono hb2.size)).setCell (Nat.le_refl _) _).setCell (Nat.le_refl _) _).setCell (Nat.le_refl _) _).setCell (Nat.le_refl _) _).setCell (by simp) _
 have hRd : ∀ A l, Rd w' A l → Rd X A l := by
  intro A l hA
  rw [← hX]
  have e1 := hA.ne hy1 (by intro i x h; rcases i with _ | _ | _ | _ | i <;> simp at h)
  have e2 := hA.ne hy2 (by intro i x h; rcases i with _ | i <;> simp at h)
  exact (((((hA).setNe e1).setNe e1).setNe e1).setNe e1).setNe e2
 rw [hX]
 refine leaves_cons (f := 246) (args := #[.pointer (some ⟨w.heap.size, 0, none⟩), .pointer (some ⟨w.heap.size + 1, 0, none⟩)]) (by simp) (by simp [go_sem]) ?_
 refine (catch_idle_div ⟨w.heap.size, 0, none⟩ ⟨w.heap.size + 1, 0, none⟩ _).mono ?_
 rintro e u' w'' ⟨rfl, rfl, rfl⟩
 obtain ⟨v0, v1, v2, v3⟩ := cL4 hx1
 have ve := cell_at hx2 0 _ rfl
 refine ⟨.tuple #[.agg #[.bool s1, .slice A1 m1 c1, .bool s2, .slice A2 m2 c2], .int .i64 0], ?_, s1, A1, m1, c1, s2, A2, m2, c2, w', hR, hbX, hRd, rfl⟩
 simp [results, Tryz.results228, go_sem, v0, v1, v2, v3, ve]
theorem try_div_wrong (G : Nat) (caps : Array Value) (hG : ∀ (args : Array Value) (w : World), (callFunc G args).run Tryz.prog w = .ok (.enter G args) w) (w : World) (W2 : World)
 (hW2 : (w.alloc (.cells #[.bool false, .slice none 0 0, .bool false, .slice none 0 0] 227)).alloc (.cells #[.int .i64 0] 30) = W2) (c : Int)
 (h : Calls Tryz.prog G caps W2 fun e w' => e = .panicked (wrong c) ∧ Below W2.heap.size W2 w') :
 Calls Tryz.prog 228 #[.func (.func G) #[] caps] w fun e w' =>
  Below w.heap.size w w' ∧ e = .returned (.tuple #[.agg #[.bool false, .slice none 0 0, .bool false, .slice none 0 0], .int .i64 c]) := by
 have hmf := mkf
 have hz1 : W2.heap[w.heap.size]? = some (.cells #[.bool false, .slice none 0 0, .bool false, .slice none 0 0] 227 (0, 0)) := by rw [← hW2]; exact (Below.heap_alloc _ _ _ (by simp)).trans (World.alloc_heap_new w _)
 have hz2 : W2.heap[w.heap.size + 1]? = some (.cells #[.int .i64 0] 30 (0, 0)) := by rw [← hW2]; have := World.alloc_heap_new (w.alloc (.cells #[.bool false, .slice none 0 0, .bool false, .slice none 0 0] 227)) (.cells #[.int .i64 0] 30); rwa [World.size_alloc] at this
 have hsz : W2.heap.size = w.heap.size + 2 := by rw [← hW2]; simp
 have hb2 : Below w.heap.size w W2 := by rw [← hW2]; exact ((Below.refl _ w).alloc (Nat.le_refl _) _).alloc (by simp) _
 have Hsz := Lib.hid hsz
 clear hsz
 go_enter_defers Tryz.func228, Tryz.ntmps228
 go_wp2_with first
  | (refine h.mono ?_; rintro e w' ⟨rfl, hbl⟩)
 have hy1 := (hbl.block w.heap.size (by have := Hsz.out; omega)).trans hz1
 have hy2 := (hbl.block (w.heap.size + 1) (by have := Hsz.out; omega)).trans hz2
 have hbw : Below w.heap.size w w' := hb2.trans (hbl.mono hb2.size)
 refine leaves_cons (f := 246) (args := #[.pointer (some ⟨w.heap.size, 0, none⟩), .pointer (some ⟨w.heap.size + 1, 0, none⟩)]) (by simp) (by simp [go_sem]) ?_
 refine (catch_wrong_div w.heap.size c [] _ _ _ _ _ _ hy1 hy2).mono ?_
 rintro e u' w'' ⟨rfl, rfl, hx1, hx2, hbx⟩
 obtain ⟨v0, v1, v2, v3⟩ := cL4 hx1
 have ve := cell_at hx2 0 _ rfl
 refine ⟨.tuple #[.agg #[.bool false, .slice none 0 0, .bool false, .slice none 0 0], .int .i64 c], ?_, hbw.trans hbx, rfl⟩
 simp [results, Tryz.results228, go_sem, v0, v1, v2, v3, ve]
theorem catch_idle_str (p q : Addr) (w : World) :
 CallsD Tryz.prog 217 #[.pointer (some p), .pointer (some q)] .returning w fun e u' w' => e = .returned (.tuple #[]) ∧ u' = .returning ∧ w' = w := by
 refine callsD_of_wpS Tryz.func217 rfl fun c₀ cs hu => ?_
 apply wpS_seq
 apply wpS_region
 simp [wpOpsS, go_sem, recoverD, hu, Tryz.ntmps217, Exit.thenS]
 apply wpS_seq
 apply wpS_seq
 apply wpS_region
 simp [wpOpsS, go_sem, Exit.thenS]
 refine wpS_cond (t := true) (by simp [Act.eval, Array.replicate]) ?_
 simp only [if_true]
 refine wpS_of_wp (wp_ret ?_)
 cases c₀
 simp_all [bodyPostS, results, Tryz.results217, Exit.thenS]
theorem catch_wrong_str (g : Nat) (x : Int) (older : List PanicEntry) (a0 : Value) (c : Value) (w : World) (h1 : w.heap[g]? = some (.cells #[a0] 9 (0, 0))) (h2 : w.heap[g + 1]? = some (.cells #[c] 30 (0, 0))) :
 CallsD Tryz.prog 217 #[.pointer (some ⟨g, 0, none⟩), .pointer (some ⟨g + 1, 0, none⟩)] (.panicking ({ v := .iface 201 (.agg #[.int .i64 x]), recovered := false } :: older)) w fun e u' w' =>
  e = .returned (.tuple #[]) ∧ u' = .panicking ({ v := .iface 201 (.agg #[.int .i64 x]), recovered := true } :: older) ∧
   w'.heap[g]? = some (.cells #[.string ⟨#[]⟩] 9 (0, 0)) ∧ w'.heap[g + 1]? = some (.cells #[.int .i64 x] 30 (0, 0)) ∧ Below g w w' := by
 refine callsD_of_wpS Tryz.func217 rfl fun c₀ cs hu => ?_
 apply wpS_seq
 apply wpS_region
 simp [wpOpsS, go_sem, recoverD, hu, Tryz.ntmps217, Exit.thenS]
 refine wpS_of_wp ?_
 have hta := assert_wrong x
 have x0 := cell_at h1 0 a0 rfl
 have y0 := frozen_at h1 0
 have xe := cell_at h2 0 c rfl
 have ye := frozen_at h2 0
 simp only [Array.replicate_succ, Array.replicate_zero, List.push_toArray, List.nil_append, List.cons_append]
 go_wp2_with fail
 have hl1 := (Array.getElem?_eq_some_iff.1 h1).1
 have hl2 := (Array.getElem?_eq_some_iff.1 h2).1
 obtain ⟨W4, hW4⟩ : ∃ W4, (w.alloc (.cells #[.int .i64 x] 201)) = W4 := ⟨_, rfl⟩
 have hz1 : W4.heap[w.heap.size]? = some (.cells #[.int .i64 x] 201 (0, 0)) := by rw [← hW4]; exact World.alloc_heap_new w _
 have hz3 : W4.heap[g]? = some (.cells #[a0] 9 (0, 0)) := by rw [← hW4]; exact (Below.heap_alloc _ _ _ hl1).trans h1
 have hz4 : W4.heap[g + 1]? = some (.cells #[c] 30 (0, 0)) := by rw [← hW4]; exact (Below.heap_alloc _ _ _ hl2).trans h2
 have hbl : Below g w W4 := by rw [← hW4]; exact (Below.refl g w).alloc (by omega) _
 try rw [hW4]
 clear hW4 x0 y0 xe ye h1 h2
 have z0 := cell_at hz1 0 _ rfl
 have x0 := cell_at hz3 0 a0 rfl
 have y0 := frozen_at hz3 0
 have xe := cell_at hz4 0 c rfl
 have ye := frozen_at hz4 0
 have n1 : ¬ g = w.heap.size := by omega
 have n2 : ¬ g = w.heap.size + 1 := by omega
 have n3 : ¬ w.heap.size = g := by omega
 have n4 : ¬ w.heap.size + 1 = g := by omega
 have n5 : ¬ g + 1 = w.heap.size := by omega
 have n6 : ¬ g + 1 = w.heap.size + 1 := by omega
 have n7 : ¬ w.heap.size = g + 1 := by omega
 have n8 : ¬ w.heap.size + 1 = g + 1 := by omega
 generalize w.heap.size = bq at *
 go_region
 cases c₀
 simp (config := { zetaDelta := true }) only [bodyPostS, results, Tryz.results217]
 refine ⟨trivial, _, rfl, .tuple #[], by simp [go_sem], rfl, rfl, ?_, ?_, ?_⟩
 · exact (Below.heap_setCell _ _ _ g (by simp)).trans (set_blk (hz3) 0 _)
 · exact set_blk ((Below.heap_setCell _ _ _ (g + 1) (by simp)).trans (hz4)) 0 _
 · exact below_drew (((hbl).setCell (Nat.le_refl _) _).setCell (by simp) _)
theorem try_str_ok (G : Nat) (caps : Array Value) (hG : ∀ (args : Array Value) (w : World), (callFunc G args).run Tryz.prog w = .ok (.enter G args) w) (w : World) (W2 : World)
 (hW2 : (w.alloc (.cells #[.string ⟨#[]⟩] 9)).alloc (.cells #[.int .i64 0] 30) = W2) (R : ByteArray → World → Prop)
 (h : Calls Tryz.prog G caps W2 fun e w' => ∃ (s : ByteArray), e = .returned (.string s) ∧ R s w' ∧ Below W2.heap.size W2 w') :
 Calls Tryz.prog 170 #[.func (.func G) #[] caps] w fun e w' =>
  ∃ (s : ByteArray) (w1 : World), R s w1 ∧ Below w.heap.size w w' ∧ (∀ A l, Rd w1 A l → Rd w' A l) ∧ e = .returned (.tuple #[.string s, .int .i64 0]) := by
 have hmf := mkf
 have hz1 : W2.heap[w.heap.size]? = some (.cells #[.string ⟨#[]⟩] 9 (0, 0)) := by rw [← hW2]; exact (Below.heap_alloc _ _ _ (by simp)).trans (World.alloc_heap_new w _)
 have hz2 : W2.heap[w.heap.size + 1]? = some (.cells #[.int .i64 0] 30 (0, 0)) := by rw [← hW2]; have := World.alloc_heap_new (w.alloc (.cells #[.string ⟨#[]⟩] 9)) (.cells #[.int .i64 0] 30); rwa [World.size_alloc] at this
 have hsz : W2.heap.size = w.heap.size + 2 := by rw [← hW2]; simp
 have hb2 : Below w.heap.size w W2 := by rw [← hW2]; exact ((Below.refl _ w).alloc (Nat.le_refl _) _).alloc (by simp) _
 have Hsz := Lib.hid hsz
 clear hsz
 go_enter_defers Tryz.func170, Tryz.ntmps170
 go_wp2_with first
  | (refine h.mono ?_; rintro e w' ⟨s, rfl, hR, hbl⟩; have hy1 := (hbl.block w.heap.size (by have := Hsz.out; omega)).trans hz1; have hy2 := (hbl.block (w.heap.size + 1) (by have := Hsz.out; omega)).trans hz2; have x0 := cell_at hy1 0 _ rfl; have y0 := frozen_at hy1 0; have xe := cell_at hy2 0 _ rfl; have ye := frozen_at hy2 0)
 obtain ⟨X, hX⟩ : ∃ X, ((w'.setCell ⟨w.heap.size, 0, none⟩ (.string s)).setCell ⟨w.heap.size + 1, 0, none⟩ (.int .i64 0)) = X := ⟨_, rfl⟩
 have hx1 : X.heap[w.heap.size]? = some (.cells #[.string s] 9 (0, 0)) := by rw [← hX]; exact (Below.heap_setCell _ _ _ _ (by simp)).trans (set_blk (hy1) 0 _)
 have hx2 : X.heap[w.heap.size + 1]? = some (.cells #[.int .i64 0] 30 (0, 0)) := by rw [← hX]; exact set_blk ((Below.heap_setCell _ _ _ _ (by simp)).trans (hy2)) 0 _
 have hbX : Below w.heap.size w X := by rw [← hX]; exact ((hb2.trans (hbl.mono hb2.size)).setCell (Nat.le_refl _) _).setCell (by simp) _
 have hRd : ∀ A l, Rd w' A l → Rd X A l := by
  intro A l hA
  rw [← hX]
  have e1 := hA.ne hy1 (by intro i x h; rcases i with _ | i <;> simp at h)
  have e2 := hA.ne hy2 (by intro i x h; rcases i with _ | i <;> simp at h)
  exact ((hA).setNe e1).setNe e2
 rw [hX]
 refine leaves_cons (f := 217) (args := #[.pointer (some ⟨w.heap.size, 0, none⟩), .pointer (some ⟨w.heap.size + 1, 0, none⟩)]) (by simp) (by simp [go_sem]) ?_
 refine (catch_idle_str ⟨w.heap.size, 0, none⟩ ⟨w.heap.size + 1, 0, none⟩ _).mono ?_
 rintro e u' w'' ⟨rfl, rfl, rfl⟩
 have v0 := cell_at hx1 0 _ rfl
 have ve := cell_at hx2 0 _ rfl
 refine ⟨.tuple #[.string s, .int .i64 0], ?_, s, w', hR, hbX, hRd, rfl⟩
 simp [results, Tryz.results170, go_sem, v0, ve]
theorem try_str_wrong (G : Nat) (caps : Array Value) (hG : ∀ (args : Array Value) (w : World), (callFunc G args).run Tryz.prog w = .ok (.enter G args) w) (w : World) (W2 : World)
 (hW2 : (w.alloc (.cells #[.string ⟨#[]⟩] 9)).alloc (.cells #[.int .i64 0] 30) = W2) (c : Int)
 (h : Calls Tryz.prog G caps W2 fun e w' => e = .panicked (wrong c) ∧ Below W2.heap.size W2 w') :
 Calls Tryz.prog 170 #[.func (.func G) #[] caps] w fun e w' =>
  Below w.heap.size w w' ∧ e = .returned (.tuple #[.string ⟨#[]⟩, .int .i64 c]) := by
 have hmf := mkf
 have hz1 : W2.heap[w.heap.size]? = some (.cells #[.string ⟨#[]⟩] 9 (0, 0)) := by rw [← hW2]; exact (Below.heap_alloc _ _ _ (by simp)).trans (World.alloc_heap_new w _)
 have hz2 : W2.heap[w.heap.size + 1]? = some (.cells #[.int .i64 0] 30 (0, 0)) := by rw [← hW2]; have := World.alloc_heap_new (w.alloc (.cells #[.string ⟨#[]⟩] 9)) (.cells #[.int .i64 0] 30); rwa [World.size_alloc] at this
 have hsz : W2.heap.size = w.heap.size + 2 := by rw [← hW2]; simp
 have hb2 : Below w.heap.size w W2 := by rw [← hW2]; exact ((Below.refl _ w).alloc (Nat.le_refl _) _).alloc (by simp) _
 have Hsz := Lib.hid hsz
 clear hsz
 go_enter_defers Tryz.func170, Tryz.ntmps170
 go_wp2_with first
  | (refine h.mono ?_; rintro e w' ⟨rfl, hbl⟩)
 have hy1 := (hbl.block w.heap.size (by have := Hsz.out; omega)).trans hz1
 have hy2 := (hbl.block (w.heap.size + 1) (by have := Hsz.out; omega)).trans hz2
 have hbw : Below w.heap.size w w' := hb2.trans (hbl.mono hb2.size)
 refine leaves_cons (f := 217) (args := #[.pointer (some ⟨w.heap.size, 0, none⟩), .pointer (some ⟨w.heap.size + 1, 0, none⟩)]) (by simp) (by simp [go_sem]) ?_
 refine (catch_wrong_str w.heap.size c [] _ _ _ hy1 hy2).mono ?_
 rintro e u' w'' ⟨rfl, rfl, hx1, hx2, hbx⟩
 have v0 := cell_at hx1 0 _ rfl
 have ve := cell_at hx2 0 _ rfl
 refine ⟨.tuple #[.string ⟨#[]⟩, .int .i64 c], ?_, hbw.trans hbx, rfl⟩
 simp [results, Tryz.results170, go_sem, v0, ve]
theorem heap_drew (W : World) (g : Nat) {o : Option Obj} (h : W.heap[g]? = o) : W.drew.heap[g]? = o := h
end Nm
end Go.Proofs.YtjghnghceeijeaaGreatDoor
