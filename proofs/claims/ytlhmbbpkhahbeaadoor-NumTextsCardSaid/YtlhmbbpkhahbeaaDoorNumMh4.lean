/-
  What the exported functions hand back, in whole numbers; try over api.Int once more.
  Sub and Mul.
  try over three other types.
  try over shared.
  Div.
  Div, exported.
-/
import Derived.Test.YtlhmbbpkhahbeaaDoorNumMh3
import Derived.Laws.ResultCell
import Derived.Deep.RegionHeld2
namespace Go.Proofs.YtlhmbbpkhahbeaaDoor
namespace Nm
open Go.RowKit Go.Shelf Go.BigFrame
attribute [local go_sem] Oper.semAt_some

/-- the sign and the limbs of a whole number -/
structure IsZ (s : Bool) (l : List Nat) (z : Int) : Prop where
  sgn : s = decide (z < 0)
  abs : l = lim z.natAbs

theorem IsZ.canon {s : Bool} {l : List Nat} {z : Int} (h : IsZ s l z) : Canon l := by rw [h.abs]; exact canon_lim _
theorem IsZ.val {s : Bool} {l : List Nat} {z : Int} (h : IsZ s l z) : val l = z.natAbs := by rw [h.abs, val_lim]
theorem IsZ.toZ {s : Bool} {l : List Nat} {z : Int} (h : IsZ s l z) : toZ s l = z := by
  unfold Nm.toZ
  rw [h.val, h.sgn]
  by_cases hz : z < 0
  · simp [hz]; omega
  · simp [hz]; omega
theorem IsZ.sign {s : Bool} {l : List Nat} {z : Int} (h : IsZ s l z) (hs : s = true) : l ≠ [] := by
  rw [h.sgn, decide_eq_true_eq] at hs
  rw [h.abs]
  intro h0
  rw [lim_nil] at h0
  omega
theorem IsZ.isInt {s : Bool} {l : List Nat} {z : Int} (h : IsZ s l z) (hl : l.length ≤ 300) : IsInt s l := ⟨h.canon, hl, h.sign⟩
theorem IsInt.isZ {s : Bool} {l : List Nat} (h : IsInt s l) : IsZ s l (toZ s l) := by
  unfold toZ
  constructor
  · cases s
    · simp <;> omega
    · have := val_pos_of_canon h.canon (h.sign rfl)
      simp <;> omega
  · rw [show (if s = true then -(Nm.val l : Int) else (Nm.val l : Int)).natAbs = Nm.val l from by split <;> omega, lim_val h.canon]
theorem isZ_zero : IsZ false [] 0 := ⟨rfl, by simp [lim_zero]⟩
theorem isZ_nat (n : Nat) : IsZ false (lim n) n := ⟨by simp <;> omega, by simp⟩
theorem isZ_of (s : Bool) (n : Nat) : IsZ (s && n != 0) (lim n) (if s then -(n : Int) else n) := by
  constructor
  · cases s
    · simp <;> omega
    · by_cases h : n = 0
      · subst h; rfl
      · have h1 : (n != 0) = true := by simpa using h
        rw [h1, Bool.true_and, if_pos rfl]
        exact (decide_eq_true (show -(n : Int) < 0 by omega)).symm
  · rw [show (if s = true then -(n : Int) else (n : Int)).natAbs = n from by split <;> omega]

theorem okI_of {s : Bool} {l : List Nat} {z : Int} (h : IsZ s l z) (hl : l.length ≤ 300) : okI s l = true := by
  unfold okI
  by_cases h0 : l.length = 0
  · rw [if_pos h0]
    cases s
    · rfl
    · exact absurd (List.length_eq_zero_iff.1 h0) (h.sign rfl)
  · rw [if_neg h0]
    have hne : l ≠ [] := fun e => h0 (by rw [e]; rfl)
    have ht : l.getD (l.length - 1) 0 = l.getLast hne := by rw [List.getLast_eq_getElem, List.getD_eq_getElem?_getD, List.getElem?_eq_getElem (by omega)]; rfl
    rw [ht]
    simp [hl, h.canon.2 hne]

theorem addS_z (s1 s2 : Bool) (a b : Nat) : IsZ ((addS s1 a s2 b).1 && (addS s1 a s2 b).2 != 0) (lim (addS s1 a s2 b).2) ((if s1 then -(a : Int) else a) + (if s2 then -(b : Int) else b)) := by
  have := isZ_of (addS s1 a s2 b).1 (addS s1 a s2 b).2
  rwa [show (if (addS s1 a s2 b).1 = true then -((addS s1 a s2 b).2 : Int) else ((addS s1 a s2 b).2 : Int)) = (if s1 then -(a : Int) else a) + (if s2 then -(b : Int) else b) from by
    unfold addS
    cases s1 <;> cases s2 <;> simp <;> (try split) <;> (try simp) <;> omega] at this

/-- a result: the number, or the error of one that is too large -/
def fitZ (z : Int) : Int × Int := if (lim z.natAbs).length ≤ 300 then (z, 0) else (0, 3)

def addR (n1 : Bool) (l1 : List Nat) (n2 : Bool) (l2 : List Nat) : Int × Int := if (okI n1 l1 && okI n2 l2) = true then fitZ (toZ n1 l1 + toZ n2 l2) else (0, 1)
def subR (n1 : Bool) (l1 : List Nat) (n2 : Bool) (l2 : List Nat) : Int × Int := if (okI n1 l1 && okI n2 l2) = true then fitZ (toZ n1 l1 - toZ n2 l2) else (0, 1)
def mulR (n1 : Bool) (l1 : List Nat) (n2 : Bool) (l2 : List Nat) : Int × Int := if (okI n1 l1 && okI n2 l2) = true then fitZ (toZ n1 l1 * toZ n2 l2) else (0, 1)

/-- an Int that is handed back -/
def RetZ (z : Int) (w : World) (e : Ending) (w' : World) : Prop :=
  ∃ s A c l, e = .returned (iv s A l.length c) ∧ IsZ s l z ∧ l.length ≤ c ∧ Rd w' A l ∧ Below w.heap.size w w'

/-- an Int and an error that are handed back -/
def RetZE (z er : Int) (w : World) (e : Ending) (w' : World) : Prop :=
  ∃ s A c l, e = .returned (.tuple #[iv s A l.length c, .int .i64 er]) ∧ IsZ s l z ∧ l.length ≤ c ∧ Rd w' A l ∧ Below w.heap.size w w'

/-- a closure under 'try' that hands back an Int or panics -/
def PostZE (z er : Int) (w : World) (e : Ending) (w' : World) : Prop :=
  (er = 0 → RetZ z w e w') ∧ (er ≠ 0 → e = .panicked (wrong er) ∧ z = 0 ∧ Below w.heap.size w w')

theorem PostZE.ok {z : Int} {w : World} {e : Ending} {w' : World} (h : RetZ z w e w') : PostZE z 0 w e w' := ⟨fun _ => h, fun h => absurd rfl h⟩
theorem PostZE.no {er : Int} {w : World} {e : Ending} {w' : World} (h : e = .panicked (wrong er) ∧ Below w.heap.size w w') (hn : er ≠ 0) : PostZE 0 er w e w' := ⟨fun h => absurd h hn, fun _ => ⟨h.1, rfl, h.2⟩⟩
theorem RetInt.z {s : Bool} {n : Nat} {z : Int} {w : World} {e : Ending} {w' : World} (h : RetInt s n w e w') (hz : IsZ s (lim n) z) : RetZ z w e w' := by
  obtain ⟨A, c, rfl, h1, h2, h3⟩ := h
  exact ⟨s, A, c, lim n, rfl, hz, h1, h2, h3⟩

theorem try_int (G : Nat) (caps : Array Value) (hG : ∀ (args : Array Value) (w : World), (callFunc G args).run Tryd.prog w = .ok (.enter G args) w) (w : World) (z er : Int)
    (h : Calls Tryd.prog G caps ((w.alloc (.cells #[.bool false, .slice none 0 0] 24)).alloc (.cells #[.int .i64 0] 28)) (PostZE z er ((w.alloc (.cells #[.bool false, .slice none 0 0] 24)).alloc (.cells #[.int .i64 0] 28)))) (hz : er ≠ 0 → z = 0) :
    Calls Tryd.prog 63 #[.func (.func G) #[] caps] w (RetZE z er w) := by
  by_cases h0 : er = 0
  · subst h0
    refine (try_int_ok G caps hG w _ rfl (fun s A n c w1 => ∃ l, n = l.length ∧ IsZ s l z ∧ l.length ≤ c ∧ Rd w1 A l) (h.mono ?_)).mono ?_
    · rintro e w' ⟨h1, -⟩
      obtain ⟨s, A, c, l, rfl, h2, h3, h4, h5⟩ := h1 rfl
      exact ⟨s, A, l.length, c, rfl, ⟨l, rfl, h2, h3, h4⟩, h5⟩
    · rintro e w' ⟨s, A, n, c, w1, ⟨l, rfl, h2, h3, h4⟩, h5, h6, rfl⟩
      exact ⟨s, A, c, l, rfl, h2, h3, h6 _ _ h4, h5⟩
  · obtain rfl := hz h0
    refine (try_int_wrong G caps hG w _ rfl er (h.mono ?_)).mono ?_
    · rintro e w' ⟨-, h1⟩
      obtain ⟨h2, -, h3⟩ := h1 h0
      exact ⟨h2, h3⟩
    · rintro e w' ⟨h1, rfl⟩
      exact ⟨false, none, 0, [], rfl, isZ_zero, Nat.le_refl _, Rd.nil _ _, h1⟩

theorem add1_calls (g1 g2 : Nat) (n1 n2 : Bool) (A1 A2 : Option Addr) (c1 c2 : Nat) (l1 l2 : List Nat) (w : World) (h1 : IntBox w g1 n1 A1 c1 l1) (h2 : IntBox w g2 n2 A2 c2 l2) :
    Calls Tryd.prog 95 #[.pointer (some ⟨g1, 0, none⟩), .pointer (some ⟨g2, 0, none⟩)] w (PostZE (addR n1 l1 n2 l2).1 (addR n1 l1 n2 l2).2 w) := by
  unfold addR
  by_cases hok : (okI n1 l1 && okI n2 l2) = true
  · rw [if_pos hok]
    have hok' := hok
    rw [Bool.and_eq_true] at hok'
    have k1 := okI_isInt h1.rd.words hok'.1
    have k2 := okI_isInt h2.rd.words hok'.2
    have hz := addS_z n1 n2 (val l1) (val l2)
    have hz' : toZ n1 l1 + toZ n2 l2 = (if n1 then -(val l1 : Int) else val l1) + (if n2 then -(val l2 : Int) else val l2) := rfl
    rw [← hz'] at hz
    unfold fitZ
    have ha := hz.abs
    rw [← ha]
    by_cases hs : (lim (addS n1 (val l1) n2 (val l2)).2).length ≤ 300
    · rw [if_pos hs]
      exact (add1_ok g1 g2 n1 n2 A1 A2 c1 c2 l1 l2 w h1 h2 k1 k2 hok hs).mono fun e w' h => .ok (h.z hz)
    · rw [if_neg hs]
      exact (add1_big g1 g2 n1 n2 A1 A2 c1 c2 l1 l2 w h1 h2 k1 k2 hok (by omega)).mono fun e w' h => .no h (by decide)
  · rw [if_neg hok]
    exact (add1_bad g1 g2 n1 n2 A1 A2 c1 c2 l1 l2 w h1 h2 (by simpa using hok)).mono fun e w' h => .no h (by decide)

theorem fit_zero (z : Int) : (fitZ z).2 ≠ 0 → (fitZ z).1 = 0 := by
  unfold fitZ
  split <;> simp
theorem addR_zero (n1 : Bool) (l1 : List Nat) (n2 : Bool) (l2 : List Nat) : (addR n1 l1 n2 l2).2 ≠ 0 → (addR n1 l1 n2 l2).1 = 0 := by
  unfold addR
  split
  · exact fit_zero _
  · simp
theorem subR_zero (n1 : Bool) (l1 : List Nat) (n2 : Bool) (l2 : List Nat) : (subR n1 l1 n2 l2).2 ≠ 0 → (subR n1 l1 n2 l2).1 = 0 := by
  unfold subR
  split
  · exact fit_zero _
  · simp
theorem mulR_zero (n1 : Bool) (l1 : List Nat) (n2 : Bool) (l2 : List Nat) : (mulR n1 l1 n2 l2).2 ≠ 0 → (mulR n1 l1 n2 l2).1 = 0 := by
  unfold mulR
  split
  · exact fit_zero _
  · simp

/-- a result in a cell of type Int, and one in a slot -/
theorem ret_cell_tmp {fn : Func} {p u : Tmp} (h : fn.results = #[.cell p 24, .tmp u]) {a : Act} {w : World} {g : Nat} {x y : Value} {R : Ending → World → Prop} (hd0 : a.defers = []) (hp : a.tmps.getD p undef = .pointer (some ⟨g, 0, none⟩))
    (hg : w.heap[g]? = some (.cells #[x, y] 24 (0, 0))) (hR : R (.returned (.tuple #[.agg #[x, y], a.tmps.getD u undef])) w) : bodyPost Tryd.prog fn R .ret a w := by
  refine bodyPost_ret (v := .tuple #[.agg #[x, y], a.tmps.getD u undef]) ?_ hd0 hR
  rw [results_cell_tmp h, hp]
  simp [asAddr, Result.andThen, run_loadVar_row w g 24 24 #[x, y] (0, 0) _ hg Tryd.underlying24 rfl int_size]

set_option maxRecDepth 100000 in
set_option maxHeartbeats 2000000 in
theorem Add_calls (n1 n2 : Bool) (A1 A2 : Option Addr) (c1 c2 : Nat) (l1 l2 : List Nat) (w : World) (h1 : Rd w A1 l1) (h2 : Rd w A2 l2) (hc1 : l1.length ≤ c1) (hc2 : l2.length ≤ c2) :
    Calls Tryd.prog 42 #[iv n1 A1 l1.length c1, iv n2 A2 l2.length c2] w (RetZE (addR n1 l1 n2 l2).1 (addR n1 l1 n2 l2).2 w) := by
  have hmf : ∀ (fn : Fn) (first cap : Array Value) (w : World), (Instr.makeFunc fn first cap).run Tryd.prog w = .ok (.func fn first cap) w := fun _ _ _ _ => rfl
  obtain ⟨W3, hW3⟩ : ∃ W3, (((w.alloc (.cells #[.bool n1, .slice A1 l1.length c1] 24)).alloc (.cells #[.bool n2, .slice A2 l2.length c2] 24)).alloc (.cells #[.bool false, .slice none 0 0] 24)) = W3 := ⟨_, rfl⟩
  have hb3 : Below w.heap.size w W3 := by rw [← hW3]; exact (((Below.refl _ w).alloc (Nat.le_refl _) _).alloc (by simp) _).alloc (by simp; omega) _
  have hB1 : IntBox W3 w.heap.size n1 A1 c1 l1 := ⟨by rw [← hW3]; exact (Below.heap_alloc _ _ _ (by simp; omega)).trans ((Below.heap_alloc _ _ _ (by simp)).trans (World.alloc_heap_new w _)), h1.on hb3, hc1⟩
  have hB2 : IntBox W3 (w.heap.size + 1) n2 A2 c2 l2 := ⟨by rw [← hW3]; exact (Below.heap_alloc _ _ _ (by simp)).trans (two_blk w _ _), h2.on hb3, hc2⟩
  have hR : Blk W3 (w.heap.size + 1 + 1) #[.bool false, .slice none 0 0] 24 := ⟨by rw [← hW3]; have := World.alloc_heap_new ((w.alloc (.cells #[.bool n1, .slice A1 l1.length c1] 24)).alloc (.cells #[.bool n2, .slice A2 l2.length c2] 24)) (.cells #[.bool false, .slice none 0 0] 24); rwa [World.size_alloc, World.size_alloc] at this⟩
  have hB4 : ∀ o o', Below W3.heap.size W3 ((W3.alloc o).alloc o') := fun o o' => ((Below.refl _ W3).alloc (Nat.le_refl _) _).alloc (by simp) _
  have ht := try_int 95 #[.pointer (some ⟨w.heap.size, 0, none⟩), .pointer (some ⟨w.heap.size + 1, 0, none⟩)] (enters_of Tryd.func95 (by kernel_rfl) rfl) W3 _ _ (add1_calls _ _ n1 n2 A1 A2 c1 c2 l1 l2 _ (hB1.on (hB4 _ _)) (hB2.on (hB4 _ _))) (addR_zero n1 l1 n2 l2)
  generalize (addR n1 l1 n2 l2).1 = z at *
  generalize (addR n1 l1 n2 l2).2 = er at *
  go_enter Tryd.func42, Tryd.ntmps42
  go_wp2_with (go_at_call 63; refine ht.mono ?_; rintro e w' ⟨s, A, c, l, rfl, hz, hc, hr, hb⟩; have hq := hR.on hb; have z0 := cell_at hq.h 0 _ rfl; have z1 := cell_at hq.h 1 _ rfl; have u0 := frozen_at hq.h 0; have u1 := frozen_at hq.h 1)
  exact ret_cell_tmp (x := .bool s) (y := .slice A l.length c) rfl rfl rfl (set_blk (set_blk hq.h 0 _) 1 _) ⟨s, A, c, l, rfl, hz, hc, rd_sets hr hq _ _, ((hb3.trans (hb.mono hb3.size)).setCell (by dsimp only; omega) _).setCell (by dsimp only; omega) _⟩

end Nm
end Go.Proofs.YtlhmbbpkhahbeaaDoor
namespace Go.Proofs.YtlhmbbpkhahbeaaDoor
namespace Nm
open Go.RowKit Go.Shelf Go.BigFrame
attribute [local go_sem] Oper.semAt_some

/-- a contract that says that the call panics: the way back is left open under False -/
theorem calls_panic {P : Program} {f : FuncId} {args : Array Value} {w : World} {c : List PanicEntry} {B : World → Prop} {R : Ending → World → Prop} (h : Calls P f args w fun e w' => e = .panicked c ∧ B w')
    (hp : ∀ w', B w' → R (.panicked c) w') (_ : ∀ v w', False → R (.returned v) w') : Calls P f args w R := h.mono (by rintro e w' ⟨rfl, hb⟩; exact hp _ hb)

theorem toZ_not (n : Bool) (l : List Nat) : toZ (!n) l = -toZ n l := by
  unfold toZ
  cases n <;> simp

set_option maxRecDepth 100000 in
set_option maxHeartbeats 2000000 in
theorem sub1_bad (g1 g2 : Nat) (n1 n2 : Bool) (A1 A2 : Option Addr) (c1 c2 : Nat) (l1 l2 : List Nat) (w : World) (h1 : IntBox w g1 n1 A1 c1 l1) (h2 : IntBox w g2 n2 A2 c2 l2) (hbad : (okI n1 l1 && okI n2 l2) = false) :
    Calls Tryd.prog 97 #[.pointer (some ⟨g1, 0, none⟩), .pointer (some ⟨g2, 0, none⟩)] w fun e w' => e = .panicked (wrong 1) ∧ Below w.heap.size w w' := by
  have x0 := cell_at h1.blk 0 _ rfl
  have x1 := cell_at h1.blk 1 _ rfl
  have y0 := cell_at h2.blk 0 _ rfl
  have y1 := cell_at h2.blk 1 _ rfl
  have t1 := (Array.getElem?_eq_some_iff.1 h1.blk).1
  have t2 := (Array.getElem?_eq_some_iff.1 h2.blk).1
  have hb2 : ∀ a b, Below w.heap.size w ((w.alloc a).alloc b) := fun a b => ((Below.refl _ w).alloc (Nat.le_refl _) _).alloc (by simp) _
  have hf := fun a => formed_two (w.heap.size + 1) n1 n2 A1 A2 c1 c2 l1 l2 _ (two_blk w a (.cells #[.bool n1, .slice A1 l1.length c1, .bool n2, .slice A2 l2.length c2] 24)) (h1.rd.on (hb2 _ _)) (h2.rd.on (hb2 _ _)) h1.cap h2.cap
  go_enter Tryd.func97, Tryd.ntmps97
  go_wp2_with (go_at_call 55; refine (hf _).mono ?_; rintro e w' ⟨-, hp, hbl⟩; cases hp hbad)
  exact ⟨rfl, rfl, (hb2 _ _).trans (hbl.mono (hb2 _ _).size)⟩

set_option maxRecDepth 100000 in
set_option maxHeartbeats 2000000 in
theorem sub1_ok (g1 g2 : Nat) (n1 n2 : Bool) (A1 A2 : Option Addr) (c1 c2 : Nat) (l1 l2 : List Nat) (w : World) (h1 : IntBox w g1 n1 A1 c1 l1) (h2 : IntBox w g2 n2 A2 c2 l2) (k1 : IsInt n1 l1) (k2 : IsInt n2 l2) (hok : (okI n1 l1 && okI n2 l2) = true)
    (hs : (lim (addS n1 (val l1) (!n2) (val l2)).2).length ≤ 300) :
    Calls Tryd.prog 97 #[.pointer (some ⟨g1, 0, none⟩), .pointer (some ⟨g2, 0, none⟩)] w (RetInt ((addS n1 (val l1) (!n2) (val l2)).1 && (addS n1 (val l1) (!n2) (val l2)).2 != 0) (addS n1 (val l1) (!n2) (val l2)).2 w) := by
  have x0 := cell_at h1.blk 0 _ rfl
  have x1 := cell_at h1.blk 1 _ rfl
  have y0 := cell_at h2.blk 0 _ rfl
  have y1 := cell_at h2.blk 1 _ rfl
  have t1 := (Array.getElem?_eq_some_iff.1 h1.blk).1
  have t2 := (Array.getElem?_eq_some_iff.1 h2.blk).1
  have hb2 : ∀ a b, Below w.heap.size w ((w.alloc a).alloc b) := fun a b => ((Below.refl _ w).alloc (Nat.le_refl _) _).alloc (by simp) _
  have hf := fun a => formed_two (w.heap.size + 1) n1 n2 A1 A2 c1 c2 l1 l2 _ (two_blk w a (.cells #[.bool n1, .slice A1 l1.length c1, .bool n2, .slice A2 l2.length c2] 24)) (h1.rd.on (hb2 _ _)) (h2.rd.on (hb2 _ _)) h1.cap h2.cap
  have ht := fun W (hW : Below w.heap.size w W) => total_calls n1 (!n2) A1 A2 c1 c2 l1 l2 W (h1.rd.on hW) (h2.rd.on hW) h1.cap h2.cap k1.canon k2.canon (by have := k1.small; omega) (by have := k2.small; omega)
  generalize addS n1 (val l1) (!n2) (val l2) = r at *
  obtain ⟨s, m⟩ := r
  dsimp only at *
  have hw := fun W A c (h : Rd W A (lim m)) (hc : (lim m).length ≤ c) => whole_ok s A c (lim m) W h hc (by rw [val_lim]; exact hs)
  simp only [val_lim] at hw
  go_enter Tryd.func97, Tryd.ntmps97
  go_wp2_with first
    | (go_at_call 55; refine (hf _).mono ?_; rintro e w' ⟨hp, -, hbl⟩; cases hp hok; have hb3 := (hb2 _ _).trans (hbl.mono (hb2 _ _).size); have x0' := cell_at ((hb3.block g1 t1).trans h1.blk) 0 _ rfl; have x1' := cell_at ((hb3.block g1 t1).trans h1.blk) 1 _ rfl; have y0' := cell_at ((hb3.block g2 t2).trans h2.blk) 0 _ rfl; have y1' := cell_at ((hb3.block g2 t2).trans h2.blk) 1 _ rfl)
    | (go_at_call 96; refine (ht _ hb3).mono ?_; rintro e w4 ⟨A4, c4, rfl, n4, r4, b4⟩)
    | (go_at_call 60; refine (hw _ A4 c4 r4 n4).mono ?_; rintro e w5 ⟨A5, c5, rfl, n5, r5, b5⟩; have hq0 := two_old w (.cells #[.bool false, .slice none 0 0] 24) (.cells #[.bool n1, .slice A1 l1.length c1, .bool n2, .slice A2 l2.length c2] 24) rfl; have hq := hq0.on hbl; have hq' := hq.on b4; have hq5 := hq'.on b5; have z0 := cell_at hq5.h 0 _ rfl; have z1 := cell_at hq5.h 1 _ rfl; have u0 := frozen_at hq5.h 0; have u1 := frozen_at hq5.h 1)
  exact ret_cell rfl rfl rfl (set_blk (set_blk hq5.h 0 _) 1 _) ⟨A5, c5, rfl, n5, rd_sets r5 hq5 _ _, (((((hb3.trans (b4.mono hb3.size)).trans (b5.mono (hb3.trans (b4.mono hb3.size)).size))).setCell (Nat.le_refl _) _).setCell (Nat.le_refl _) _)⟩

set_option maxRecDepth 100000 in
set_option maxHeartbeats 2000000 in
theorem sub1_big (g1 g2 : Nat) (n1 n2 : Bool) (A1 A2 : Option Addr) (c1 c2 : Nat) (l1 l2 : List Nat) (w : World) (h1 : IntBox w g1 n1 A1 c1 l1) (h2 : IntBox w g2 n2 A2 c2 l2) (k1 : IsInt n1 l1) (k2 : IsInt n2 l2) (hok : (okI n1 l1 && okI n2 l2) = true)
    (hs : 300 < (lim (addS n1 (val l1) (!n2) (val l2)).2).length) :
    Calls Tryd.prog 97 #[.pointer (some ⟨g1, 0, none⟩), .pointer (some ⟨g2, 0, none⟩)] w fun e w' => e = .panicked (wrong 3) ∧ Below w.heap.size w w' := by
  have x0 := cell_at h1.blk 0 _ rfl
  have x1 := cell_at h1.blk 1 _ rfl
  have y0 := cell_at h2.blk 0 _ rfl
  have y1 := cell_at h2.blk 1 _ rfl
  have t1 := (Array.getElem?_eq_some_iff.1 h1.blk).1
  have t2 := (Array.getElem?_eq_some_iff.1 h2.blk).1
  have hb2 : ∀ a b, Below w.heap.size w ((w.alloc a).alloc b) := fun a b => ((Below.refl _ w).alloc (Nat.le_refl _) _).alloc (by simp) _
  have hf := fun a => formed_two (w.heap.size + 1) n1 n2 A1 A2 c1 c2 l1 l2 _ (two_blk w a (.cells #[.bool n1, .slice A1 l1.length c1, .bool n2, .slice A2 l2.length c2] 24)) (h1.rd.on (hb2 _ _)) (h2.rd.on (hb2 _ _)) h1.cap h2.cap
  have ht := fun W (hW : Below w.heap.size w W) => total_calls n1 (!n2) A1 A2 c1 c2 l1 l2 W (h1.rd.on hW) (h2.rd.on hW) h1.cap h2.cap k1.canon k2.canon (by have := k1.small; omega) (by have := k2.small; omega)
  generalize addS n1 (val l1) (!n2) (val l2) = r at *
  obtain ⟨s, m⟩ := r
  dsimp only at *
  have hw := fun W A c (h : Rd W A (lim m)) (hc : (lim m).length ≤ c) => whole_no s A c (lim m) W h hc (by rw [val_lim]; exact hs)
  go_enter Tryd.func97, Tryd.ntmps97
  go_wp2_with first
    | (go_at_call 55; refine (hf _).mono ?_; rintro e w' ⟨hp, -, hbl⟩; cases hp hok; have hb3 := (hb2 _ _).trans (hbl.mono (hb2 _ _).size); have x0' := cell_at ((hb3.block g1 t1).trans h1.blk) 0 _ rfl; have x1' := cell_at ((hb3.block g1 t1).trans h1.blk) 1 _ rfl; have y0' := cell_at ((hb3.block g2 t2).trans h2.blk) 0 _ rfl; have y1' := cell_at ((hb3.block g2 t2).trans h2.blk) 1 _ rfl)
    | (go_at_call 96; refine (ht _ hb3).mono ?_; rintro e w4 ⟨A4, c4, rfl, n4, r4, b4⟩)
    | (go_at_call 60; refine (hw _ A4 c4 r4 n4).mono ?_; rintro e w5 ⟨rfl, b5⟩)
  exact ⟨rfl, rfl, (hb3.trans (b4.mono hb3.size)).trans (b5.mono (hb3.trans (b4.mono hb3.size)).size)⟩

theorem sub1_calls (g1 g2 : Nat) (n1 n2 : Bool) (A1 A2 : Option Addr) (c1 c2 : Nat) (l1 l2 : List Nat) (w : World) (h1 : IntBox w g1 n1 A1 c1 l1) (h2 : IntBox w g2 n2 A2 c2 l2) :
    Calls Tryd.prog 97 #[.pointer (some ⟨g1, 0, none⟩), .pointer (some ⟨g2, 0, none⟩)] w (PostZE (subR n1 l1 n2 l2).1 (subR n1 l1 n2 l2).2 w) := by
  unfold subR
  by_cases hok : (okI n1 l1 && okI n2 l2) = true
  · rw [if_pos hok]
    have hok' := hok
    rw [Bool.and_eq_true] at hok'
    have k1 := okI_isInt h1.rd.words hok'.1
    have k2 := okI_isInt h2.rd.words hok'.2
    have hz := addS_z n1 (!n2) (val l1) (val l2)
    have hz' : toZ n1 l1 - toZ n2 l2 = (if n1 then -(val l1 : Int) else val l1) + (if (!n2) then -(val l2 : Int) else val l2) := by rw [Int.sub_eq_add_neg, ← toZ_not]; rfl
    rw [← hz'] at hz
    unfold fitZ
    have ha := hz.abs
    rw [← ha]
    by_cases hs : (lim (addS n1 (val l1) (!n2) (val l2)).2).length ≤ 300
    · rw [if_pos hs]
      exact (sub1_ok g1 g2 n1 n2 A1 A2 c1 c2 l1 l2 w h1 h2 k1 k2 hok hs).mono fun e w' h => .ok (h.z hz)
    · rw [if_neg hs]
      exact (sub1_big g1 g2 n1 n2 A1 A2 c1 c2 l1 l2 w h1 h2 k1 k2 hok (by omega)).mono fun e w' h => .no h (by decide)
  · rw [if_neg hok]
    exact (sub1_bad g1 g2 n1 n2 A1 A2 c1 c2 l1 l2 w h1 h2 (by simpa using hok)).mono fun e w' h => .no h (by decide)

set_option maxRecDepth 100000 in
set_option maxHeartbeats 2000000 in
theorem Sub_calls (n1 n2 : Bool) (A1 A2 : Option Addr) (c1 c2 : Nat) (l1 l2 : List Nat) (w : World) (h1 : Rd w A1 l1) (h2 : Rd w A2 l2) (hc1 : l1.length ≤ c1) (hc2 : l2.length ≤ c2) :
    Calls Tryd.prog 43 #[iv n1 A1 l1.length c1, iv n2 A2 l2.length c2] w (RetZE (subR n1 l1 n2 l2).1 (subR n1 l1 n2 l2).2 w) := by
  have hmf : ∀ (fn : Fn) (first cap : Array Value) (w : World), (Instr.makeFunc fn first cap).run Tryd.prog w = .ok (.func fn first cap) w := fun _ _ _ _ => rfl
  obtain ⟨W3, hW3⟩ : ∃ W3, (((w.alloc (.cells #[.bool n1, .slice A1 l1.length c1] 24)).alloc (.cells #[.bool n2, .slice A2 l2.length c2] 24)).alloc (.cells #[.bool false, .slice none 0 0] 24)) = W3 := ⟨_, rfl⟩
  have hb3 : Below w.heap.size w W3 := by rw [← hW3]; exact (((Below.refl _ w).alloc (Nat.le_refl _) _).alloc (by simp) _).alloc (by simp; omega) _
  have hB1 : IntBox W3 w.heap.size n1 A1 c1 l1 := ⟨by rw [← hW3]; exact (Below.heap_alloc _ _ _ (by simp; omega)).trans ((Below.heap_alloc _ _ _ (by simp)).trans (World.alloc_heap_new w _)), h1.on hb3, hc1⟩
  have hB2 : IntBox W3 (w.heap.size + 1) n2 A2 c2 l2 := ⟨by rw [← hW3]; exact (Below.heap_alloc _ _ _ (by simp)).trans (two_blk w _ _), h2.on hb3, hc2⟩
  have hR : Blk W3 (w.heap.size + 1 + 1) #[.bool false, .slice none 0 0] 24 := ⟨by rw [← hW3]; have := World.alloc_heap_new ((w.alloc (.cells #[.bool n1, .slice A1 l1.length c1] 24)).alloc (.cells #[.bool n2, .slice A2 l2.length c2] 24)) (.cells #[.bool false, .slice none 0 0] 24); rwa [World.size_alloc, World.size_alloc] at this⟩
  have hB4 : ∀ o o', Below W3.heap.size W3 ((W3.alloc o).alloc o') := fun o o' => ((Below.refl _ W3).alloc (Nat.le_refl _) _).alloc (by simp) _
  have ht := try_int 97 #[.pointer (some ⟨w.heap.size, 0, none⟩), .pointer (some ⟨w.heap.size + 1, 0, none⟩)] (enters_of Tryd.func97 (by kernel_rfl) rfl) W3 _ _ (sub1_calls _ _ n1 n2 A1 A2 c1 c2 l1 l2 _ (hB1.on (hB4 _ _)) (hB2.on (hB4 _ _))) (subR_zero n1 l1 n2 l2)
  generalize (subR n1 l1 n2 l2).1 = z at *
  generalize (subR n1 l1 n2 l2).2 = er at *
  go_enter Tryd.func43, Tryd.ntmps43
  go_wp2_with (go_at_call 63; refine ht.mono ?_; rintro e w' ⟨s, A, c, l, rfl, hz, hc, hr, hb⟩; have hq := hR.on hb; have z0 := cell_at hq.h 0 _ rfl; have z1 := cell_at hq.h 1 _ rfl; have u0 := frozen_at hq.h 0; have u1 := frozen_at hq.h 1)
  exact ret_cell_tmp (x := .bool s) (y := .slice A l.length c) rfl rfl rfl (set_blk (set_blk hq.h 0 _) 1 _) ⟨s, A, c, l, rfl, hz, hc, rd_sets hr hq _ _, ((hb3.trans (hb.mono hb3.size)).setCell (by dsimp only; omega) _).setCell (by dsimp only; omega) _⟩

set_option maxRecDepth 100000 in
set_option maxHeartbeats 2000000 in
theorem mul1_bad (g1 g2 : Nat) (n1 n2 : Bool) (A1 A2 : Option Addr) (c1 c2 : Nat) (l1 l2 : List Nat) (w : World) (h1 : IntBox w g1 n1 A1 c1 l1) (h2 : IntBox w g2 n2 A2 c2 l2) (hbad : (okI n1 l1 && okI n2 l2) = false) :
    Calls Tryd.prog 91 #[.pointer (some ⟨g1, 0, none⟩), .pointer (some ⟨g2, 0, none⟩)] w fun e w' => e = .panicked (wrong 1) ∧ Below w.heap.size w w' := by
  have x0 := cell_at h1.blk 0 _ rfl
  have x1 := cell_at h1.blk 1 _ rfl
  have y0 := cell_at h2.blk 0 _ rfl
  have y1 := cell_at h2.blk 1 _ rfl
  have t1 := (Array.getElem?_eq_some_iff.1 h1.blk).1
  have t2 := (Array.getElem?_eq_some_iff.1 h2.blk).1
  have hb2 : ∀ a b, Below w.heap.size w ((w.alloc a).alloc b) := fun a b => ((Below.refl _ w).alloc (Nat.le_refl _) _).alloc (by simp) _
  have hf := fun a => formed_two (w.heap.size + 1) n1 n2 A1 A2 c1 c2 l1 l2 _ (two_blk w a (.cells #[.bool n1, .slice A1 l1.length c1, .bool n2, .slice A2 l2.length c2] 24)) (h1.rd.on (hb2 _ _)) (h2.rd.on (hb2 _ _)) h1.cap h2.cap
  go_enter Tryd.func91, Tryd.ntmps91
  go_wp2_with (go_at_call 55; refine (hf _).mono ?_; rintro e w' ⟨-, hp, hbl⟩; cases hp hbad)
  exact ⟨rfl, rfl, (hb2 _ _).trans (hbl.mono (hb2 _ _).size)⟩

theorem toZ_mul (n1 n2 : Bool) (l1 l2 : List Nat) : toZ n1 l1 * toZ n2 l2 = if (n1 != n2) then -((val l1 * val l2 : Nat) : Int) else ((val l1 * val l2 : Nat) : Int) := by
  unfold toZ
  cases n1 <;> cases n2 <;> simp [Int.neg_mul, Int.mul_neg]

set_option maxRecDepth 100000 in
set_option maxHeartbeats 2000000 in
theorem mul1_ok (g1 g2 : Nat) (n1 n2 : Bool) (A1 A2 : Option Addr) (c1 c2 : Nat) (l1 l2 : List Nat) (w : World) (h1 : IntBox w g1 n1 A1 c1 l1) (h2 : IntBox w g2 n2 A2 c2 l2) (k1 : IsInt n1 l1) (k2 : IsInt n2 l2) (hok : (okI n1 l1 && okI n2 l2) = true)
    (hs : (lim (val l1 * val l2)).length ≤ 300) :
    Calls Tryd.prog 91 #[.pointer (some ⟨g1, 0, none⟩), .pointer (some ⟨g2, 0, none⟩)] w (RetInt ((n1 != n2) && val l1 * val l2 != 0) (val l1 * val l2) w) := by
  have x0 := cell_at h1.blk 0 _ rfl
  have x1 := cell_at h1.blk 1 _ rfl
  have y0 := cell_at h2.blk 0 _ rfl
  have y1 := cell_at h2.blk 1 _ rfl
  have t1 := (Array.getElem?_eq_some_iff.1 h1.blk).1
  have t2 := (Array.getElem?_eq_some_iff.1 h2.blk).1
  have hb2 : ∀ a b, Below w.heap.size w ((w.alloc a).alloc b) := fun a b => ((Below.refl _ w).alloc (Nat.le_refl _) _).alloc (by simp) _
  have hf := fun a => formed_two (w.heap.size + 1) n1 n2 A1 A2 c1 c2 l1 l2 _ (two_blk w a (.cells #[.bool n1, .slice A1 l1.length c1, .bool n2, .slice A2 l2.length c2] 24)) (h1.rd.on (hb2 _ _)) (h2.rd.on (hb2 _ _)) h1.cap h2.cap
  have ht := fun W (hW : Below w.heap.size w W) => mul_calls A1 A2 c1 c2 l1 l2 W (h1.rd.on hW) (h2.rd.on hW) h1.cap h2.cap k1.canon k2.canon (by have := k1.small; have := k2.small; omega)
  generalize hm : val l1 * val l2 = m at *
  clear hm
  rw [show (n1 != n2) = !(n1 == n2) from rfl]
  generalize hs' : (n1 == n2) = s at *
  have hw := fun W A c (h : Rd W A (lim m)) (hc : (lim m).length ≤ c) => whole_ok (!s) A c (lim m) W h hc (by rw [val_lim]; exact hs)
  simp only [val_lim] at hw
  have q1 := Lib.hid h1.blk
  have q2 := Lib.hid h2.blk
  have d1 : ¬ g1 = w.heap.size := by omega
  have d2 : ¬ g2 = w.heap.size := by omega
  have d3 : ¬ w.heap.size = g1 := by omega
  have d4 : ¬ w.heap.size = g2 := by omega
  go_enter Tryd.func91, Tryd.ntmps91
  go_wp2_with first
    | (go_at_call 55; refine (hf _).mono ?_; rintro e w' ⟨hp, -, hbl⟩; cases hp hok; have hb3 := (hb2 _ _).trans (hbl.mono (hb2 _ _).size); have hX : True := trivial)
  have x0' := cell_at ((hb3.block g1 t1).trans h1.blk) 0 _ rfl
  have x1' := cell_at ((hb3.block g1 t1).trans h1.blk) 1 _ rfl
  have y0' := cell_at ((hb3.block g2 t2).trans h2.blk) 0 _ rfl
  have y1' := cell_at ((hb3.block g2 t2).trans h2.blk) 1 _ rfl
  have hq0 := two_old w (.cells #[.bool false, .slice none 0 0] 24) (.cells #[.bool n1, .slice A1 l1.length c1, .bool n2, .slice A2 l2.length c2] 24) rfl
  have hq := hq0.on hbl
  go_region_held3 (fun w'' => w''.cell? ⟨g1, 0, none⟩ = some (.bool n1) ∧ w''.cell? ⟨g1, 1, none⟩ = some (.slice A1 l1.length c1) ∧ w''.cell? ⟨g2, 0, none⟩ = some (.bool n2) ∧ w''.cell? ⟨g2, 1, none⟩ = some (.slice A2 l2.length c2)) ((first | assumption | go_keep))
    ((first
      | (go_at_call 68; refine (ht _ (below_drew hb3)).mono ?_; rintro e w4 ⟨A4, c4, rfl, n4, r4, b4⟩; replace b4 := (below_drew (Below.refl _ w')).trans b4; have bb4 := hb3.trans (b4.mono hb3.size); have i0 := cell_at ((bb4.block g1 t1).trans h1.blk) 0 _ rfl; have i1 := cell_at ((bb4.block g1 t1).trans h1.blk) 1 _ rfl; have j0 := cell_at ((bb4.block g2 t2).trans h2.blk) 0 _ rfl; have j1 := cell_at ((bb4.block g2 t2).trans h2.blk) 1 _ rfl)
      | (go_at_call 60; refine (hw _ A4 c4 r4 n4).mono ?_; rintro e w5 ⟨A5, c5, rfl, n5, r5, b5⟩; have bb5 := bb4.trans (b5.mono bb4.size); have i0' := cell_at ((bb5.block g1 t1).trans h1.blk) 0 _ rfl; have i1' := cell_at ((bb5.block g1 t1).trans h1.blk) 1 _ rfl; have j0' := cell_at ((bb5.block g2 t2).trans h2.blk) 0 _ rfl; have j1' := cell_at ((bb5.block g2 t2).trans h2.blk) 1 _ rfl; have hq' := hq.on b4; have hq5 := hq'.on b5; have z0 := cell_at hq5.h 0 _ rfl; have z1 := cell_at hq5.h 1 _ rfl; have u0 := frozen_at hq5.h 0; have u1 := frozen_at hq5.h 1)))
  go_wp2_with fail
  exact ret_cell rfl rfl rfl (set_blk (set_blk hq5.h 0 _) 1 _) ⟨A5, c5, rfl, n5, rd_sets r5 hq5 _ _, (((((hb3.trans (b4.mono hb3.size)).trans (b5.mono (hb3.trans (b4.mono hb3.size)).size))).setCell (Nat.le_refl _) _).setCell (Nat.le_refl _) _)⟩

set_option maxRecDepth 100000 in
set_option maxHeartbeats 2000000 in
theorem mul1_big (g1 g2 : Nat) (n1 n2 : Bool) (A1 A2 : Option Addr) (c1 c2 : Nat) (l1 l2 : List Nat) (w : World) (h1 : IntBox w g1 n1 A1 c1 l1) (h2 : IntBox w g2 n2 A2 c2 l2) (k1 : IsInt n1 l1) (k2 : IsInt n2 l2) (hok : (okI n1 l1 && okI n2 l2) = true)
    (hs : 300 < (lim (val l1 * val l2)).length) :
    Calls Tryd.prog 91 #[.pointer (some ⟨g1, 0, none⟩), .pointer (some ⟨g2, 0, none⟩)] w fun e w' => e = .panicked (wrong 3) ∧ Below w.heap.size w w' := by
  have x0 := cell_at h1.blk 0 _ rfl
  have x1 := cell_at h1.blk 1 _ rfl
  have y0 := cell_at h2.blk 0 _ rfl
  have y1 := cell_at h2.blk 1 _ rfl
  have t1 := (Array.getElem?_eq_some_iff.1 h1.blk).1
  have t2 := (Array.getElem?_eq_some_iff.1 h2.blk).1
  have hb2 : ∀ a b, Below w.heap.size w ((w.alloc a).alloc b) := fun a b => ((Below.refl _ w).alloc (Nat.le_refl _) _).alloc (by simp) _
  have hf := fun a => formed_two (w.heap.size + 1) n1 n2 A1 A2 c1 c2 l1 l2 _ (two_blk w a (.cells #[.bool n1, .slice A1 l1.length c1, .bool n2, .slice A2 l2.length c2] 24)) (h1.rd.on (hb2 _ _)) (h2.rd.on (hb2 _ _)) h1.cap h2.cap
  have ht := fun W (hW : Below w.heap.size w W) => mul_calls A1 A2 c1 c2 l1 l2 W (h1.rd.on hW) (h2.rd.on hW) h1.cap h2.cap k1.canon k2.canon (by have := k1.small; have := k2.small; omega)
  generalize hm : val l1 * val l2 = m at *
  clear hm
  generalize hs' : (n1 == n2) = s at *
  have hw := fun W A c (h : Rd W A (lim m)) (hc : (lim m).length ≤ c) => whole_no (!s) A c (lim m) W h hc (by rw [val_lim]; exact hs)
  have q1 := Lib.hid h1.blk
  have q2 := Lib.hid h2.blk
  go_enter Tryd.func91, Tryd.ntmps91
  go_wp2_with first
    | (go_at_call 55; refine (hf _).mono ?_; rintro e w' ⟨hp, -, hbl⟩; cases hp hok; have hb3 := (hb2 _ _).trans (hbl.mono (hb2 _ _).size); have hX : True := trivial)
  have x0' := cell_at ((hb3.block g1 t1).trans h1.blk) 0 _ rfl
  have x1' := cell_at ((hb3.block g1 t1).trans h1.blk) 1 _ rfl
  have y0' := cell_at ((hb3.block g2 t2).trans h2.blk) 0 _ rfl
  have y1' := cell_at ((hb3.block g2 t2).trans h2.blk) 1 _ rfl
  have hq0 := two_old w (.cells #[.bool false, .slice none 0 0] 24) (.cells #[.bool n1, .slice A1 l1.length c1, .bool n2, .slice A2 l2.length c2] 24) rfl
  have hq := hq0.on hbl
  go_region_held2 (fun w'' => w''.cell? ⟨g1, 0, none⟩ = some (.bool n1) ∧ w''.cell? ⟨g1, 1, none⟩ = some (.slice A1 l1.length c1) ∧ w''.cell? ⟨g2, 0, none⟩ = some (.bool n2) ∧ w''.cell? ⟨g2, 1, none⟩ = some (.slice A2 l2.length c2)) ((first | exact HF.out.elim | assumption | go_keep))
    ((first
      | (go_at_call 68; refine (ht _ (below_drew hb3)).mono ?_; rintro e w4 ⟨A4, c4, rfl, n4, r4, b4⟩; replace b4 := (below_drew (Below.refl _ w')).trans b4; have bb4 := hb3.trans (b4.mono hb3.size); have i0 := cell_at ((bb4.block g1 t1).trans h1.blk) 0 _ rfl; have i1 := cell_at ((bb4.block g1 t1).trans h1.blk) 1 _ rfl; have j0 := cell_at ((bb4.block g2 t2).trans h2.blk) 0 _ rfl; have j1 := cell_at ((bb4.block g2 t2).trans h2.blk) 1 _ rfl)
      | (go_at_call 60; refine calls_panic (hw _ A4 c4 r4 n4) (fun w5 b5 => ⟨rfl, rfl, bb4.trans (b5.mono bb4.size)⟩) ?_; intro v w5 hF; have HF : Hid False := hF; obtain ⟨s', A', n', c', rfl⟩ : ∃ s' A' n' c', v = .agg #[.bool s', .slice A' n' c'] := hF.elim; have hq5 : Blk w5 w.heap.size #[.bool false, .slice none 0 0] 24 := hF.elim; have z0 := cell_at hq5.h 0 _ rfl; have z1 := cell_at hq5.h 1 _ rfl; have u0 := frozen_at hq5.h 0; have u1 := frozen_at hq5.h 1; clear hF)))
  exact HF.out.elim

theorem mul1_calls (g1 g2 : Nat) (n1 n2 : Bool) (A1 A2 : Option Addr) (c1 c2 : Nat) (l1 l2 : List Nat) (w : World) (h1 : IntBox w g1 n1 A1 c1 l1) (h2 : IntBox w g2 n2 A2 c2 l2) :
    Calls Tryd.prog 91 #[.pointer (some ⟨g1, 0, none⟩), .pointer (some ⟨g2, 0, none⟩)] w (PostZE (mulR n1 l1 n2 l2).1 (mulR n1 l1 n2 l2).2 w) := by
  unfold mulR
  by_cases hok : (okI n1 l1 && okI n2 l2) = true
  · rw [if_pos hok]
    have hok' := hok
    rw [Bool.and_eq_true] at hok'
    have k1 := okI_isInt h1.rd.words hok'.1
    have k2 := okI_isInt h2.rd.words hok'.2
    have hz := isZ_of (n1 != n2) (val l1 * val l2)
    rw [← toZ_mul] at hz
    unfold fitZ
    have ha := hz.abs
    rw [← ha]
    by_cases hs : (lim (val l1 * val l2)).length ≤ 300
    · rw [if_pos hs]
      exact (mul1_ok g1 g2 n1 n2 A1 A2 c1 c2 l1 l2 w h1 h2 k1 k2 hok hs).mono fun e w' h => .ok (h.z hz)
    · rw [if_neg hs]
      exact (mul1_big g1 g2 n1 n2 A1 A2 c1 c2 l1 l2 w h1 h2 k1 k2 hok (by omega)).mono fun e w' h => .no h (by decide)
  · rw [if_neg hok]
    exact (mul1_bad g1 g2 n1 n2 A1 A2 c1 c2 l1 l2 w h1 h2 (by simpa using hok)).mono fun e w' h => .no h (by decide)

set_option maxRecDepth 100000 in
set_option maxHeartbeats 2000000 in
theorem Mul_calls (n1 n2 : Bool) (A1 A2 : Option Addr) (c1 c2 : Nat) (l1 l2 : List Nat) (w : World) (h1 : Rd w A1 l1) (h2 : Rd w A2 l2) (hc1 : l1.length ≤ c1) (hc2 : l2.length ≤ c2) :
    Calls Tryd.prog 39 #[iv n1 A1 l1.length c1, iv n2 A2 l2.length c2] w (RetZE (mulR n1 l1 n2 l2).1 (mulR n1 l1 n2 l2).2 w) := by
  have hmf : ∀ (fn : Fn) (first cap : Array Value) (w : World), (Instr.makeFunc fn first cap).run Tryd.prog w = .ok (.func fn first cap) w := fun _ _ _ _ => rfl
  obtain ⟨W3, hW3⟩ : ∃ W3, (((w.alloc (.cells #[.bool n1, .slice A1 l1.length c1] 24)).alloc (.cells #[.bool n2, .slice A2 l2.length c2] 24)).alloc (.cells #[.bool false, .slice none 0 0] 24)) = W3 := ⟨_, rfl⟩
  have hb3 : Below w.heap.size w W3 := by rw [← hW3]; exact (((Below.refl _ w).alloc (Nat.le_refl _) _).alloc (by simp) _).alloc (by simp; omega) _
  have hB1 : IntBox W3 w.heap.size n1 A1 c1 l1 := ⟨by rw [← hW3]; exact (Below.heap_alloc _ _ _ (by simp; omega)).trans ((Below.heap_alloc _ _ _ (by simp)).trans (World.alloc_heap_new w _)), h1.on hb3, hc1⟩
  have hB2 : IntBox W3 (w.heap.size + 1) n2 A2 c2 l2 := ⟨by rw [← hW3]; exact (Below.heap_alloc _ _ _ (by simp)).trans (two_blk w _ _), h2.on hb3, hc2⟩
  have hR : Blk W3 (w.heap.size + 1 + 1) #[.bool false, .slice none 0 0] 24 := ⟨by rw [← hW3]; have := World.alloc_heap_new ((w.alloc (.cells #[.bool n1, .slice A1 l1.length c1] 24)).alloc (.cells #[.bool n2, .slice A2 l2.length c2] 24)) (.cells #[.bool false, .slice none 0 0] 24); rwa [World.size_alloc, World.size_alloc] at this⟩
  have hB4 : ∀ o o', Below W3.heap.size W3 ((W3.alloc o).alloc o') := fun o o' => ((Below.refl _ W3).alloc (Nat.le_refl _) _).alloc (by simp) _
  have ht := try_int 91 #[.pointer (some ⟨w.heap.size, 0, none⟩), .pointer (some ⟨w.heap.size + 1, 0, none⟩)] (enters_of Tryd.func91 (by kernel_rfl) rfl) W3 _ _ (mul1_calls _ _ n1 n2 A1 A2 c1 c2 l1 l2 _ (hB1.on (hB4 _ _)) (hB2.on (hB4 _ _))) (mulR_zero n1 l1 n2 l2)
  generalize (mulR n1 l1 n2 l2).1 = z at *
  generalize (mulR n1 l1 n2 l2).2 = er at *
  go_enter Tryd.func39, Tryd.ntmps39
  go_wp2_with (go_at_call 63; refine ht.mono ?_; rintro e w' ⟨s, A, c, l, rfl, hz, hc, hr, hb⟩; have hq := hR.on hb; have z0 := cell_at hq.h 0 _ rfl; have z1 := cell_at hq.h 1 _ rfl; have u0 := frozen_at hq.h 0; have u1 := frozen_at hq.h 1)
  exact ret_cell_tmp (x := .bool s) (y := .slice A l.length c) rfl rfl rfl (set_blk (set_blk hq.h 0 _) 1 _) ⟨s, A, c, l, rfl, hz, hc, rd_sets hr hq _ _, ((hb3.trans (hb.mono hb3.size)).setCell (by dsimp only; omega) _).setCell (by dsimp only; omega) _⟩

end Nm
end Go.Proofs.YtlhmbbpkhahbeaaDoor
namespace Go.Proofs.YtlhmbbpkhahbeaaDoor
namespace Nm
open Go.RowKit Go.Shelf Go.BigFrame
attribute [local go_sem] Oper.semAt_some

theorem Rd.ne {W : World} {A : Option Addr} {l : List Nat} (h : Rd W A l) {g : Nat} {cur : Array Value} {t : TypeId} (hb : W.heap[g]? = some (.cells cur t (0, 0))) (hn : ∀ (i : Nat) (x : Int), cur[i]? = some (.int .u32 x) → False) :
    ∀ b o, A = some ⟨b, o, none⟩ → 0 < l.length → b ≠ g := by
  rintro b o rfl h0 rfl
  obtain ⟨b', o', e, hc⟩ := h.cell 0 h0
  cases e
  simp only [World.cell?, hb, Option.isSome_none, Bool.false_eq_true, if_false] at hc
  exact hn _ _ hc

theorem Rd.setNe {W : World} {A : Option Addr} {l : List Nat} (h : Rd W A l) {g i : Nat} {v : Value} (hne : ∀ b o, A = some ⟨b, o, none⟩ → 0 < l.length → b ≠ g) : Rd (W.setCell ⟨g, i, none⟩ v) A l := by
  rcases Nat.eq_zero_or_pos l.length with h0 | h0
  · obtain rfl : l = [] := List.length_eq_zero_iff.1 h0
    exact Rd.nil _ _
  · obtain ⟨b, o, rfl⟩ := h.head h0
    exact grw_rd (grownBy_setCell_at _ _ _ _) h (fun b o e => hne b o e h0)

theorem catch_idle_div (p q : Addr) (w : World) :
    CallsD Tryd.prog 102 #[.pointer (some p), .pointer (some q)] .returning w fun e u' w' => e = .returned (.tuple #[]) ∧ u' = .returning ∧ w' = w := by
  refine callsD_of_wpS Tryd.func102 rfl fun c₀ cs hu => ?_
  apply wpS_seq
  apply wpS_region
  simp [wpOpsS, go_sem, recoverD, hu, Tryd.ntmps102, Exit.thenS]
  apply wpS_seq
  apply wpS_seq
  apply wpS_region
  simp [wpOpsS, go_sem, Exit.thenS]
  refine wpS_cond (t := true) (by simp [Act.eval, Array.replicate]) ?_
  simp only [if_true]
  refine wpS_of_wp (wp_ret ?_)
  cases c₀
  simp_all [bodyPostS, results, Tryd.results102, Exit.thenS]

set_option maxRecDepth 100000 in
set_option maxHeartbeats 2000000 in
theorem catch_wrong_div (g : Nat) (x : Int) (older : List PanicEntry) (a0 a1 a2 a3 : Value) (c : Value) (w : World) (h1 : w.heap[g]? = some (.cells #[a0, a1, a2, a3] 74 (0, 0))) (h2 : w.heap[g + 1]? = some (.cells #[c] 28 (0, 0))) :
    CallsD Tryd.prog 102 #[.pointer (some ⟨g, 0, none⟩), .pointer (some ⟨g + 1, 0, none⟩)] (.panicking ({ v := .iface 126 (.agg #[.int .i64 x]), recovered := false } :: older)) w fun e u' w' =>
      e = .returned (.tuple #[]) ∧ u' = .panicking ({ v := .iface 126 (.agg #[.int .i64 x]), recovered := true } :: older) ∧
        w'.heap[g]? = some (.cells #[.bool false, .slice none 0 0, .bool false, .slice none 0 0] 74 (0, 0)) ∧ w'.heap[g + 1]? = some (.cells #[.int .i64 x] 28 (0, 0)) ∧ Below g w w' := by
  refine callsD_of_wpS Tryd.func102 rfl fun c₀ cs hu => ?_
  apply wpS_seq
  apply wpS_region
  simp [wpOpsS, go_sem, recoverD, hu, Tryd.ntmps102, Exit.thenS]
  refine wpS_of_wp ?_
  have hta := assert_wrong x
  have x0 := cell_at h1 0 a0 rfl
  have y0 := frozen_at h1 0
  have x1 := cell_at h1 1 a1 rfl
  have y1 := frozen_at h1 1
  have x2 := cell_at h1 2 a2 rfl
  have y2 := frozen_at h1 2
  have x3 := cell_at h1 3 a3 rfl
  have y3 := frozen_at h1 3
  have xe := cell_at h2 0 c rfl
  have ye := frozen_at h2 0
  simp only [Array.replicate_succ, Array.replicate_zero, List.push_toArray, List.nil_append, List.cons_append]
  go_wp2_with fail
  have hl1 := (Array.getElem?_eq_some_iff.1 h1).1
  have hl2 := (Array.getElem?_eq_some_iff.1 h2).1
  obtain ⟨W4, hW4⟩ : ∃ W4, ((w.alloc (.cells #[.int .i64 x] 126)).alloc (.cells #[.bool false, .slice none 0 0, .bool false, .slice none 0 0] 74)) = W4 := ⟨_, rfl⟩
  have hz1 : W4.heap[w.heap.size]? = some (.cells #[.int .i64 x] 126 (0, 0)) := by rw [← hW4]; exact (Below.heap_alloc _ _ _ (by simp)).trans (World.alloc_heap_new w _)
  have hz2 : W4.heap[w.heap.size + 1]? = some (.cells #[.bool false, .slice none 0 0, .bool false, .slice none 0 0] 74 (0, 0)) := by rw [← hW4]; have := World.alloc_heap_new (w.alloc (.cells #[.int .i64 x] 126)) (.cells #[.bool false, .slice none 0 0, .bool false, .slice none 0 0] 74); rwa [World.size_alloc] at this
  have hz3 : W4.heap[g]? = some (.cells #[a0, a1, a2, a3] 74 (0, 0)) := by rw [← hW4]; exact (Below.heap_alloc _ _ _ (by simp; omega)).trans ((Below.heap_alloc _ _ _ hl1).trans h1)
  have hz4 : W4.heap[g + 1]? = some (.cells #[c] 28 (0, 0)) := by rw [← hW4]; exact (Below.heap_alloc _ _ _ (by simp; omega)).trans ((Below.heap_alloc _ _ _ hl2).trans h2)
  have hbl : Below g w W4 := by rw [← hW4]; exact ((Below.refl g w).alloc (by omega) _).alloc (by simp; omega) _
  rw [hW4]
  clear hW4 x0 y0 x1 y1 x2 y2 x3 y3 xe ye h1 h2
  have z0 := cell_at hz1 0 _ rfl
  have zz0 := cell_at hz2 0 _ rfl
  have x0 := cell_at hz3 0 a0 rfl
  have y0 := frozen_at hz3 0
  have zz1 := cell_at hz2 1 _ rfl
  have x1 := cell_at hz3 1 a1 rfl
  have y1 := frozen_at hz3 1
  have zz2 := cell_at hz2 2 _ rfl
  have x2 := cell_at hz3 2 a2 rfl
  have y2 := frozen_at hz3 2
  have zz3 := cell_at hz2 3 _ rfl
  have x3 := cell_at hz3 3 a3 rfl
  have y3 := frozen_at hz3 3
  have xe := cell_at hz4 0 c rfl
  have ye := frozen_at hz4 0
  have n1 : ¬ g = w.heap.size := by omega
  have n2 : ¬ g = w.heap.size + 1 := by omega
  have n3 : ¬ w.heap.size = g := by omega
  have n4 : ¬ w.heap.size + 1 = g := by omega
  have n5 : ¬ g + 1 = w.heap.size := by omega
  have n6 : ¬ g + 1 = w.heap.size + 1 := by omega
  have n7 : ¬ w.heap.size = g + 1 := by omega
  have n8 : ¬ w.heap.size + 1 = g + 1 := by omega
  generalize w.heap.size = bq at *
  go_region
  cases c₀
  simp (config := { zetaDelta := true }) only [bodyPostS, results, Tryd.results102]
  refine ⟨trivial, _, rfl, .tuple #[], by simp [go_sem], rfl, rfl, ?_, ?_, ?_⟩
  · exact (Below.heap_setCell _ _ _ g (by simp)).trans (set_blk (set_blk (set_blk (set_blk (hz3) 0 _) 1 _) 2 _) 3 _)
  · exact set_blk ((Below.heap_setCell _ _ _ (g + 1) (by simp)).trans ((Below.heap_setCell _ _ _ (g + 1) (by simp)).trans ((Below.heap_setCell _ _ _ (g + 1) (by simp)).trans ((Below.heap_setCell _ _ _ (g + 1) (by simp)).trans (hz4))))) 0 _
  · exact below_drew ((((((hbl).setCell (Nat.le_refl _) _).setCell (Nat.le_refl _) _).setCell (Nat.le_refl _) _).setCell (Nat.le_refl _) _).setCell (by simp) _)

set_option maxRecDepth 100000 in
set_option maxHeartbeats 2000000 in
theorem try_div_ok (G : Nat) (caps : Array Value) (hG : ∀ (args : Array Value) (w : World), (callFunc G args).run Tryd.prog w = .ok (.enter G args) w) (w : World) (W2 : World)
    (hW2 : (w.alloc (.cells #[.bool false, .slice none 0 0, .bool false, .slice none 0 0] 74)).alloc (.cells #[.int .i64 0] 28) = W2) (R : Bool → Option Addr → Nat → Nat → Bool → Option Addr → Nat → Nat → World → Prop)
    (h : Calls Tryd.prog G caps W2 fun e w' => ∃ (s1 : Bool) (A1 : Option Addr) (m1 : Nat) (c1 : Nat) (s2 : Bool) (A2 : Option Addr) (m2 : Nat) (c2 : Nat), e = .returned (.agg #[.bool s1, .slice A1 m1 c1, .bool s2, .slice A2 m2 c2]) ∧ R s1 A1 m1 c1 s2 A2 m2 c2 w' ∧ Below W2.heap.size W2 w') :
    Calls Tryd.prog 53 #[.func (.func G) #[] caps] w fun e w' =>
      ∃ (s1 : Bool) (A1 : Option Addr) (m1 : Nat) (c1 : Nat) (s2 : Bool) (A2 : Option Addr) (m2 : Nat) (c2 : Nat) (w1 : World), R s1 A1 m1 c1 s2 A2 m2 c2 w1 ∧ Below w.heap.size w w' ∧ (∀ A l, Rd w1 A l → Rd w' A l) ∧ e = .returned (.tuple #[.agg #[.bool s1, .slice A1 m1 c1, .bool s2, .slice A2 m2 c2], .int .i64 0]) := by
  have hmf : ∀ (fn : Fn) (first cap : Array Value) (w : World), (Instr.makeFunc fn first cap).run Tryd.prog w = .ok (.func fn first cap) w := fun _ _ _ _ => rfl
  have hz1 : W2.heap[w.heap.size]? = some (.cells #[.bool false, .slice none 0 0, .bool false, .slice none 0 0] 74 (0, 0)) := by rw [← hW2]; exact (Below.heap_alloc _ _ _ (by simp)).trans (World.alloc_heap_new w _)
  have hz2 : W2.heap[w.heap.size + 1]? = some (.cells #[.int .i64 0] 28 (0, 0)) := by rw [← hW2]; have := World.alloc_heap_new (w.alloc (.cells #[.bool false, .slice none 0 0, .bool false, .slice none 0 0] 74)) (.cells #[.int .i64 0] 28); rwa [World.size_alloc] at this
  have hsz : W2.heap.size = w.heap.size + 2 := by rw [← hW2]; simp
  have hb2 : Below w.heap.size w W2 := by rw [← hW2]; exact ((Below.refl _ w).alloc (Nat.le_refl _) _).alloc (by simp) _
  have Hsz := Lib.hid hsz
  clear hsz
  go_enter_defers Tryd.func53, Tryd.ntmps53
  go_wp2_with first
    | (refine h.mono ?_; rintro e w' ⟨s1, A1, m1, c1, s2, A2, m2, c2, rfl, hR, hbl⟩; have hy1 := (hbl.block w.heap.size (by have := Hsz.out; omega)).trans hz1; have hy2 := (hbl.block (w.heap.size + 1) (by have := Hsz.out; omega)).trans hz2; have x0 := cell_at hy1 0 _ rfl; have y0 := frozen_at hy1 0; have x1 := cell_at hy1 1 _ rfl; have y1 := frozen_at hy1 1; have x2 := cell_at hy1 2 _ rfl; have y2 := frozen_at hy1 2; have x3 := cell_at hy1 3 _ rfl; have y3 := frozen_at hy1 3; have xe := cell_at hy2 0 _ rfl; have ye := frozen_at hy2 0)
  obtain ⟨X, hX⟩ : ∃ X, (((((w'.setCell ⟨w.heap.size, 0, none⟩ (.bool s1)).setCell ⟨w.heap.size, 1, none⟩ (.slice A1 m1 c1)).setCell ⟨w.heap.size, 2, none⟩ (.bool s2)).setCell ⟨w.heap.size, 3, none⟩ (.slice A2 m2 c2)).setCell ⟨w.heap.size + 1, 0, none⟩ (.int .i64 0)) = X := ⟨_, rfl⟩
  have hx1 : X.heap[w.heap.size]? = some (.cells #[.bool s1, .slice A1 m1 c1, .bool s2, .slice A2 m2 c2] 74 (0, 0)) := by rw [← hX]; exact (Below.heap_setCell _ _ _ _ (by simp)).trans (set_blk (set_blk (set_blk (set_blk (hy1) 0 _) 1 _) 2 _) 3 _)
  have hx2 : X.heap[w.heap.size + 1]? = some (.cells #[.int .i64 0] 28 (0, 0)) := by rw [← hX]; exact set_blk ((Below.heap_setCell _ _ _ _ (by simp)).trans ((Below.heap_setCell _ _ _ _ (by simp)).trans ((Below.heap_setCell _ _ _ _ (by simp)).trans ((Below.heap_setCell _ _ _ _ (by simp)).trans (hy2))))) 0 _
  have hbX : Below w.heap.size w X := by rw [← hX]; exact (((((hb2.trans (hbl.mono hb2.size)).setCell (Nat.le_refl _) _).setCell (Nat.le_refl _) _).setCell (Nat.le_refl _) _).setCell (Nat.le_refl _) _).setCell (by simp) _
  have hRd : ∀ A l, Rd w' A l → Rd X A l := by
    intro A l hA
    rw [← hX]
    have e1 := hA.ne hy1 (by intro i x h; rcases i with _ | _ | _ | _ | i <;> simp at h)
    have e2 := hA.ne hy2 (by intro i x h; rcases i with _ | i <;> simp at h)
    exact (((((hA).setNe e1).setNe e1).setNe e1).setNe e1).setNe e2
  rw [hX]
  refine leaves_cons (f := 102) (args := #[.pointer (some ⟨w.heap.size, 0, none⟩), .pointer (some ⟨w.heap.size + 1, 0, none⟩)]) (by simp) (by simp [go_sem]) ?_
  refine (catch_idle_div ⟨w.heap.size, 0, none⟩ ⟨w.heap.size + 1, 0, none⟩ _).mono ?_
  rintro e u' w'' ⟨rfl, rfl, rfl⟩
  have v0 := cell_at hx1 0 _ rfl
  have v1 := cell_at hx1 1 _ rfl
  have v2 := cell_at hx1 2 _ rfl
  have v3 := cell_at hx1 3 _ rfl
  have ve := cell_at hx2 0 _ rfl
  refine ⟨.tuple #[.agg #[.bool s1, .slice A1 m1 c1, .bool s2, .slice A2 m2 c2], .int .i64 0], ?_, s1, A1, m1, c1, s2, A2, m2, c2, w', hR, hbX, hRd, rfl⟩
  simp [results, Tryd.results53, go_sem, v0, v1, v2, v3, ve]

set_option maxRecDepth 100000 in
set_option maxHeartbeats 2000000 in
theorem try_div_wrong (G : Nat) (caps : Array Value) (hG : ∀ (args : Array Value) (w : World), (callFunc G args).run Tryd.prog w = .ok (.enter G args) w) (w : World) (W2 : World)
    (hW2 : (w.alloc (.cells #[.bool false, .slice none 0 0, .bool false, .slice none 0 0] 74)).alloc (.cells #[.int .i64 0] 28) = W2) (c : Int)
    (h : Calls Tryd.prog G caps W2 fun e w' => e = .panicked (wrong c) ∧ Below W2.heap.size W2 w') :
    Calls Tryd.prog 53 #[.func (.func G) #[] caps] w fun e w' =>
      Below w.heap.size w w' ∧ e = .returned (.tuple #[.agg #[.bool false, .slice none 0 0, .bool false, .slice none 0 0], .int .i64 c]) := by
  have hmf : ∀ (fn : Fn) (first cap : Array Value) (w : World), (Instr.makeFunc fn first cap).run Tryd.prog w = .ok (.func fn first cap) w := fun _ _ _ _ => rfl
  have hz1 : W2.heap[w.heap.size]? = some (.cells #[.bool false, .slice none 0 0, .bool false, .slice none 0 0] 74 (0, 0)) := by rw [← hW2]; exact (Below.heap_alloc _ _ _ (by simp)).trans (World.alloc_heap_new w _)
  have hz2 : W2.heap[w.heap.size + 1]? = some (.cells #[.int .i64 0] 28 (0, 0)) := by rw [← hW2]; have := World.alloc_heap_new (w.alloc (.cells #[.bool false, .slice none 0 0, .bool false, .slice none 0 0] 74)) (.cells #[.int .i64 0] 28); rwa [World.size_alloc] at this
  have hsz : W2.heap.size = w.heap.size + 2 := by rw [← hW2]; simp
  have hb2 : Below w.heap.size w W2 := by rw [← hW2]; exact ((Below.refl _ w).alloc (Nat.le_refl _) _).alloc (by simp) _
  have Hsz := Lib.hid hsz
  clear hsz
  go_enter_defers Tryd.func53, Tryd.ntmps53
  go_wp2_with first
    | (refine h.mono ?_; rintro e w' ⟨rfl, hbl⟩)
  have hy1 := (hbl.block w.heap.size (by have := Hsz.out; omega)).trans hz1
  have hy2 := (hbl.block (w.heap.size + 1) (by have := Hsz.out; omega)).trans hz2
  have hbw : Below w.heap.size w w' := hb2.trans (hbl.mono hb2.size)
  refine leaves_cons (f := 102) (args := #[.pointer (some ⟨w.heap.size, 0, none⟩), .pointer (some ⟨w.heap.size + 1, 0, none⟩)]) (by simp) (by simp [go_sem]) ?_
  refine (catch_wrong_div w.heap.size c [] _ _ _ _ _ _ hy1 hy2).mono ?_
  rintro e u' w'' ⟨rfl, rfl, hx1, hx2, hbx⟩
  have v0 := cell_at hx1 0 _ rfl
  have v1 := cell_at hx1 1 _ rfl
  have v2 := cell_at hx1 2 _ rfl
  have v3 := cell_at hx1 3 _ rfl
  have ve := cell_at hx2 0 _ rfl
  refine ⟨.tuple #[.agg #[.bool false, .slice none 0 0, .bool false, .slice none 0 0], .int .i64 c], ?_, hbw.trans hbx, rfl⟩
  simp [results, Tryd.results53, go_sem, v0, v1, v2, v3, ve]

theorem catch_idle_str (p q : Addr) (w : World) :
    CallsD Tryd.prog 118 #[.pointer (some p), .pointer (some q)] .returning w fun e u' w' => e = .returned (.tuple #[]) ∧ u' = .returning ∧ w' = w := by
  refine callsD_of_wpS Tryd.func118 rfl fun c₀ cs hu => ?_
  apply wpS_seq
  apply wpS_region
  simp [wpOpsS, go_sem, recoverD, hu, Tryd.ntmps118, Exit.thenS]
  apply wpS_seq
  apply wpS_seq
  apply wpS_region
  simp [wpOpsS, go_sem, Exit.thenS]
  refine wpS_cond (t := true) (by simp [Act.eval, Array.replicate]) ?_
  simp only [if_true]
  refine wpS_of_wp (wp_ret ?_)
  cases c₀
  simp_all [bodyPostS, results, Tryd.results118, Exit.thenS]

set_option maxRecDepth 100000 in
set_option maxHeartbeats 2000000 in
theorem catch_wrong_str (g : Nat) (x : Int) (older : List PanicEntry) (a0 : Value) (c : Value) (w : World) (h1 : w.heap[g]? = some (.cells #[a0] 9 (0, 0))) (h2 : w.heap[g + 1]? = some (.cells #[c] 28 (0, 0))) :
    CallsD Tryd.prog 118 #[.pointer (some ⟨g, 0, none⟩), .pointer (some ⟨g + 1, 0, none⟩)] (.panicking ({ v := .iface 126 (.agg #[.int .i64 x]), recovered := false } :: older)) w fun e u' w' =>
      e = .returned (.tuple #[]) ∧ u' = .panicking ({ v := .iface 126 (.agg #[.int .i64 x]), recovered := true } :: older) ∧
        w'.heap[g]? = some (.cells #[.string ⟨#[]⟩] 9 (0, 0)) ∧ w'.heap[g + 1]? = some (.cells #[.int .i64 x] 28 (0, 0)) ∧ Below g w w' := by
  refine callsD_of_wpS Tryd.func118 rfl fun c₀ cs hu => ?_
  apply wpS_seq
  apply wpS_region
  simp [wpOpsS, go_sem, recoverD, hu, Tryd.ntmps118, Exit.thenS]
  refine wpS_of_wp ?_
  have hta := assert_wrong x
  have x0 := cell_at h1 0 a0 rfl
  have y0 := frozen_at h1 0
  have xe := cell_at h2 0 c rfl
  have ye := frozen_at h2 0
  simp only [Array.replicate_succ, Array.replicate_zero, List.push_toArray, List.nil_append, List.cons_append]
  go_wp2_with fail
  have hl1 := (Array.getElem?_eq_some_iff.1 h1).1
  have hl2 := (Array.getElem?_eq_some_iff.1 h2).1
  obtain ⟨W4, hW4⟩ : ∃ W4, (w.alloc (.cells #[.int .i64 x] 126)) = W4 := ⟨_, rfl⟩
  have hz1 : W4.heap[w.heap.size]? = some (.cells #[.int .i64 x] 126 (0, 0)) := by rw [← hW4]; exact World.alloc_heap_new w _
  have hz3 : W4.heap[g]? = some (.cells #[a0] 9 (0, 0)) := by rw [← hW4]; exact (Below.heap_alloc _ _ _ hl1).trans h1
  have hz4 : W4.heap[g + 1]? = some (.cells #[c] 28 (0, 0)) := by rw [← hW4]; exact (Below.heap_alloc _ _ _ hl2).trans h2
  have hbl : Below g w W4 := by rw [← hW4]; exact (Below.refl g w).alloc (by omega) _
  try rw [hW4]
  clear hW4 x0 y0 xe ye h1 h2
  have z0 := cell_at hz1 0 _ rfl
  have x0 := cell_at hz3 0 a0 rfl
  have y0 := frozen_at hz3 0
  have xe := cell_at hz4 0 c rfl
  have ye := frozen_at hz4 0
  have n1 : ¬ g = w.heap.size := by omega
  have n2 : ¬ g = w.heap.size + 1 := by omega
  have n3 : ¬ w.heap.size = g := by omega
  have n4 : ¬ w.heap.size + 1 = g := by omega
  have n5 : ¬ g + 1 = w.heap.size := by omega
  have n6 : ¬ g + 1 = w.heap.size + 1 := by omega
  have n7 : ¬ w.heap.size = g + 1 := by omega
  have n8 : ¬ w.heap.size + 1 = g + 1 := by omega
  generalize w.heap.size = bq at *
  go_region
  cases c₀
  simp (config := { zetaDelta := true }) only [bodyPostS, results, Tryd.results118]
  refine ⟨trivial, _, rfl, .tuple #[], by simp [go_sem], rfl, rfl, ?_, ?_, ?_⟩
  · exact (Below.heap_setCell _ _ _ g (by simp)).trans (set_blk (hz3) 0 _)
  · exact set_blk ((Below.heap_setCell _ _ _ (g + 1) (by simp)).trans (hz4)) 0 _
  · exact below_drew (((hbl).setCell (Nat.le_refl _) _).setCell (by simp) _)

set_option maxRecDepth 100000 in
set_option maxHeartbeats 2000000 in
theorem try_str_ok (G : Nat) (caps : Array Value) (hG : ∀ (args : Array Value) (w : World), (callFunc G args).run Tryd.prog w = .ok (.enter G args) w) (w : World) (W2 : World)
    (hW2 : (w.alloc (.cells #[.string ⟨#[]⟩] 9)).alloc (.cells #[.int .i64 0] 28) = W2) (R : ByteArray → World → Prop)
    (h : Calls Tryd.prog G caps W2 fun e w' => ∃ (s : ByteArray), e = .returned (.string s) ∧ R s w' ∧ Below W2.heap.size W2 w') :
    Calls Tryd.prog 80 #[.func (.func G) #[] caps] w fun e w' =>
      ∃ (s : ByteArray) (w1 : World), R s w1 ∧ Below w.heap.size w w' ∧ (∀ A l, Rd w1 A l → Rd w' A l) ∧ e = .returned (.tuple #[.string s, .int .i64 0]) := by
  have hmf : ∀ (fn : Fn) (first cap : Array Value) (w : World), (Instr.makeFunc fn first cap).run Tryd.prog w = .ok (.func fn first cap) w := fun _ _ _ _ => rfl
  have hz1 : W2.heap[w.heap.size]? = some (.cells #[.string ⟨#[]⟩] 9 (0, 0)) := by rw [← hW2]; exact (Below.heap_alloc _ _ _ (by simp)).trans (World.alloc_heap_new w _)
  have hz2 : W2.heap[w.heap.size + 1]? = some (.cells #[.int .i64 0] 28 (0, 0)) := by rw [← hW2]; have := World.alloc_heap_new (w.alloc (.cells #[.string ⟨#[]⟩] 9)) (.cells #[.int .i64 0] 28); rwa [World.size_alloc] at this
  have hsz : W2.heap.size = w.heap.size + 2 := by rw [← hW2]; simp
  have hb2 : Below w.heap.size w W2 := by rw [← hW2]; exact ((Below.refl _ w).alloc (Nat.le_refl _) _).alloc (by simp) _
  have Hsz := Lib.hid hsz
  clear hsz
  go_enter_defers Tryd.func80, Tryd.ntmps80
  go_wp2_with first
    | (refine h.mono ?_; rintro e w' ⟨s, rfl, hR, hbl⟩; have hy1 := (hbl.block w.heap.size (by have := Hsz.out; omega)).trans hz1; have hy2 := (hbl.block (w.heap.size + 1) (by have := Hsz.out; omega)).trans hz2; have x0 := cell_at hy1 0 _ rfl; have y0 := frozen_at hy1 0; have xe := cell_at hy2 0 _ rfl; have ye := frozen_at hy2 0)
  obtain ⟨X, hX⟩ : ∃ X, ((w'.setCell ⟨w.heap.size, 0, none⟩ (.string s)).setCell ⟨w.heap.size + 1, 0, none⟩ (.int .i64 0)) = X := ⟨_, rfl⟩
  have hx1 : X.heap[w.heap.size]? = some (.cells #[.string s] 9 (0, 0)) := by rw [← hX]; exact (Below.heap_setCell _ _ _ _ (by simp)).trans (set_blk (hy1) 0 _)
  have hx2 : X.heap[w.heap.size + 1]? = some (.cells #[.int .i64 0] 28 (0, 0)) := by rw [← hX]; exact set_blk ((Below.heap_setCell _ _ _ _ (by simp)).trans (hy2)) 0 _
  have hbX : Below w.heap.size w X := by rw [← hX]; exact ((hb2.trans (hbl.mono hb2.size)).setCell (Nat.le_refl _) _).setCell (by simp) _
  have hRd : ∀ A l, Rd w' A l → Rd X A l := by
    intro A l hA
    rw [← hX]
    have e1 := hA.ne hy1 (by intro i x h; rcases i with _ | i <;> simp at h)
    have e2 := hA.ne hy2 (by intro i x h; rcases i with _ | i <;> simp at h)
    exact ((hA).setNe e1).setNe e2
  rw [hX]
  refine leaves_cons (f := 118) (args := #[.pointer (some ⟨w.heap.size, 0, none⟩), .pointer (some ⟨w.heap.size + 1, 0, none⟩)]) (by simp) (by simp [go_sem]) ?_
  refine (catch_idle_str ⟨w.heap.size, 0, none⟩ ⟨w.heap.size + 1, 0, none⟩ _).mono ?_
  rintro e u' w'' ⟨rfl, rfl, rfl⟩
  have v0 := cell_at hx1 0 _ rfl
  have ve := cell_at hx2 0 _ rfl
  refine ⟨.tuple #[.string s, .int .i64 0], ?_, s, w', hR, hbX, hRd, rfl⟩
  simp [results, Tryd.results80, go_sem, v0, ve]

set_option maxRecDepth 100000 in
set_option maxHeartbeats 2000000 in
theorem try_str_wrong (G : Nat) (caps : Array Value) (hG : ∀ (args : Array Value) (w : World), (callFunc G args).run Tryd.prog w = .ok (.enter G args) w) (w : World) (W2 : World)
    (hW2 : (w.alloc (.cells #[.string ⟨#[]⟩] 9)).alloc (.cells #[.int .i64 0] 28) = W2) (c : Int)
    (h : Calls Tryd.prog G caps W2 fun e w' => e = .panicked (wrong c) ∧ Below W2.heap.size W2 w') :
    Calls Tryd.prog 80 #[.func (.func G) #[] caps] w fun e w' =>
      Below w.heap.size w w' ∧ e = .returned (.tuple #[.string ⟨#[]⟩, .int .i64 c]) := by
  have hmf : ∀ (fn : Fn) (first cap : Array Value) (w : World), (Instr.makeFunc fn first cap).run Tryd.prog w = .ok (.func fn first cap) w := fun _ _ _ _ => rfl
  have hz1 : W2.heap[w.heap.size]? = some (.cells #[.string ⟨#[]⟩] 9 (0, 0)) := by rw [← hW2]; exact (Below.heap_alloc _ _ _ (by simp)).trans (World.alloc_heap_new w _)
  have hz2 : W2.heap[w.heap.size + 1]? = some (.cells #[.int .i64 0] 28 (0, 0)) := by rw [← hW2]; have := World.alloc_heap_new (w.alloc (.cells #[.string ⟨#[]⟩] 9)) (.cells #[.int .i64 0] 28); rwa [World.size_alloc] at this
  have hsz : W2.heap.size = w.heap.size + 2 := by rw [← hW2]; simp
  have hb2 : Below w.heap.size w W2 := by rw [← hW2]; exact ((Below.refl _ w).alloc (Nat.le_refl _) _).alloc (by simp) _
  have Hsz := Lib.hid hsz
  clear hsz
  go_enter_defers Tryd.func80, Tryd.ntmps80
  go_wp2_with first
    | (refine h.mono ?_; rintro e w' ⟨rfl, hbl⟩)
  have hy1 := (hbl.block w.heap.size (by have := Hsz.out; omega)).trans hz1
  have hy2 := (hbl.block (w.heap.size + 1) (by have := Hsz.out; omega)).trans hz2
  have hbw : Below w.heap.size w w' := hb2.trans (hbl.mono hb2.size)
  refine leaves_cons (f := 118) (args := #[.pointer (some ⟨w.heap.size, 0, none⟩), .pointer (some ⟨w.heap.size + 1, 0, none⟩)]) (by simp) (by simp [go_sem]) ?_
  refine (catch_wrong_str w.heap.size c [] _ _ _ hy1 hy2).mono ?_
  rintro e u' w'' ⟨rfl, rfl, hx1, hx2, hbx⟩
  have v0 := cell_at hx1 0 _ rfl
  have ve := cell_at hx2 0 _ rfl
  refine ⟨.tuple #[.string ⟨#[]⟩, .int .i64 c], ?_, hbw.trans hbx, rfl⟩
  simp [results, Tryd.results80, go_sem, v0, ve]

theorem catch_idle_num (p q : Addr) (w : World) :
    CallsD Tryd.prog 119 #[.pointer (some p), .pointer (some q)] .returning w fun e u' w' => e = .returned (.tuple #[]) ∧ u' = .returning ∧ w' = w := by
  refine callsD_of_wpS Tryd.func119 rfl fun c₀ cs hu => ?_
  apply wpS_seq
  apply wpS_region
  simp [wpOpsS, go_sem, recoverD, hu, Tryd.ntmps119, Exit.thenS]
  apply wpS_seq
  apply wpS_seq
  apply wpS_region
  simp [wpOpsS, go_sem, Exit.thenS]
  refine wpS_cond (t := true) (by simp [Act.eval, Array.replicate]) ?_
  simp only [if_true]
  refine wpS_of_wp (wp_ret ?_)
  cases c₀
  simp_all [bodyPostS, results, Tryd.results119, Exit.thenS]

set_option maxRecDepth 100000 in
set_option maxHeartbeats 2000000 in
theorem catch_wrong_num (g : Nat) (x : Int) (older : List PanicEntry) (a0 : Value) (c : Value) (w : World) (h1 : w.heap[g]? = some (.cells #[a0] 3 (0, 0))) (h2 : w.heap[g + 1]? = some (.cells #[c] 28 (0, 0))) :
    CallsD Tryd.prog 119 #[.pointer (some ⟨g, 0, none⟩), .pointer (some ⟨g + 1, 0, none⟩)] (.panicking ({ v := .iface 126 (.agg #[.int .i64 x]), recovered := false } :: older)) w fun e u' w' =>
      e = .returned (.tuple #[]) ∧ u' = .panicking ({ v := .iface 126 (.agg #[.int .i64 x]), recovered := true } :: older) ∧
        w'.heap[g]? = some (.cells #[.int .i64 0] 3 (0, 0)) ∧ w'.heap[g + 1]? = some (.cells #[.int .i64 x] 28 (0, 0)) ∧ Below g w w' := by
  refine callsD_of_wpS Tryd.func119 rfl fun c₀ cs hu => ?_
  apply wpS_seq
  apply wpS_region
  simp [wpOpsS, go_sem, recoverD, hu, Tryd.ntmps119, Exit.thenS]
  refine wpS_of_wp ?_
  have hta := assert_wrong x
  have x0 := cell_at h1 0 a0 rfl
  have y0 := frozen_at h1 0
  have xe := cell_at h2 0 c rfl
  have ye := frozen_at h2 0
  simp only [Array.replicate_succ, Array.replicate_zero, List.push_toArray, List.nil_append, List.cons_append]
  go_wp2_with fail
  have hl1 := (Array.getElem?_eq_some_iff.1 h1).1
  have hl2 := (Array.getElem?_eq_some_iff.1 h2).1
  obtain ⟨W4, hW4⟩ : ∃ W4, (w.alloc (.cells #[.int .i64 x] 126)) = W4 := ⟨_, rfl⟩
  have hz1 : W4.heap[w.heap.size]? = some (.cells #[.int .i64 x] 126 (0, 0)) := by rw [← hW4]; exact World.alloc_heap_new w _
  have hz3 : W4.heap[g]? = some (.cells #[a0] 3 (0, 0)) := by rw [← hW4]; exact (Below.heap_alloc _ _ _ hl1).trans h1
  have hz4 : W4.heap[g + 1]? = some (.cells #[c] 28 (0, 0)) := by rw [← hW4]; exact (Below.heap_alloc _ _ _ hl2).trans h2
  have hbl : Below g w W4 := by rw [← hW4]; exact (Below.refl g w).alloc (by omega) _
  try rw [hW4]
  clear hW4 x0 y0 xe ye h1 h2
  have z0 := cell_at hz1 0 _ rfl
  have x0 := cell_at hz3 0 a0 rfl
  have y0 := frozen_at hz3 0
  have xe := cell_at hz4 0 c rfl
  have ye := frozen_at hz4 0
  have n1 : ¬ g = w.heap.size := by omega
  have n2 : ¬ g = w.heap.size + 1 := by omega
  have n3 : ¬ w.heap.size = g := by omega
  have n4 : ¬ w.heap.size + 1 = g := by omega
  have n5 : ¬ g + 1 = w.heap.size := by omega
  have n6 : ¬ g + 1 = w.heap.size + 1 := by omega
  have n7 : ¬ w.heap.size = g + 1 := by omega
  have n8 : ¬ w.heap.size + 1 = g + 1 := by omega
  generalize w.heap.size = bq at *
  go_region
  cases c₀
  simp (config := { zetaDelta := true }) only [bodyPostS, results, Tryd.results119]
  refine ⟨trivial, _, rfl, .tuple #[], by simp [go_sem], rfl, rfl, ?_, ?_, ?_⟩
  · exact (Below.heap_setCell _ _ _ g (by simp)).trans (set_blk (hz3) 0 _)
  · exact set_blk ((Below.heap_setCell _ _ _ (g + 1) (by simp)).trans (hz4)) 0 _
  · exact below_drew (((hbl).setCell (Nat.le_refl _) _).setCell (by simp) _)

set_option maxRecDepth 100000 in
set_option maxHeartbeats 2000000 in
theorem try_num_ok (G : Nat) (caps : Array Value) (hG : ∀ (args : Array Value) (w : World), (callFunc G args).run Tryd.prog w = .ok (.enter G args) w) (w : World) (W2 : World)
    (hW2 : (w.alloc (.cells #[.int .i64 0] 3)).alloc (.cells #[.int .i64 0] 28) = W2) (R : Int → World → Prop)
    (h : Calls Tryd.prog G caps W2 fun e w' => ∃ (z : Int), e = .returned (.int .i64 z) ∧ R z w' ∧ Below W2.heap.size W2 w') :
    Calls Tryd.prog 92 #[.func (.func G) #[] caps] w fun e w' =>
      ∃ (z : Int) (w1 : World), R z w1 ∧ Below w.heap.size w w' ∧ (∀ A l, Rd w1 A l → Rd w' A l) ∧ e = .returned (.tuple #[.int .i64 z, .int .i64 0]) := by
  have hmf : ∀ (fn : Fn) (first cap : Array Value) (w : World), (Instr.makeFunc fn first cap).run Tryd.prog w = .ok (.func fn first cap) w := fun _ _ _ _ => rfl
  have hz1 : W2.heap[w.heap.size]? = some (.cells #[.int .i64 0] 3 (0, 0)) := by rw [← hW2]; exact (Below.heap_alloc _ _ _ (by simp)).trans (World.alloc_heap_new w _)
  have hz2 : W2.heap[w.heap.size + 1]? = some (.cells #[.int .i64 0] 28 (0, 0)) := by rw [← hW2]; have := World.alloc_heap_new (w.alloc (.cells #[.int .i64 0] 3)) (.cells #[.int .i64 0] 28); rwa [World.size_alloc] at this
  have hsz : W2.heap.size = w.heap.size + 2 := by rw [← hW2]; simp
  have hb2 : Below w.heap.size w W2 := by rw [← hW2]; exact ((Below.refl _ w).alloc (Nat.le_refl _) _).alloc (by simp) _
  have Hsz := Lib.hid hsz
  clear hsz
  go_enter_defers Tryd.func92, Tryd.ntmps92
  go_wp2_with first
    | (refine h.mono ?_; rintro e w' ⟨z, rfl, hR, hbl⟩; have hy1 := (hbl.block w.heap.size (by have := Hsz.out; omega)).trans hz1; have hy2 := (hbl.block (w.heap.size + 1) (by have := Hsz.out; omega)).trans hz2; have x0 := cell_at hy1 0 _ rfl; have y0 := frozen_at hy1 0; have xe := cell_at hy2 0 _ rfl; have ye := frozen_at hy2 0)
  obtain ⟨X, hX⟩ : ∃ X, ((w'.setCell ⟨w.heap.size, 0, none⟩ (.int .i64 z)).setCell ⟨w.heap.size + 1, 0, none⟩ (.int .i64 0)) = X := ⟨_, rfl⟩
  have hx1 : X.heap[w.heap.size]? = some (.cells #[.int .i64 z] 3 (0, 0)) := by rw [← hX]; exact (Below.heap_setCell _ _ _ _ (by simp)).trans (set_blk (hy1) 0 _)
  have hx2 : X.heap[w.heap.size + 1]? = some (.cells #[.int .i64 0] 28 (0, 0)) := by rw [← hX]; exact set_blk ((Below.heap_setCell _ _ _ _ (by simp)).trans (hy2)) 0 _
  have hbX : Below w.heap.size w X := by rw [← hX]; exact ((hb2.trans (hbl.mono hb2.size)).setCell (Nat.le_refl _) _).setCell (by simp) _
  have hRd : ∀ A l, Rd w' A l → Rd X A l := by
    intro A l hA
    rw [← hX]
    have e1 := hA.ne hy1 (by intro i x h; rcases i with _ | i <;> simp at h)
    have e2 := hA.ne hy2 (by intro i x h; rcases i with _ | i <;> simp at h)
    exact ((hA).setNe e1).setNe e2
  rw [hX]
  refine leaves_cons (f := 119) (args := #[.pointer (some ⟨w.heap.size, 0, none⟩), .pointer (some ⟨w.heap.size + 1, 0, none⟩)]) (by simp) (by simp [go_sem]) ?_
  refine (catch_idle_num ⟨w.heap.size, 0, none⟩ ⟨w.heap.size + 1, 0, none⟩ _).mono ?_
  rintro e u' w'' ⟨rfl, rfl, rfl⟩
  have v0 := cell_at hx1 0 _ rfl
  have ve := cell_at hx2 0 _ rfl
  refine ⟨.tuple #[.int .i64 z, .int .i64 0], ?_, z, w', hR, hbX, hRd, rfl⟩
  simp [results, Tryd.results92, go_sem, v0, ve]

set_option maxRecDepth 100000 in
set_option maxHeartbeats 2000000 in
theorem try_num_wrong (G : Nat) (caps : Array Value) (hG : ∀ (args : Array Value) (w : World), (callFunc G args).run Tryd.prog w = .ok (.enter G args) w) (w : World) (W2 : World)
    (hW2 : (w.alloc (.cells #[.int .i64 0] 3)).alloc (.cells #[.int .i64 0] 28) = W2) (c : Int)
    (h : Calls Tryd.prog G caps W2 fun e w' => e = .panicked (wrong c) ∧ Below W2.heap.size W2 w') :
    Calls Tryd.prog 92 #[.func (.func G) #[] caps] w fun e w' =>
      Below w.heap.size w w' ∧ e = .returned (.tuple #[.int .i64 0, .int .i64 c]) := by
  have hmf : ∀ (fn : Fn) (first cap : Array Value) (w : World), (Instr.makeFunc fn first cap).run Tryd.prog w = .ok (.func fn first cap) w := fun _ _ _ _ => rfl
  have hz1 : W2.heap[w.heap.size]? = some (.cells #[.int .i64 0] 3 (0, 0)) := by rw [← hW2]; exact (Below.heap_alloc _ _ _ (by simp)).trans (World.alloc_heap_new w _)
  have hz2 : W2.heap[w.heap.size + 1]? = some (.cells #[.int .i64 0] 28 (0, 0)) := by rw [← hW2]; have := World.alloc_heap_new (w.alloc (.cells #[.int .i64 0] 3)) (.cells #[.int .i64 0] 28); rwa [World.size_alloc] at this
  have hsz : W2.heap.size = w.heap.size + 2 := by rw [← hW2]; simp
  have hb2 : Below w.heap.size w W2 := by rw [← hW2]; exact ((Below.refl _ w).alloc (Nat.le_refl _) _).alloc (by simp) _
  have Hsz := Lib.hid hsz
  clear hsz
  go_enter_defers Tryd.func92, Tryd.ntmps92
  go_wp2_with first
    | (refine h.mono ?_; rintro e w' ⟨rfl, hbl⟩)
  have hy1 := (hbl.block w.heap.size (by have := Hsz.out; omega)).trans hz1
  have hy2 := (hbl.block (w.heap.size + 1) (by have := Hsz.out; omega)).trans hz2
  have hbw : Below w.heap.size w w' := hb2.trans (hbl.mono hb2.size)
  refine leaves_cons (f := 119) (args := #[.pointer (some ⟨w.heap.size, 0, none⟩), .pointer (some ⟨w.heap.size + 1, 0, none⟩)]) (by simp) (by simp [go_sem]) ?_
  refine (catch_wrong_num w.heap.size c [] _ _ _ hy1 hy2).mono ?_
  rintro e u' w'' ⟨rfl, rfl, hx1, hx2, hbx⟩
  have v0 := cell_at hx1 0 _ rfl
  have ve := cell_at hx2 0 _ rfl
  refine ⟨.tuple #[.int .i64 0, .int .i64 c], ?_, hbw.trans hbx, rfl⟩
  simp [results, Tryd.results92, go_sem, v0, ve]

end Nm
end Go.Proofs.YtlhmbbpkhahbeaaDoor
namespace Go.Proofs.YtlhmbbpkhahbeaaDoor
namespace Nm
open Go.RowKit Go.Shelf Go.BigFrame
attribute [local go_sem] Oper.semAt_some

theorem heap_drew (W : World) (g : Nat) {o : Option Obj} (h : W.heap[g]? = o) : W.drew.heap[g]? = o := h

theorem set6 {W : World} {B : Nat} {a0 a1 a2 a3 a4 a5 : Value} {t : TypeId} (h : W.heap[B]? = some (.cells #[a0, a1, a2, a3, a4, a5] t (0, 0))) (v0 v1 v2 v3 v4 v5 : Value) :
    ((((((W.setCell ⟨B, 0, none⟩ v0).setCell ⟨B, 1, none⟩ v1).setCell ⟨B, 2, none⟩ v2).setCell ⟨B, 3, none⟩ v3).setCell ⟨B, 4, none⟩ v4).setCell ⟨B, 5, none⟩ v5).heap[B]? = some (.cells #[v0, v1, v2, v3, v4, v5] t (0, 0)) := by
  have h0 : (W.setCell ⟨B, 0, none⟩ v0).heap[B]? = some (.cells #[v0, a1, a2, a3, a4, a5] t (0, 0)) := set_blk h 0 v0
  generalize W.setCell ⟨B, 0, none⟩ v0 = W at *
  have h1 : (W.setCell ⟨B, 1, none⟩ v1).heap[B]? = some (.cells #[v0, v1, a2, a3, a4, a5] t (0, 0)) := set_blk h0 1 v1
  generalize W.setCell ⟨B, 1, none⟩ v1 = W at *
  have h2 : (W.setCell ⟨B, 2, none⟩ v2).heap[B]? = some (.cells #[v0, v1, v2, a3, a4, a5] t (0, 0)) := set_blk h1 2 v2
  generalize W.setCell ⟨B, 2, none⟩ v2 = W at *
  have h3 : (W.setCell ⟨B, 3, none⟩ v3).heap[B]? = some (.cells #[v0, v1, v2, v3, a4, a5] t (0, 0)) := set_blk h2 3 v3
  generalize W.setCell ⟨B, 3, none⟩ v3 = W at *
  have h4 : (W.setCell ⟨B, 4, none⟩ v4).heap[B]? = some (.cells #[v0, v1, v2, v3, v4, a5] t (0, 0)) := set_blk h3 4 v4
  generalize W.setCell ⟨B, 4, none⟩ v4 = W at *
  exact set_blk h4 5 v5


theorem catch_idle_shr (p q : Addr) (w : World) :
    CallsD Tryd.prog 117 #[.pointer (some p), .pointer (some q)] .returning w fun e u' w' => e = .returned (.tuple #[]) ∧ u' = .returning ∧ w' = w := by
  refine callsD_of_wpS Tryd.func117 rfl fun c₀ cs hu => ?_
  apply wpS_seq
  apply wpS_region
  simp [wpOpsS, go_sem, recoverD, hu, Tryd.ntmps117, Exit.thenS]
  apply wpS_seq
  apply wpS_seq
  apply wpS_region
  simp [wpOpsS, go_sem, Exit.thenS]
  refine wpS_cond (t := true) (by simp [Act.eval, Array.replicate]) ?_
  simp only [if_true]
  refine wpS_of_wp (wp_ret ?_)
  cases c₀
  simp_all [bodyPostS, results, Tryd.results117, Exit.thenS]

set_option maxRecDepth 100000 in
set_option maxHeartbeats 2000000 in
theorem catch_wrong_shr (g : Nat) (x : Int) (older : List PanicEntry) (a0 a1 a2 a3 a4 a5 : Value) (c : Value) (w : World) (h1 : w.heap[g]? = some (.cells #[a0, a1, a2, a3, a4, a5] 97 (0, 0))) (h2 : w.heap[g + 1]? = some (.cells #[c] 28 (0, 0))) :
    CallsD Tryd.prog 117 #[.pointer (some ⟨g, 0, none⟩), .pointer (some ⟨g + 1, 0, none⟩)] (.panicking ({ v := .iface 126 (.agg #[.int .i64 x]), recovered := false } :: older)) w fun e u' w' =>
      e = .returned (.tuple #[]) ∧ u' = .panicking ({ v := .iface 126 (.agg #[.int .i64 x]), recovered := true } :: older) ∧
        w'.heap[g]? = some (.cells #[.bool false, .slice none 0 0, .bool false, .slice none 0 0, .bool false, .slice none 0 0] 97 (0, 0)) ∧ w'.heap[g + 1]? = some (.cells #[.int .i64 x] 28 (0, 0)) ∧ Below g w w' := by
  refine callsD_of_wpS Tryd.func117 rfl fun c₀ cs hu => ?_
  apply wpS_seq
  apply wpS_region
  simp [wpOpsS, go_sem, recoverD, hu, Tryd.ntmps117, Exit.thenS]
  refine wpS_of_wp ?_
  have hta := assert_wrong x
  have x0 := cell_at h1 0 a0 rfl
  have y0 := frozen_at h1 0
  have x1 := cell_at h1 1 a1 rfl
  have y1 := frozen_at h1 1
  have x2 := cell_at h1 2 a2 rfl
  have y2 := frozen_at h1 2
  have x3 := cell_at h1 3 a3 rfl
  have y3 := frozen_at h1 3
  have x4 := cell_at h1 4 a4 rfl
  have y4 := frozen_at h1 4
  have x5 := cell_at h1 5 a5 rfl
  have y5 := frozen_at h1 5
  have xe := cell_at h2 0 c rfl
  have ye := frozen_at h2 0
  simp only [Array.replicate_succ, Array.replicate_zero, List.push_toArray, List.nil_append, List.cons_append]
  go_wp2_with fail
  have hl1 := (Array.getElem?_eq_some_iff.1 h1).1
  have hl2 := (Array.getElem?_eq_some_iff.1 h2).1
  obtain ⟨W4, hW4⟩ : ∃ W4, ((w.alloc (.cells #[.int .i64 x] 126)).alloc (.cells #[.bool false, .slice none 0 0, .bool false, .slice none 0 0, .bool false, .slice none 0 0] 97)) = W4 := ⟨_, rfl⟩
  have hz1 : W4.heap[w.heap.size]? = some (.cells #[.int .i64 x] 126 (0, 0)) := by rw [← hW4]; exact (Below.heap_alloc _ _ _ (by simp)).trans (World.alloc_heap_new w _)
  have hz2 : W4.heap[w.heap.size + 1]? = some (.cells #[.bool false, .slice none 0 0, .bool false, .slice none 0 0, .bool false, .slice none 0 0] 97 (0, 0)) := by rw [← hW4]; have := World.alloc_heap_new (w.alloc (.cells #[.int .i64 x] 126)) (.cells #[.bool false, .slice none 0 0, .bool false, .slice none 0 0, .bool false, .slice none 0 0] 97); rwa [World.size_alloc] at this
  have hz3 : W4.heap[g]? = some (.cells #[a0, a1, a2, a3, a4, a5] 97 (0, 0)) := by rw [← hW4]; exact (Below.heap_alloc _ _ _ (by simp; omega)).trans ((Below.heap_alloc _ _ _ hl1).trans h1)
  have hz4 : W4.heap[g + 1]? = some (.cells #[c] 28 (0, 0)) := by rw [← hW4]; exact (Below.heap_alloc _ _ _ (by simp; omega)).trans ((Below.heap_alloc _ _ _ hl2).trans h2)
  have hbl : Below g w W4 := by rw [← hW4]; exact ((Below.refl g w).alloc (by omega) _).alloc (by simp; omega) _
  rw [hW4]
  clear hW4 x0 y0 x1 y1 x2 y2 x3 y3 x4 y4 x5 y5 xe ye h1 h2
  have z0 := cell_at hz1 0 _ rfl
  have zz0 := cell_at hz2 0 _ rfl
  have x0 := cell_at hz3 0 a0 rfl
  have y0 := frozen_at hz3 0
  have zz1 := cell_at hz2 1 _ rfl
  have x1 := cell_at hz3 1 a1 rfl
  have y1 := frozen_at hz3 1
  have zz2 := cell_at hz2 2 _ rfl
  have x2 := cell_at hz3 2 a2 rfl
  have y2 := frozen_at hz3 2
  have zz3 := cell_at hz2 3 _ rfl
  have x3 := cell_at hz3 3 a3 rfl
  have y3 := frozen_at hz3 3
  have zz4 := cell_at hz2 4 _ rfl
  have x4 := cell_at hz3 4 a4 rfl
  have y4 := frozen_at hz3 4
  have zz5 := cell_at hz2 5 _ rfl
  have x5 := cell_at hz3 5 a5 rfl
  have y5 := frozen_at hz3 5
  have xe := cell_at hz4 0 c rfl
  have ye := frozen_at hz4 0
  have n1 : ¬ g = w.heap.size := by omega
  have n2 : ¬ g = w.heap.size + 1 := by omega
  have n3 : ¬ w.heap.size = g := by omega
  have n4 : ¬ w.heap.size + 1 = g := by omega
  have n5 : ¬ g + 1 = w.heap.size := by omega
  have n6 : ¬ g + 1 = w.heap.size + 1 := by omega
  have n7 : ¬ w.heap.size = g + 1 := by omega
  have n8 : ¬ w.heap.size + 1 = g + 1 := by omega
  generalize w.heap.size = bq at *
  go_region
  cases c₀
  simp (config := { zetaDelta := true }) only [bodyPostS, results, Tryd.results117]
  refine ⟨trivial, _, rfl, .tuple #[], by simp [go_sem], rfl, rfl, ?_, ?_, ?_⟩
  · exact heap_drew _ _ ((Below.heap_setCell _ _ _ g (by simp)).trans (set6 hz3 _ _ _ _ _ _))
  · exact heap_drew _ _ (set_blk ((Below.heap_setCell _ _ _ (g + 1) (by simp)).trans ((Below.heap_setCell _ _ _ (g + 1) (by simp)).trans ((Below.heap_setCell _ _ _ (g + 1) (by simp)).trans ((Below.heap_setCell _ _ _ (g + 1) (by simp)).trans ((Below.heap_setCell _ _ _ (g + 1) (by simp)).trans ((Below.heap_setCell _ _ _ (g + 1) (by simp)).trans (hz4))))))) 0 _)
  · exact below_drew ((((((((hbl).setCell (Nat.le_refl _) _).setCell (Nat.le_refl _) _).setCell (Nat.le_refl _) _).setCell (Nat.le_refl _) _).setCell (Nat.le_refl _) _).setCell (Nat.le_refl _) _).setCell (by simp) _)

set_option maxRecDepth 100000 in
set_option maxHeartbeats 2000000 in
theorem try_shr_ok (G : Nat) (caps : Array Value) (hG : ∀ (args : Array Value) (w : World), (callFunc G args).run Tryd.prog w = .ok (.enter G args) w) (w : World) (W2 : World)
    (hW2 : (w.alloc (.cells #[.bool false, .slice none 0 0, .bool false, .slice none 0 0, .bool false, .slice none 0 0] 97)).alloc (.cells #[.int .i64 0] 28) = W2) (R : Bool → Option Addr → Nat → Nat → Bool → Option Addr → Nat → Nat → Bool → Option Addr → Nat → Nat → World → Prop)
    (h : Calls Tryd.prog G caps W2 fun e w' => ∃ (s1 : Bool) (A1 : Option Addr) (m1 : Nat) (c1 : Nat) (s2 : Bool) (A2 : Option Addr) (m2 : Nat) (c2 : Nat) (s3 : Bool) (A3 : Option Addr) (m3 : Nat) (c3 : Nat), e = .returned (.agg #[.bool s1, .slice A1 m1 c1, .bool s2, .slice A2 m2 c2, .bool s3, .slice A3 m3 c3]) ∧ R s1 A1 m1 c1 s2 A2 m2 c2 s3 A3 m3 c3 w' ∧ Below W2.heap.size W2 w') :
    Calls Tryd.prog 76 #[.func (.func G) #[] caps] w fun e w' =>
      ∃ (s1 : Bool) (A1 : Option Addr) (m1 : Nat) (c1 : Nat) (s2 : Bool) (A2 : Option Addr) (m2 : Nat) (c2 : Nat) (s3 : Bool) (A3 : Option Addr) (m3 : Nat) (c3 : Nat) (w1 : World), R s1 A1 m1 c1 s2 A2 m2 c2 s3 A3 m3 c3 w1 ∧ Below w.heap.size w w' ∧ (∀ A l, Rd w1 A l → Rd w' A l) ∧ e = .returned (.tuple #[.agg #[.bool s1, .slice A1 m1 c1, .bool s2, .slice A2 m2 c2, .bool s3, .slice A3 m3 c3], .int .i64 0]) := by
  have hmf : ∀ (fn : Fn) (first cap : Array Value) (w : World), (Instr.makeFunc fn first cap).run Tryd.prog w = .ok (.func fn first cap) w := fun _ _ _ _ => rfl
  have hz1 : W2.heap[w.heap.size]? = some (.cells #[.bool false, .slice none 0 0, .bool false, .slice none 0 0, .bool false, .slice none 0 0] 97 (0, 0)) := by rw [← hW2]; exact (Below.heap_alloc _ _ _ (by simp)).trans (World.alloc_heap_new w _)
  have hz2 : W2.heap[w.heap.size + 1]? = some (.cells #[.int .i64 0] 28 (0, 0)) := by rw [← hW2]; have := World.alloc_heap_new (w.alloc (.cells #[.bool false, .slice none 0 0, .bool false, .slice none 0 0, .bool false, .slice none 0 0] 97)) (.cells #[.int .i64 0] 28); rwa [World.size_alloc] at this
  have hsz : W2.heap.size = w.heap.size + 2 := by rw [← hW2]; simp
  have hb2 : Below w.heap.size w W2 := by rw [← hW2]; exact ((Below.refl _ w).alloc (Nat.le_refl _) _).alloc (by simp) _
  have Hsz := Lib.hid hsz
  clear hsz
  go_enter_defers Tryd.func76, Tryd.ntmps76
  go_wp2_with first
    | (refine h.mono ?_; rintro e w' ⟨s1, A1, m1, c1, s2, A2, m2, c2, s3, A3, m3, c3, rfl, hR, hbl⟩; have hy1 := (hbl.block w.heap.size (by have := Hsz.out; omega)).trans hz1; have hy2 := (hbl.block (w.heap.size + 1) (by have := Hsz.out; omega)).trans hz2; have x0 := cell_at hy1 0 _ rfl; have y0 := frozen_at hy1 0; have x1 := cell_at hy1 1 _ rfl; have y1 := frozen_at hy1 1; have x2 := cell_at hy1 2 _ rfl; have y2 := frozen_at hy1 2; have x3 := cell_at hy1 3 _ rfl; have y3 := frozen_at hy1 3; have x4 := cell_at hy1 4 _ rfl; have y4 := frozen_at hy1 4; have x5 := cell_at hy1 5 _ rfl; have y5 := frozen_at hy1 5; have xe := cell_at hy2 0 _ rfl; have ye := frozen_at hy2 0)
  obtain ⟨X, hX⟩ : ∃ X, (((((((w'.setCell ⟨w.heap.size, 0, none⟩ (.bool s1)).setCell ⟨w.heap.size, 1, none⟩ (.slice A1 m1 c1)).setCell ⟨w.heap.size, 2, none⟩ (.bool s2)).setCell ⟨w.heap.size, 3, none⟩ (.slice A2 m2 c2)).setCell ⟨w.heap.size, 4, none⟩ (.bool s3)).setCell ⟨w.heap.size, 5, none⟩ (.slice A3 m3 c3)).setCell ⟨w.heap.size + 1, 0, none⟩ (.int .i64 0)) = X := ⟨_, rfl⟩
  have hx1 : X.heap[w.heap.size]? = some (.cells #[.bool s1, .slice A1 m1 c1, .bool s2, .slice A2 m2 c2, .bool s3, .slice A3 m3 c3] 97 (0, 0)) := by rw [← hX]; exact (Below.heap_setCell _ _ _ _ (by simp)).trans (set6 hy1 _ _ _ _ _ _)
  have hx2 : X.heap[w.heap.size + 1]? = some (.cells #[.int .i64 0] 28 (0, 0)) := by rw [← hX]; exact set_blk ((Below.heap_setCell _ _ _ _ (by simp)).trans ((Below.heap_setCell _ _ _ _ (by simp)).trans ((Below.heap_setCell _ _ _ _ (by simp)).trans ((Below.heap_setCell _ _ _ _ (by simp)).trans ((Below.heap_setCell _ _ _ _ (by simp)).trans ((Below.heap_setCell _ _ _ _ (by simp)).trans (hy2))))))) 0 _
  have hbX : Below w.heap.size w X := by rw [← hX]; exact (((((((hb2.trans (hbl.mono hb2.size)).setCell (Nat.le_refl _) _).setCell (Nat.le_refl _) _).setCell (Nat.le_refl _) _).setCell (Nat.le_refl _) _).setCell (Nat.le_refl _) _).setCell (Nat.le_refl _) _).setCell (by simp) _
  have hRd : ∀ A l, Rd w' A l → Rd X A l := by
    intro A l hA
    rw [← hX]
    have e1 := hA.ne hy1 (by intro i x h; rcases i with _ | _ | _ | _ | _ | _ | i <;> simp at h)
    have e2 := hA.ne hy2 (by intro i x h; rcases i with _ | i <;> simp at h)
    exact (((((((hA).setNe e1).setNe e1).setNe e1).setNe e1).setNe e1).setNe e1).setNe e2
  rw [hX]
  refine leaves_cons (f := 117) (args := #[.pointer (some ⟨w.heap.size, 0, none⟩), .pointer (some ⟨w.heap.size + 1, 0, none⟩)]) (by simp) (by simp [go_sem]) ?_
  refine (catch_idle_shr ⟨w.heap.size, 0, none⟩ ⟨w.heap.size + 1, 0, none⟩ _).mono ?_
  rintro e u' w'' ⟨rfl, rfl, rfl⟩
  have v0 := cell_at hx1 0 _ rfl
  have v1 := cell_at hx1 1 _ rfl
  have v2 := cell_at hx1 2 _ rfl
  have v3 := cell_at hx1 3 _ rfl
  have v4 := cell_at hx1 4 _ rfl
  have v5 := cell_at hx1 5 _ rfl
  have ve := cell_at hx2 0 _ rfl
  refine ⟨.tuple #[.agg #[.bool s1, .slice A1 m1 c1, .bool s2, .slice A2 m2 c2, .bool s3, .slice A3 m3 c3], .int .i64 0], ?_, s1, A1, m1, c1, s2, A2, m2, c2, s3, A3, m3, c3, w', hR, hbX, hRd, rfl⟩
  simp [results, Tryd.results76, go_sem, v0, v1, v2, v3, v4, v5, ve]

set_option maxRecDepth 100000 in
set_option maxHeartbeats 2000000 in
theorem try_shr_wrong (G : Nat) (caps : Array Value) (hG : ∀ (args : Array Value) (w : World), (callFunc G args).run Tryd.prog w = .ok (.enter G args) w) (w : World) (W2 : World)
    (hW2 : (w.alloc (.cells #[.bool false, .slice none 0 0, .bool false, .slice none 0 0, .bool false, .slice none 0 0] 97)).alloc (.cells #[.int .i64 0] 28) = W2) (c : Int)
    (h : Calls Tryd.prog G caps W2 fun e w' => e = .panicked (wrong c) ∧ Below W2.heap.size W2 w') :
    Calls Tryd.prog 76 #[.func (.func G) #[] caps] w fun e w' =>
      Below w.heap.size w w' ∧ e = .returned (.tuple #[.agg #[.bool false, .slice none 0 0, .bool false, .slice none 0 0, .bool false, .slice none 0 0], .int .i64 c]) := by
  have hmf : ∀ (fn : Fn) (first cap : Array Value) (w : World), (Instr.makeFunc fn first cap).run Tryd.prog w = .ok (.func fn first cap) w := fun _ _ _ _ => rfl
  have hz1 : W2.heap[w.heap.size]? = some (.cells #[.bool false, .slice none 0 0, .bool false, .slice none 0 0, .bool false, .slice none 0 0] 97 (0, 0)) := by rw [← hW2]; exact (Below.heap_alloc _ _ _ (by simp)).trans (World.alloc_heap_new w _)
  have hz2 : W2.heap[w.heap.size + 1]? = some (.cells #[.int .i64 0] 28 (0, 0)) := by rw [← hW2]; have := World.alloc_heap_new (w.alloc (.cells #[.bool false, .slice none 0 0, .bool false, .slice none 0 0, .bool false, .slice none 0 0] 97)) (.cells #[.int .i64 0] 28); rwa [World.size_alloc] at this
  have hsz : W2.heap.size = w.heap.size + 2 := by rw [← hW2]; simp
  have hb2 : Below w.heap.size w W2 := by rw [← hW2]; exact ((Below.refl _ w).alloc (Nat.le_refl _) _).alloc (by simp) _
  have Hsz := Lib.hid hsz
  clear hsz
  go_enter_defers Tryd.func76, Tryd.ntmps76
  go_wp2_with first
    | (refine h.mono ?_; rintro e w' ⟨rfl, hbl⟩)
  have hy1 := (hbl.block w.heap.size (by have := Hsz.out; omega)).trans hz1
  have hy2 := (hbl.block (w.heap.size + 1) (by have := Hsz.out; omega)).trans hz2
  have hbw : Below w.heap.size w w' := hb2.trans (hbl.mono hb2.size)
  refine leaves_cons (f := 117) (args := #[.pointer (some ⟨w.heap.size, 0, none⟩), .pointer (some ⟨w.heap.size + 1, 0, none⟩)]) (by simp) (by simp [go_sem]) ?_
  refine (catch_wrong_shr w.heap.size c [] _ _ _ _ _ _ _ _ hy1 hy2).mono ?_
  rintro e u' w'' ⟨rfl, rfl, hx1, hx2, hbx⟩
  have v0 := cell_at hx1 0 _ rfl
  have v1 := cell_at hx1 1 _ rfl
  have v2 := cell_at hx1 2 _ rfl
  have v3 := cell_at hx1 3 _ rfl
  have v4 := cell_at hx1 4 _ rfl
  have v5 := cell_at hx1 5 _ rfl
  have ve := cell_at hx2 0 _ rfl
  refine ⟨.tuple #[.agg #[.bool false, .slice none 0 0, .bool false, .slice none 0 0, .bool false, .slice none 0 0], .int .i64 c], ?_, hbw.trans hbx, rfl⟩
  simp [results, Tryd.results76, go_sem, v0, v1, v2, v3, v4, v5, ve]

end Nm
end Go.Proofs.YtlhmbbpkhahbeaaDoor
namespace Go.Proofs.YtlhmbbpkhahbeaaDoor
namespace Nm
open Go.RowKit Go.Shelf Go.BigFrame
attribute [local go_sem] Oper.semAt_some

/-- the quotient, rounded down, and the rest -/
def divZ (a b : Int) : Int := if 0 < b then a / b else (-a) / (-b)
def modZ (a b : Int) : Int := a - b * divZ a b

theorem neg_ediv_nat (m n : Nat) (hn : 0 < n) : (-(m : Int)) / (n : Int) = if m % n = 0 then -((m / n : Nat) : Int) else -((m / n + 1 : Nat) : Int) := by
  have h := Nat.div_add_mod m n
  have hlt := Nat.mod_lt m hn
  split
  · rename_i h0
    rw [h0, Nat.add_zero] at h
    refine ((Int.ediv_emod_unique (r := 0) (show (0 : Int) < (n : Int) by omega)).2 ⟨?_, Int.le_refl _, by omega⟩).1
    rw [Int.zero_add, Int.mul_neg, ← Int.natCast_mul, h]
  · rename_i h0
    refine ((Int.ediv_emod_unique (r := (n : Int) - ((m % n : Nat) : Int)) (show (0 : Int) < (n : Int) by omega)).2 ⟨?_, by omega, by omega⟩).1
    have h' : (n : Int) * ((m / n : Nat) : Int) + ((m % n : Nat) : Int) = (m : Int) := by rw [← Int.natCast_mul]; exact_mod_cast h
    rw [Int.natCast_add, Int.neg_add, Int.mul_add, Int.mul_neg]
    have e : (n : Int) * -((1 : Nat) : Int) = -(n : Int) := by simp
    rw [e]
    omega

/-- what the program makes of the magnitudes -/
theorem div_same (s : Bool) (m n : Nat) (hn : 0 < n) : divZ (if s then -(m : Int) else m) (if s then -(n : Int) else n) = ((m / n : Nat) : Int) ∧ modZ (if s then -(m : Int) else m) (if s then -(n : Int) else n) = if s then -((m % n : Nat) : Int) else ((m % n : Nat) : Int) := by
  have h := Nat.div_add_mod m n
  have h' : (n : Int) * ((m / n : Nat) : Int) + ((m % n : Nat) : Int) = (m : Int) := by rw [← Int.natCast_mul]; exact_mod_cast h
  have hd : divZ (if s then -(m : Int) else m) (if s then -(n : Int) else n) = ((m / n : Nat) : Int) := by
    unfold divZ
    cases s
    · simp [hn]
    · simp only [if_true]; rw [if_neg (by omega)]; simp
  refine ⟨hd, ?_⟩
  unfold modZ
  rw [hd]
  cases s
  · simp only [Bool.false_eq_true, if_false]; omega
  · simp only [if_true, Int.neg_mul]; omega

theorem div_other (s : Bool) (m n : Nat) (hn : 0 < n) : divZ (if s then -(m : Int) else m) (if !s then -(n : Int) else n) = (if m % n = 0 then -((m / n : Nat) : Int) else -((m / n + 1 : Nat) : Int)) ∧
    modZ (if s then -(m : Int) else m) (if !s then -(n : Int) else n) = if m % n = 0 then 0 else (if !s then -((n - m % n : Nat) : Int) else ((n - m % n : Nat) : Int)) := by
  have h := Nat.div_add_mod m n
  have hlt := Nat.mod_lt m hn
  have h' : (n : Int) * ((m / n : Nat) : Int) + ((m % n : Nat) : Int) = (m : Int) := by rw [← Int.natCast_mul]; exact_mod_cast h
  have hd : divZ (if s then -(m : Int) else m) (if !s then -(n : Int) else n) = (if m % n = 0 then -((m / n : Nat) : Int) else -((m / n + 1 : Nat) : Int)) := by
    rw [← neg_ediv_nat m n hn]
    unfold divZ
    cases s
    · simp only [Bool.false_eq_true, Bool.not_false, if_false, if_true]; rw [if_neg (by omega)]; simp
    · simp [hn]
  refine ⟨hd, ?_⟩
  unfold modZ
  rw [hd]
  have e1 : ∀ x : Int, (n : Int) * -((m / n + 1 : Nat) : Int) = -((n : Int) * ((m / n : Nat) : Int)) - n := fun _ => by
    rw [Int.natCast_add, Int.mul_neg, Int.mul_add]; simp; omega
  by_cases h0 : m % n = 0
  · rw [if_pos h0, if_pos h0]
    cases s
    · simp only [Bool.false_eq_true, if_false, Bool.not_false, if_true, Int.neg_mul_neg]; omega
    · simp only [Bool.false_eq_true, if_false, Bool.not_true, if_true, Int.mul_neg]; omega
  · rw [if_neg h0, if_neg h0]
    cases s
    · simp only [Bool.false_eq_true, if_false, Bool.not_false, if_true, Int.neg_mul, e1 0]; omega
    · simp only [Bool.false_eq_true, if_false, Bool.not_true, if_true, e1 0]; omega

/-- what Div returns -/
def divR (n1 : Bool) (l1 : List Nat) (n2 : Bool) (l2 : List Nat) : Int × Int × Int :=
  if (okI n1 l1 && okI n2 l2) = true then (if l2.length = 0 then (0, 0, 20) else (divZ (toZ n1 l1) (toZ n2 l2), modZ (toZ n1 l1) (toZ n2 l2), 0)) else (0, 0, 1)

/-- two integers that are handed back -/
def RetQR (q r : Int) (w : World) (e : Ending) (w' : World) : Prop :=
  ∃ s1 A1 c1 l1 s2 A2 c2 l2, e = .returned (.agg #[.bool s1, .slice A1 l1.length c1, .bool s2, .slice A2 l2.length c2]) ∧ IsZ s1 l1 q ∧ IsZ s2 l2 r ∧ l1.length ≤ c1 ∧ l2.length ≤ c2 ∧ Rd w' A1 l1 ∧ Rd w' A2 l2 ∧ Below w.heap.size w w'

def PostQR (q r er : Int) (w : World) (e : Ending) (w' : World) : Prop :=
  (er = 0 → RetQR q r w e w') ∧ (er ≠ 0 → e = .panicked (wrong er) ∧ q = 0 ∧ r = 0 ∧ Below w.heap.size w w')

/-- 'whole' of a magnitude with limbs that are few -/
theorem whole_z (s : Bool) (n : Nat) (hn : (lim n).length ≤ 300) (A : Option Addr) (c : Nat) (w : World) (h : Rd w A (lim n)) (hc : (lim n).length ≤ c) :
    Calls Tryd.prog 60 #[.bool s, .slice A (lim n).length c] w (RetZ (if s then -(n : Int) else n) w) :=
  (whole_ok s A c (lim n) w h hc (by rw [val_lim]; exact hn)).mono fun e w' h => by
    rw [val_lim] at h
    exact h.z (isZ_of s n)

theorem add_one (A : Option Addr) (c q q1 g : Nat) (w : World) (e1 : q + 1 = q1) (h : Rd w A (lim q)) (hc : (lim q).length ≤ c) (hq : (lim q).length ≤ 1048576) (hg : Rd w (some ⟨g, 0, none⟩) [1]) :
    Calls Tryd.prog 58 #[.slice A (lim q).length c, .slice (some ⟨g, 0, none⟩) 1 1] w (RetNat q1 w) := by
  subst e1
  have := add_calls A (some ⟨g, 0, none⟩) c 1 (lim q) [1] w h hg hc (Nat.le_refl _) hq (by simp)
  rw [val_lim, show val [1] = 1 from rfl] at this
  exact this

theorem rd_one (w : World) : Rd (w.alloc (.cells #[.int .u32 1] 72)) (some ⟨w.heap.size, 0, none⟩) [1] := arr_rd (arr_new w [1]) (by intro u hu; simp at hu; rw [hu]; decide) (by simp)

theorem divided_size : (Tryd.prog.info? 74).map (·.size) = some 4 := by kernel_rfl

theorem set4 {W : World} {B : Nat} {a0 a1 a2 a3 : Value} {t : TypeId} (h : W.heap[B]? = some (.cells #[a0, a1, a2, a3] t (0, 0))) (v0 v1 v2 v3 : Value) :
    ((((W.setCell ⟨B, 0, none⟩ v0).setCell ⟨B, 1, none⟩ v1).setCell ⟨B, 2, none⟩ v2).setCell ⟨B, 3, none⟩ v3).heap[B]? = some (.cells #[v0, v1, v2, v3] t (0, 0)) := by
  have h0 : (W.setCell ⟨B, 0, none⟩ v0).heap[B]? = some (.cells #[v0, a1, a2, a3] t (0, 0)) := set_blk h 0 v0
  generalize W.setCell ⟨B, 0, none⟩ v0 = W at *
  have h1 : (W.setCell ⟨B, 1, none⟩ v1).heap[B]? = some (.cells #[v0, v1, a2, a3] t (0, 0)) := set_blk h0 1 v1
  generalize W.setCell ⟨B, 1, none⟩ v1 = W at *
  have h2 : (W.setCell ⟨B, 2, none⟩ v2).heap[B]? = some (.cells #[v0, v1, v2, a3] t (0, 0)) := set_blk h1 2 v2
  generalize W.setCell ⟨B, 2, none⟩ v2 = W at *
  exact set_blk h2 3 v3

theorem IsZ.cast {s : Bool} {l : List Nat} {z z' : Int} (h : IsZ s l z) (e : z = z') : IsZ s l z' := e ▸ h

theorem ret_cellS {fn : Func} {p : Tmp} {T : TypeId} {cur : Array Value} {n : Nat} {fs : Array Field} (h : fn.results = #[.cell p T]) (hu : Tryd.prog.underlying T = some (.struct fs)) (hi : (Tryd.prog.info? T).map (·.size) = some n)
    {a : Act} {w : World} {g : Nat} {R : Ending → World → Prop} (hd0 : a.defers = []) (hp : a.tmps.getD p undef = .pointer (some ⟨g, 0, none⟩))
    (hg : w.heap[g]? = some (.cells cur T (0, 0))) (hn : n = cur.size) (hR : R (.returned (.agg cur)) w) : bodyPost Tryd.prog fn R .ret a w :=
  bodyPost_ret (results_cell_row h _ _ g T cur (0, 0) _ hp hg hu rfl (hn ▸ hi)) hd0 hR

set_option maxRecDepth 100000 in
set_option maxHeartbeats 4000000 in
theorem div1_bad (g1 g2 : Nat) (n1 n2 : Bool) (A1 A2 : Option Addr) (c1 c2 : Nat) (l1 l2 : List Nat) (w : World) (h1 : IntBox w g1 n1 A1 c1 l1) (h2 : IntBox w g2 n2 A2 c2 l2) (hbad : (okI n1 l1 && okI n2 l2) = false) :
    Calls Tryd.prog 54 #[.pointer (some ⟨g1, 0, none⟩), .pointer (some ⟨g2, 0, none⟩)] w fun e w' => e = .panicked (wrong 1) ∧ Below w.heap.size w w' := by
  have x0 := cell_at h1.blk 0 _ rfl
  have x1 := cell_at h1.blk 1 _ rfl
  have y0 := cell_at h2.blk 0 _ rfl
  have y1 := cell_at h2.blk 1 _ rfl
  have t1 := (Array.getElem?_eq_some_iff.1 h1.blk).1
  have t2 := (Array.getElem?_eq_some_iff.1 h2.blk).1
  have hsm := h2.rd.small
  have hb2 : ∀ a b, Below w.heap.size w ((w.alloc a).alloc b) := fun a b => ((Below.refl _ w).alloc (Nat.le_refl _) _).alloc (by simp) _
  have hf := fun a => formed_two (w.heap.size + 1) n1 n2 A1 A2 c1 c2 l1 l2 _ (two_blk w a (.cells #[.bool n1, .slice A1 l1.length c1, .bool n2, .slice A2 l2.length c2] 24)) (h1.rd.on (hb2 _ _)) (h2.rd.on (hb2 _ _)) h1.cap h2.cap
  go_enter Tryd.func54, Tryd.ntmps54
  go_wp2_with (go_at_call 55; refine (hf _).mono ?_; rintro e w' ⟨-, hp, hbl⟩; cases hp hbad)
  exact ⟨rfl, rfl, (hb2 _ _).trans (hbl.mono (hb2 _ _).size)⟩

set_option maxRecDepth 100000 in
set_option maxHeartbeats 4000000 in
theorem div1_zero (g1 g2 : Nat) (n1 n2 : Bool) (A1 A2 : Option Addr) (c1 c2 : Nat) (l1 l2 : List Nat) (w : World) (h1 : IntBox w g1 n1 A1 c1 l1) (h2 : IntBox w g2 n2 A2 c2 l2) (hok : (okI n1 l1 && okI n2 l2) = true) (h0 : ¬ 0 < l2.length) :
    Calls Tryd.prog 54 #[.pointer (some ⟨g1, 0, none⟩), .pointer (some ⟨g2, 0, none⟩)] w fun e w' => e = .panicked (wrong 20) ∧ Below w.heap.size w w' := by
  have x0 := cell_at h1.blk 0 _ rfl
  have x1 := cell_at h1.blk 1 _ rfl
  have y0 := cell_at h2.blk 0 _ rfl
  have y1 := cell_at h2.blk 1 _ rfl
  have t1 := (Array.getElem?_eq_some_iff.1 h1.blk).1
  have t2 := (Array.getElem?_eq_some_iff.1 h2.blk).1
  have hsm := h2.rd.small
  have hb2 : ∀ a b, Below w.heap.size w ((w.alloc a).alloc b) := fun a b => ((Below.refl _ w).alloc (Nat.le_refl _) _).alloc (by simp) _
  have hf := fun a => formed_two (w.heap.size + 1) n1 n2 A1 A2 c1 c2 l1 l2 _ (two_blk w a (.cells #[.bool n1, .slice A1 l1.length c1, .bool n2, .slice A2 l2.length c2] 24)) (h1.rd.on (hb2 _ _)) (h2.rd.on (hb2 _ _)) h1.cap h2.cap
  go_enter Tryd.func54, Tryd.ntmps54
  go_wp2_with first
    | (go_at_call 55; refine (hf _).mono ?_; rintro e w' ⟨hp, -, hbl⟩; cases hp hok; have hb3 := (hb2 _ _).trans (hbl.mono (hb2 _ _).size); have p0 := cell_at (h1.on hb3).blk 0 _ rfl; have p1 := cell_at (h1.on hb3).blk 1 _ rfl; have p2 := cell_at (h2.on hb3).blk 0 _ rfl; have p3 := cell_at (h2.on hb3).blk 1 _ rfl)
    | (go_at_call 56; refine (must_no 20 _).mono ?_; rintro e w5 ⟨rfl, rfl⟩)
  exact ⟨rfl, rfl, hb3⟩

set_option maxRecDepth 100000 in
set_option maxHeartbeats 4000000 in
theorem div1_A (g1 g2 : Nat) (n1 n2 : Bool) (A1 A2 : Option Addr) (c1 c2 : Nat) (l1 l2 : List Nat) (w : World) (h1 : IntBox w g1 n1 A1 c1 l1) (h2 : IntBox w g2 n2 A2 c2 l2) (k1 : IsInt n1 l1) (k2 : IsInt n2 l2) (hok : (okI n1 l1 && okI n2 l2) = true) (hp0 : 0 < val l2) (Q R : Nat) (eQ : val l1 / val l2 = Q) (eR : val l1 % val l2 = R) (he : (n1 == n2) = true) (qz rz : Int) (eqz : Hid ((if false = true then -(Q : Int) else (Q : Int)) = qz)) (erz : Hid ((if n2 = true then -(R : Int) else (R : Int)) = rz)) :
    Calls Tryd.prog 54 #[.pointer (some ⟨g1, 0, none⟩), .pointer (some ⟨g2, 0, none⟩)] w (RetQR qz rz w) := by
  have x0 := cell_at h1.blk 0 _ rfl
  have x1 := cell_at h1.blk 1 _ rfl
  have y0 := cell_at h2.blk 0 _ rfl
  have y1 := cell_at h2.blk 1 _ rfl
  have t1 := (Array.getElem?_eq_some_iff.1 h1.blk).1
  have t2 := (Array.getElem?_eq_some_iff.1 h2.blk).1
  have hsm := h2.rd.small
  have hb2 : ∀ a b, Below w.heap.size w ((w.alloc a).alloc b) := fun a b => ((Below.refl _ w).alloc (Nat.le_refl _) _).alloc (by simp) _
  have hf := fun a => formed_two (w.heap.size + 1) n1 n2 A1 A2 c1 c2 l1 l2 _ (two_blk w a (.cells #[.bool n1, .slice A1 l1.length c1, .bool n2, .slice A2 l2.length c2] 24)) (h1.rd.on (hb2 _ _)) (h2.rd.on (hb2 _ _)) h1.cap h2.cap
  have hl2 := val_pos_length hp0
  have hdv := fun W (hW : Below w.heap.size w W) => div_calls A1 A2 c1 c2 l1 l2 W (h1.rd.on hW) (h2.rd.on hW) h1.cap h2.cap k1.canon k2.canon hp0 (by have := k1.small; omega)
  rw [eQ, eR] at hdv
  have hQl : (lim Q).length ≤ 300 := Nat.le_trans (length_mono (by rw [← eQ]; exact Nat.div_le_self _ _)) (by rw [lim_val k1.canon]; exact k1.small)
  have hRl : (lim R).length ≤ 300 := Nat.le_trans (length_mono (show R ≤ val l2 by rw [← eR]; exact Nat.le_of_lt (Nat.mod_lt _ hp0))) (by rw [lim_val k2.canon]; exact k2.small)
  have d1 : ¬ g1 = w.heap.size := by omega
  have d2 : ¬ g2 = w.heap.size := by omega
  have d3 : ¬ w.heap.size = g1 := by omega
  have d4 : ¬ w.heap.size = g2 := by omega
  have hQ2 := hQl
  have hR2 := hRl
  have hqx := two_old w (.cells #[.bool false, .slice none 0 0, .bool false, .slice none 0 0] 74) (.cells #[.bool n1, .slice A1 l1.length c1, .bool n2, .slice A2 l2.length c2] 24) rfl
  clear hp0 eQ eR
  go_enter Tryd.func54, Tryd.ntmps54
  go_wp2_with first
    | (go_at_call 55; refine (hf _).mono ?_; rintro e w' ⟨hp, -, hbl⟩; cases hp hok; have hb3 := (hb2 _ _).trans (hbl.mono (hb2 _ _).size); have p0 := cell_at (h1.on hb3).blk 0 _ rfl; have p1 := cell_at (h1.on hb3).blk 1 _ rfl; have p2 := cell_at (h2.on hb3).blk 0 _ rfl; have p3 := cell_at (h2.on hb3).blk 1 _ rfl)
    | (go_at_call 56; refine (must_ok 20 _).mono ?_; rintro e w4 ⟨rfl, rfl⟩; have hq1 := hqx.on hbl)
    | (go_at_call 57; refine (hdv _ hb3).mono ?_; rintro e w5 ⟨Aq, cq, Ar, cr, rfl, nq, nr, rq, rr, b5⟩; have hb5 := hb3.trans (b5.mono hb3.size); have hq5 := hq1.on b5; have u0 := cell_at (h1.on hb5).blk 0 _ rfl; have u1 := cell_at (h1.on hb5).blk 1 _ rfl; have u2 := cell_at (h2.on hb5).blk 0 _ rfl; have u3 := cell_at (h2.on hb5).blk 1 _ rfl)
  have ncq := nq
  have ncr := nr
  have hwq := fun W (hW : Below w5.heap.size w5 W) => whole_z false Q hQ2 Aq cq W (rq.on hW) ncq
  have hwr := fun W (hW : Below w5.heap.size w5 W) => whole_z n2 R hR2 Ar cr W (rr.on hW) ncr
  have hbb := hb5
  have hqb := hq5
  clear x0 x1 y0 y1
  go_region_held3 (fun w'' => w''.cell? ⟨g1, 0, none⟩ = some (.bool n1) ∧ w''.cell? ⟨g1, 1, none⟩ = some (.slice A1 l1.length c1) ∧ w''.cell? ⟨g2, 0, none⟩ = some (.bool n2) ∧ w''.cell? ⟨g2, 1, none⟩ = some (.slice A2 l2.length c2)) ((first | assumption | go_keep))
    ((first
      | (go_at_call_of 60 (Value.slice Ar (lim R).length cr); have hmark := mq; refine (hwr _ bbq).mono ?_; rintro e wy ⟨sy, Ay, cy, ly, rfl, zy, ny, ry, bY⟩; have bbr := bbq.trans (bY.mono bbq.size); have rx' := rx.on bY; have j0 := cell_at (h1.on (hbb.trans (bbr.mono hbb.size))).blk 0 _ rfl; have j1 := cell_at (h1.on (hbb.trans (bbr.mono hbb.size))).blk 1 _ rfl; have j2 := cell_at (h2.on (hbb.trans (bbr.mono hbb.size))).blk 0 _ rfl; have j3 := cell_at (h2.on (hbb.trans (bbr.mono hbb.size))).blk 1 _ rfl; have hqz := hqb.on bbr; have e0 := cell_at hqz.h 0 _ rfl; have ef0 := frozen_at hqz.h 0; have e1 := cell_at hqz.h 1 _ rfl; have ef1 := frozen_at hqz.h 1; have e2 := cell_at hqz.h 2 _ rfl; have ef2 := frozen_at hqz.h 2; have e3 := cell_at hqz.h 3 _ rfl; have ef3 := frozen_at hqz.h 3)
      | (go_at_call_of 60 (Value.slice Aq (lim Q).length cq); refine (hwq _ (below_drew (Below.refl _ _))).mono ?_; rintro e wx ⟨sx, Ax, cx, lx, rfl, zx, nx, rx, bx⟩; have mq : True := trivial; have bbq := (below_drew (Below.refl _ w5)).trans bx; have i0 := cell_at (h1.on (hbb.trans (bbq.mono hbb.size))).blk 0 _ rfl; have i1 := cell_at (h1.on (hbb.trans (bbq.mono hbb.size))).blk 1 _ rfl; have i2 := cell_at (h2.on (hbb.trans (bbq.mono hbb.size))).blk 0 _ rfl; have i3 := cell_at (h2.on (hbb.trans (bbq.mono hbb.size))).blk 1 _ rfl)))
  all_goals go_wp2_with fail
  · have n1 := rx'.ne hqz.h (by intro i x h; rcases i with _ | _ | _ | _ | i <;> simp at h)
    have n2 := ry.ne hqz.h (by intro i x h; rcases i with _ | _ | _ | _ | i <;> simp at h)
    exact ret_cellS rfl Tryd.underlying74 divided_size rfl rfl (set4 hqz.h _ _ _ _) rfl ⟨sx, Ax, cx, lx, sy, Ay, cy, ly, rfl, zx.cast eqz.out, zy.cast erz.out, nx, ny, (((rx'.setNe n1).setNe n1).setNe n1).setNe n1, (((ry.setNe n2).setNe n2).setNe n2).setNe n2, ((((hbb.trans (bbr.mono hbb.size)).setCell (Nat.le_refl _) _).setCell (Nat.le_refl _) _).setCell (Nat.le_refl _) _).setCell (Nat.le_refl _) _⟩

set_option maxRecDepth 100000 in
set_option maxHeartbeats 4000000 in
theorem div1_B (g1 g2 : Nat) (n1 n2 : Bool) (A1 A2 : Option Addr) (c1 c2 : Nat) (l1 l2 : List Nat) (w : World) (h1 : IntBox w g1 n1 A1 c1 l1) (h2 : IntBox w g2 n2 A2 c2 l2) (k1 : IsInt n1 l1) (k2 : IsInt n2 l2) (hok : (okI n1 l1 && okI n2 l2) = true) (hp0 : 0 < val l2) (Q R : Nat) (eQ : val l1 / val l2 = Q) (eR : val l1 % val l2 = R) (he : (n1 == n2) = false) (h0 : ¬ 0 < (lim R).length) (qz rz : Int) (eqz : Hid ((if true = true then -(Q : Int) else (Q : Int)) = qz)) (erz : Hid ((if n2 = true then -(R : Int) else (R : Int)) = rz)) :
    Calls Tryd.prog 54 #[.pointer (some ⟨g1, 0, none⟩), .pointer (some ⟨g2, 0, none⟩)] w (RetQR qz rz w) := by
  have x0 := cell_at h1.blk 0 _ rfl
  have x1 := cell_at h1.blk 1 _ rfl
  have y0 := cell_at h2.blk 0 _ rfl
  have y1 := cell_at h2.blk 1 _ rfl
  have t1 := (Array.getElem?_eq_some_iff.1 h1.blk).1
  have t2 := (Array.getElem?_eq_some_iff.1 h2.blk).1
  have hsm := h2.rd.small
  have hb2 : ∀ a b, Below w.heap.size w ((w.alloc a).alloc b) := fun a b => ((Below.refl _ w).alloc (Nat.le_refl _) _).alloc (by simp) _
  have hf := fun a => formed_two (w.heap.size + 1) n1 n2 A1 A2 c1 c2 l1 l2 _ (two_blk w a (.cells #[.bool n1, .slice A1 l1.length c1, .bool n2, .slice A2 l2.length c2] 24)) (h1.rd.on (hb2 _ _)) (h2.rd.on (hb2 _ _)) h1.cap h2.cap
  have hl2 := val_pos_length hp0
  have hdv := fun W (hW : Below w.heap.size w W) => div_calls A1 A2 c1 c2 l1 l2 W (h1.rd.on hW) (h2.rd.on hW) h1.cap h2.cap k1.canon k2.canon hp0 (by have := k1.small; omega)
  rw [eQ, eR] at hdv
  have hQl : (lim Q).length ≤ 300 := Nat.le_trans (length_mono (by rw [← eQ]; exact Nat.div_le_self _ _)) (by rw [lim_val k1.canon]; exact k1.small)
  have hRl : (lim R).length ≤ 300 := Nat.le_trans (length_mono (show R ≤ val l2 by rw [← eR]; exact Nat.le_of_lt (Nat.mod_lt _ hp0))) (by rw [lim_val k2.canon]; exact k2.small)
  have d1 : ¬ g1 = w.heap.size := by omega
  have d2 : ¬ g2 = w.heap.size := by omega
  have d3 : ¬ w.heap.size = g1 := by omega
  have d4 : ¬ w.heap.size = g2 := by omega
  have hQ2 := hQl
  have hR2 := hRl
  have hqx := two_old w (.cells #[.bool false, .slice none 0 0, .bool false, .slice none 0 0] 74) (.cells #[.bool n1, .slice A1 l1.length c1, .bool n2, .slice A2 l2.length c2] 24) rfl
  clear hp0 eQ eR
  go_enter Tryd.func54, Tryd.ntmps54
  go_wp2_with first
    | (go_at_call 55; refine (hf _).mono ?_; rintro e w' ⟨hp, -, hbl⟩; cases hp hok; have hb3 := (hb2 _ _).trans (hbl.mono (hb2 _ _).size); have p0 := cell_at (h1.on hb3).blk 0 _ rfl; have p1 := cell_at (h1.on hb3).blk 1 _ rfl; have p2 := cell_at (h2.on hb3).blk 0 _ rfl; have p3 := cell_at (h2.on hb3).blk 1 _ rfl)
    | (go_at_call 56; refine (must_ok 20 _).mono ?_; rintro e w4 ⟨rfl, rfl⟩; have hq1 := hqx.on hbl)
    | (go_at_call 57; refine (hdv _ hb3).mono ?_; rintro e w5 ⟨Aq, cq, Ar, cr, rfl, nq, nr, rq, rr, b5⟩; have hb5 := hb3.trans (b5.mono hb3.size); have hq5 := hq1.on b5; have u0 := cell_at (h1.on hb5).blk 0 _ rfl; have u1 := cell_at (h1.on hb5).blk 1 _ rfl; have u2 := cell_at (h2.on hb5).blk 0 _ rfl; have u3 := cell_at (h2.on hb5).blk 1 _ rfl)
  have ncq := nq
  have ncr := nr
  have hwq := fun W (hW : Below w5.heap.size w5 W) => whole_z true Q hQ2 Aq cq W (rq.on hW) ncq
  have hwr := fun W (hW : Below w5.heap.size w5 W) => whole_z n2 R hR2 Ar cr W (rr.on hW) ncr
  have hbb := hb5
  have hqb := hq5
  clear x0 x1 y0 y1
  go_region_held3 (fun w'' => w''.cell? ⟨g1, 0, none⟩ = some (.bool n1) ∧ w''.cell? ⟨g1, 1, none⟩ = some (.slice A1 l1.length c1) ∧ w''.cell? ⟨g2, 0, none⟩ = some (.bool n2) ∧ w''.cell? ⟨g2, 1, none⟩ = some (.slice A2 l2.length c2)) ((first | assumption | go_keep))
    ((first
      | (go_at_call_of 60 (Value.slice Ar (lim R).length cr); have hmark := mq; refine (hwr _ bbq).mono ?_; rintro e wy ⟨sy, Ay, cy, ly, rfl, zy, ny, ry, bY⟩; have bbr := bbq.trans (bY.mono bbq.size); have rx' := rx.on bY; have j0 := cell_at (h1.on (hbb.trans (bbr.mono hbb.size))).blk 0 _ rfl; have j1 := cell_at (h1.on (hbb.trans (bbr.mono hbb.size))).blk 1 _ rfl; have j2 := cell_at (h2.on (hbb.trans (bbr.mono hbb.size))).blk 0 _ rfl; have j3 := cell_at (h2.on (hbb.trans (bbr.mono hbb.size))).blk 1 _ rfl; have hqz := hqb.on bbr; have e0 := cell_at hqz.h 0 _ rfl; have ef0 := frozen_at hqz.h 0; have e1 := cell_at hqz.h 1 _ rfl; have ef1 := frozen_at hqz.h 1; have e2 := cell_at hqz.h 2 _ rfl; have ef2 := frozen_at hqz.h 2; have e3 := cell_at hqz.h 3 _ rfl; have ef3 := frozen_at hqz.h 3)
      | (go_at_call_of 60 (Value.slice Aq (lim Q).length cq); refine (hwq _ (below_drew (Below.refl _ _))).mono ?_; rintro e wx ⟨sx, Ax, cx, lx, rfl, zx, nx, rx, bx⟩; have mq : True := trivial; have bbq := (below_drew (Below.refl _ w5)).trans bx; have i0 := cell_at (h1.on (hbb.trans (bbq.mono hbb.size))).blk 0 _ rfl; have i1 := cell_at (h1.on (hbb.trans (bbq.mono hbb.size))).blk 1 _ rfl; have i2 := cell_at (h2.on (hbb.trans (bbq.mono hbb.size))).blk 0 _ rfl; have i3 := cell_at (h2.on (hbb.trans (bbq.mono hbb.size))).blk 1 _ rfl)))
  all_goals go_wp2_with fail
  · have n1 := rx'.ne hqz.h (by intro i x h; rcases i with _ | _ | _ | _ | i <;> simp at h)
    have n2 := ry.ne hqz.h (by intro i x h; rcases i with _ | _ | _ | _ | i <;> simp at h)
    exact ret_cellS rfl Tryd.underlying74 divided_size rfl rfl (set4 hqz.h _ _ _ _) rfl ⟨sx, Ax, cx, lx, sy, Ay, cy, ly, rfl, zx.cast eqz.out, zy.cast erz.out, nx, ny, (((rx'.setNe n1).setNe n1).setNe n1).setNe n1, (((ry.setNe n2).setNe n2).setNe n2).setNe n2, ((((hbb.trans (bbr.mono hbb.size)).setCell (Nat.le_refl _) _).setCell (Nat.le_refl _) _).setCell (Nat.le_refl _) _).setCell (Nat.le_refl _) _⟩

set_option maxRecDepth 100000 in
set_option maxHeartbeats 4000000 in
theorem div1_C (g1 g2 : Nat) (n1 n2 : Bool) (A1 A2 : Option Addr) (c1 c2 : Nat) (l1 l2 : List Nat) (w : World) (h1 : IntBox w g1 n1 A1 c1 l1) (h2 : IntBox w g2 n2 A2 c2 l2) (k1 : IsInt n1 l1) (k2 : IsInt n2 l2) (hok : (okI n1 l1 && okI n2 l2) = true) (hp0 : 0 < val l2) (Q R : Nat) (eQ : val l1 / val l2 = Q) (eR : val l1 % val l2 = R) (he : (n1 == n2) = false) (h0 : 0 < (lim R).length) (qz rz : Int) (eqz : Hid ((if true = true then -((Q + 1 : Nat) : Int) else ((Q + 1 : Nat) : Int)) = qz)) (erz : Hid ((if n2 = true then -((val l2 - R : Nat) : Int) else ((val l2 - R : Nat) : Int)) = rz)) :
    Calls Tryd.prog 54 #[.pointer (some ⟨g1, 0, none⟩), .pointer (some ⟨g2, 0, none⟩)] w (RetQR qz rz w) := by
  have x0 := cell_at h1.blk 0 _ rfl
  have x1 := cell_at h1.blk 1 _ rfl
  have y0 := cell_at h2.blk 0 _ rfl
  have y1 := cell_at h2.blk 1 _ rfl
  have t1 := (Array.getElem?_eq_some_iff.1 h1.blk).1
  have t2 := (Array.getElem?_eq_some_iff.1 h2.blk).1
  have hsm := h2.rd.small
  have hb2 : ∀ a b, Below w.heap.size w ((w.alloc a).alloc b) := fun a b => ((Below.refl _ w).alloc (Nat.le_refl _) _).alloc (by simp) _
  have hf := fun a => formed_two (w.heap.size + 1) n1 n2 A1 A2 c1 c2 l1 l2 _ (two_blk w a (.cells #[.bool n1, .slice A1 l1.length c1, .bool n2, .slice A2 l2.length c2] 24)) (h1.rd.on (hb2 _ _)) (h2.rd.on (hb2 _ _)) h1.cap h2.cap
  have hl2 := val_pos_length hp0
  have hdv := fun W (hW : Below w.heap.size w W) => div_calls A1 A2 c1 c2 l1 l2 W (h1.rd.on hW) (h2.rd.on hW) h1.cap h2.cap k1.canon k2.canon hp0 (by have := k1.small; omega)
  rw [eQ, eR] at hdv
  have hQl : (lim Q).length ≤ 300 := Nat.le_trans (length_mono (by rw [← eQ]; exact Nat.div_le_self _ _)) (by rw [lim_val k1.canon]; exact k1.small)
  have hRl : (lim R).length ≤ 300 := Nat.le_trans (length_mono (show R ≤ val l2 by rw [← eR]; exact Nat.le_of_lt (Nat.mod_lt _ hp0))) (by rw [lim_val k2.canon]; exact k2.small)
  have d1 : ¬ g1 = w.heap.size := by omega
  have d2 : ¬ g2 = w.heap.size := by omega
  have d3 : ¬ w.heap.size = g1 := by omega
  have d4 : ¬ w.heap.size = g2 := by omega
  have hR0 : 0 < R := by
    rcases Nat.eq_zero_or_pos R with h | h
    · rw [h, lim_zero] at h0; exact absurd h0 (by simp)
    · exact h
  have hQ2 : (lim (Q + 1)).length ≤ 300 := by
    refine Nat.le_trans (length_mono (show Q + 1 ≤ val l1 from ?_)) (by rw [lim_val k1.canon]; exact k1.small)
    have h1 := Nat.div_add_mod (val l1) (val l2)
    rw [eQ, eR] at h1
    have h2 : R < val l2 := by rw [← eR]; exact Nat.mod_lt _ hp0
    have h3 : Q * 2 ≤ val l2 * Q := by rw [Nat.mul_comm]; exact Nat.mul_le_mul_right _ (by omega)
    omega
  have hRle : R ≤ val l2 := by rw [← eR]; exact Nat.le_of_lt (Nat.mod_lt _ hp0)
  have hR2 : (lim (val l2 - R)).length ≤ 300 := Nat.le_trans (length_mono (show val l2 - R ≤ val l2 by omega)) (by rw [lim_val k2.canon]; exact k2.small)
  have hsub := fun W (hW : Below w.heap.size w W) A c (h : Rd W A (lim R)) (hc : (lim R).length ≤ c) => sub_calls A2 A c2 c l2 (lim R) W (h2.rd.on hW) h h2.cap hc (by rw [val_lim]; exact hRle) (by have := length_mono hRle; rwa [lim_val k2.canon] at this) (by have := k2.small; omega)
  simp only [val_lim] at hsub
  generalize val l2 - R = R2 at *
  obtain ⟨Q1, hQ1⟩ : ∃ Q1, Q + 1 = Q1 := ⟨_, rfl⟩
  rw [hQ1] at hQ2 eqz
  have HQ1 := Lib.hid hQ1
  clear hQ1
  have hqx := two_old w (.cells #[.bool false, .slice none 0 0, .bool false, .slice none 0 0] 74) (.cells #[.bool n1, .slice A1 l1.length c1, .bool n2, .slice A2 l2.length c2] 24) rfl
  clear hp0 eQ eR
  go_enter Tryd.func54, Tryd.ntmps54
  go_wp2_with first
    | (go_at_call 55; refine (hf _).mono ?_; rintro e w' ⟨hp, -, hbl⟩; cases hp hok; have hb3 := (hb2 _ _).trans (hbl.mono (hb2 _ _).size); have p0 := cell_at (h1.on hb3).blk 0 _ rfl; have p1 := cell_at (h1.on hb3).blk 1 _ rfl; have p2 := cell_at (h2.on hb3).blk 0 _ rfl; have p3 := cell_at (h2.on hb3).blk 1 _ rfl)
    | (go_at_call 56; refine (must_ok 20 _).mono ?_; rintro e w4 ⟨rfl, rfl⟩; have hq1 := hqx.on hbl)
    | (go_at_call 57; refine (hdv _ hb3).mono ?_; rintro e w5 ⟨Aq, cq, Ar, cr, rfl, nq, nr, rq, rr, b5⟩; have hb5 := hb3.trans (b5.mono hb3.size); have hq5 := hq1.on b5; have u0 := cell_at (h1.on hb5).blk 0 _ rfl; have u1 := cell_at (h1.on hb5).blk 1 _ rfl; have u2 := cell_at (h2.on hb5).blk 0 _ rfl; have u3 := cell_at (h2.on hb5).blk 1 _ rfl)
    | (go_at_call 58; refine (add_one Aq cq Q Q1 _ _ HQ1.out (rq.on ((Below.refl _ w5).alloc (Nat.le_refl _) _)) nq (by omega) (rd_one w5)).mono ?_; rintro e w6 ⟨Aq6, cq6, rfl, nq6, rq6, b6⟩; have b56 := ((Below.refl _ w5).alloc (Nat.le_refl _) (.cells #[.int .u32 1] 72)).trans (b6.mono (by simp)); have hb6 := hb5.trans (b56.mono hb5.size); have hq6 := hq5.on b56; have v0 := cell_at (h1.on hb6).blk 0 _ rfl; have v1 := cell_at (h1.on hb6).blk 1 _ rfl; have v2 := cell_at (h2.on hb6).blk 0 _ rfl; have v3 := cell_at (h2.on hb6).blk 1 _ rfl)
    | (go_at_call 59; refine (hsub _ hb6 Ar cr (rr.on b56) nr).mono ?_; rintro e w7 ⟨Ar7, cr7, rfl, nr7, rr7, b7⟩; have hb7 := hb6.trans (b7.mono hb6.size); have rq7 := rq6.on b7; have hq7 := hq6.on b7; have m0 := cell_at (h1.on hb7).blk 0 _ rfl; have m1 := cell_at (h1.on hb7).blk 1 _ rfl; have m2 := cell_at (h2.on hb7).blk 0 _ rfl; have m3 := cell_at (h2.on hb7).blk 1 _ rfl)
  have ncq := nq6
  have ncr := nr7
  have hwq := fun W (hW : Below w7.heap.size w7 W) => whole_z true Q1 hQ2 Aq6 cq6 W (rq7.on hW) ncq
  have hwr := fun W (hW : Below w7.heap.size w7 W) => whole_z n2 R2 hR2 Ar7 cr7 W (rr7.on hW) ncr
  have hbb := hb7
  have hqb := hq7
  clear x0 x1 y0 y1
  go_region_held3 (fun w'' => w''.cell? ⟨g1, 0, none⟩ = some (.bool n1) ∧ w''.cell? ⟨g1, 1, none⟩ = some (.slice A1 l1.length c1) ∧ w''.cell? ⟨g2, 0, none⟩ = some (.bool n2) ∧ w''.cell? ⟨g2, 1, none⟩ = some (.slice A2 l2.length c2)) ((first | assumption | go_keep))
    ((first
      | (go_at_call_of 60 (Value.slice Ar7 (lim R2).length cr7); have hmark := mq; refine (hwr _ bbq).mono ?_; rintro e wy ⟨sy, Ay, cy, ly, rfl, zy, ny, ry, bY⟩; have bbr := bbq.trans (bY.mono bbq.size); have rx' := rx.on bY; have j0 := cell_at (h1.on (hbb.trans (bbr.mono hbb.size))).blk 0 _ rfl; have j1 := cell_at (h1.on (hbb.trans (bbr.mono hbb.size))).blk 1 _ rfl; have j2 := cell_at (h2.on (hbb.trans (bbr.mono hbb.size))).blk 0 _ rfl; have j3 := cell_at (h2.on (hbb.trans (bbr.mono hbb.size))).blk 1 _ rfl; have hqz := hqb.on bbr; have e0 := cell_at hqz.h 0 _ rfl; have ef0 := frozen_at hqz.h 0; have e1 := cell_at hqz.h 1 _ rfl; have ef1 := frozen_at hqz.h 1; have e2 := cell_at hqz.h 2 _ rfl; have ef2 := frozen_at hqz.h 2; have e3 := cell_at hqz.h 3 _ rfl; have ef3 := frozen_at hqz.h 3)
      | (go_at_call_of 60 (Value.slice Aq6 (lim Q1).length cq6); refine (hwq _ (below_drew (Below.refl _ _))).mono ?_; rintro e wx ⟨sx, Ax, cx, lx, rfl, zx, nx, rx, bx⟩; have mq : True := trivial; have bbq := (below_drew (Below.refl _ w7)).trans bx; have i0 := cell_at (h1.on (hbb.trans (bbq.mono hbb.size))).blk 0 _ rfl; have i1 := cell_at (h1.on (hbb.trans (bbq.mono hbb.size))).blk 1 _ rfl; have i2 := cell_at (h2.on (hbb.trans (bbq.mono hbb.size))).blk 0 _ rfl; have i3 := cell_at (h2.on (hbb.trans (bbq.mono hbb.size))).blk 1 _ rfl)))
  all_goals go_wp2_with fail
  · have n1 := rx'.ne hqz.h (by intro i x h; rcases i with _ | _ | _ | _ | i <;> simp at h)
    have n2 := ry.ne hqz.h (by intro i x h; rcases i with _ | _ | _ | _ | i <;> simp at h)
    exact ret_cellS rfl Tryd.underlying74 divided_size rfl rfl (set4 hqz.h _ _ _ _) rfl ⟨sx, Ax, cx, lx, sy, Ay, cy, ly, rfl, zx.cast eqz.out, zy.cast erz.out, nx, ny, (((rx'.setNe n1).setNe n1).setNe n1).setNe n1, (((ry.setNe n2).setNe n2).setNe n2).setNe n2, ((((hbb.trans (bbr.mono hbb.size)).setCell (Nat.le_refl _) _).setCell (Nat.le_refl _) _).setCell (Nat.le_refl _) _).setCell (Nat.le_refl _) _⟩

theorem div1_calls (g1 g2 : Nat) (n1 n2 : Bool) (A1 A2 : Option Addr) (c1 c2 : Nat) (l1 l2 : List Nat) (w : World) (h1 : IntBox w g1 n1 A1 c1 l1) (h2 : IntBox w g2 n2 A2 c2 l2) :
    Calls Tryd.prog 54 #[.pointer (some ⟨g1, 0, none⟩), .pointer (some ⟨g2, 0, none⟩)] w (PostQR (divR n1 l1 n2 l2).1 (divR n1 l1 n2 l2).2.1 (divR n1 l1 n2 l2).2.2 w) := by
  unfold divR
  by_cases hok : (okI n1 l1 && okI n2 l2) = true
  · rw [if_pos hok]
    have hok' := hok
    rw [Bool.and_eq_true] at hok'
    have k1 := okI_isInt h1.rd.words hok'.1
    have k2 := okI_isInt h2.rd.words hok'.2
    by_cases h0 : l2.length = 0
    · rw [if_pos h0]
      exact (div1_zero g1 g2 n1 n2 A1 A2 c1 c2 l1 l2 w h1 h2 hok (by omega)).mono fun e w' h => ⟨fun h => absurd h (by decide), fun _ => ⟨h.1, rfl, rfl, h.2⟩⟩
    · rw [if_neg h0]
      have hp : 0 < val l2 := val_pos_of_canon k2.canon (fun e => h0 (by rw [e]; rfl))
      by_cases hn : n1 = n2
      · have hd := div_same n2 (val l1) (val l2) hp
        have e1 : toZ n1 l1 = if n2 then -(val l1 : Int) else val l1 := by rw [hn]; rfl
        have e2 : toZ n2 l2 = if n2 then -(val l2 : Int) else val l2 := rfl
        rw [← e1, ← e2] at hd
        exact (div1_A g1 g2 n1 n2 A1 A2 c1 c2 l1 l2 w h1 h2 k1 k2 hok hp _ _ rfl rfl (by rw [hn]; simp) _ _ hd.1.symm hd.2.symm).mono fun e w' h => ⟨fun _ => h, fun h => absurd rfl h⟩
      · have hn2 : n2 = !n1 := by cases n1 <;> cases n2 <;> simp_all
        have hd := div_other n1 (val l1) (val l2) hp
        have e1 : toZ n1 l1 = if n1 then -(val l1 : Int) else val l1 := rfl
        have e2 : toZ n2 l2 = if !n1 then -(val l2 : Int) else val l2 := by rw [hn2]; rfl
        rw [← e1, ← e2] at hd
        have hbe : (n1 == n2) = false := by rw [beq_eq_false_iff_ne]; exact hn
        by_cases hr : val l1 % val l2 = 0
        · rw [if_pos hr, if_pos hr] at hd
          refine (div1_B g1 g2 n1 n2 A1 A2 c1 c2 l1 l2 w h1 h2 k1 k2 hok hp _ _ rfl rfl hbe (by rw [hr, lim_zero]; simp) _ _ hd.1.symm (?_ : _ = _)).mono fun e w' h => ⟨fun _ => h, fun h => absurd rfl h⟩
          rw [hd.2, hr]; split <;> rfl
        · rw [if_neg hr, if_neg hr] at hd
          refine (div1_C g1 g2 n1 n2 A1 A2 c1 c2 l1 l2 w h1 h2 k1 k2 hok hp _ _ rfl rfl hbe (lim_length_pos (Nat.pos_of_ne_zero hr)) _ _ hd.1.symm (?_ : _ = _)).mono fun e w' h => ⟨fun _ => h, fun h => absurd rfl h⟩
          rw [hd.2, hn2]
  · rw [if_neg hok]
    exact (div1_bad g1 g2 n1 n2 A1 A2 c1 c2 l1 l2 w h1 h2 (by simpa using hok)).mono fun e w' h => ⟨fun h => absurd h (by decide), fun _ => ⟨h.1, rfl, rfl, h.2⟩⟩

theorem divR_zero (n1 : Bool) (l1 : List Nat) (n2 : Bool) (l2 : List Nat) : (divR n1 l1 n2 l2).2.2 ≠ 0 → (divR n1 l1 n2 l2).1 = 0 ∧ (divR n1 l1 n2 l2).2.1 = 0 := by
  unfold divR
  split
  · split <;> simp
  · simp

/-- two integers and an error -/
def RetQRE (q r er : Int) (w : World) (e : Ending) (w' : World) : Prop :=
  ∃ s1 A1 c1 l1 s2 A2 c2 l2, e = .returned (.tuple #[iv s1 A1 l1.length c1, iv s2 A2 l2.length c2, .int .i64 er]) ∧ IsZ s1 l1 q ∧ IsZ s2 l2 r ∧ l1.length ≤ c1 ∧ l2.length ≤ c2 ∧ Rd w' A1 l1 ∧ Rd w' A2 l2 ∧ Below w.heap.size w w'

end Nm
end Go.Proofs.YtlhmbbpkhahbeaaDoor
namespace Go.Proofs.YtlhmbbpkhahbeaaDoor
namespace Nm
open Go.RowKit Go.Shelf Go.BigFrame
attribute [local go_sem] Oper.semAt_some

def RetTQ (q r er : Int) (w : World) (e : Ending) (w' : World) : Prop :=
  ∃ s1 A1 c1 l1 s2 A2 c2 l2, e = .returned (.tuple #[.agg #[.bool s1, .slice A1 l1.length c1, .bool s2, .slice A2 l2.length c2], .int .i64 er]) ∧ IsZ s1 l1 q ∧ IsZ s2 l2 r ∧ l1.length ≤ c1 ∧ l2.length ≤ c2 ∧ Rd w' A1 l1 ∧ Rd w' A2 l2 ∧ Below w.heap.size w w'

theorem try_div (G : Nat) (caps : Array Value) (hG : ∀ (args : Array Value) (w : World), (callFunc G args).run Tryd.prog w = .ok (.enter G args) w) (w : World) (q r er : Int)
    (h : Calls Tryd.prog G caps ((w.alloc (.cells #[.bool false, .slice none 0 0, .bool false, .slice none 0 0] 74)).alloc (.cells #[.int .i64 0] 28)) (PostQR q r er ((w.alloc (.cells #[.bool false, .slice none 0 0, .bool false, .slice none 0 0] 74)).alloc (.cells #[.int .i64 0] 28)))) (hz : er ≠ 0 → q = 0 ∧ r = 0) :
    Calls Tryd.prog 53 #[.func (.func G) #[] caps] w (RetTQ q r er w) := by
  by_cases h0 : er = 0
  · subst h0
    refine (try_div_ok G caps hG w _ rfl (fun s1 A1 m1 c1 s2 A2 m2 c2 w1 => ∃ l1 l2, m1 = l1.length ∧ m2 = l2.length ∧ IsZ s1 l1 q ∧ IsZ s2 l2 r ∧ l1.length ≤ c1 ∧ l2.length ≤ c2 ∧ Rd w1 A1 l1 ∧ Rd w1 A2 l2) (h.mono ?_)).mono ?_
    · rintro e w' ⟨h1, -⟩
      obtain ⟨s1, A1, c1, l1, s2, A2, c2, l2, rfl, h2, h3, h4, h5, h6, h7, h8⟩ := h1 rfl
      exact ⟨s1, A1, _, c1, s2, A2, _, c2, rfl, ⟨l1, l2, rfl, rfl, h2, h3, h4, h5, h6, h7⟩, h8⟩
    · rintro e w' ⟨s1, A1, m1, c1, s2, A2, m2, c2, w1, ⟨l1, l2, rfl, rfl, h2, h3, h4, h5, h6, h7⟩, h8, h9, rfl⟩
      exact ⟨s1, A1, c1, l1, s2, A2, c2, l2, rfl, h2, h3, h4, h5, h9 _ _ h6, h9 _ _ h7, h8⟩
  · obtain ⟨rfl, rfl⟩ := hz h0
    refine (try_div_wrong G caps hG w _ rfl er (h.mono ?_)).mono ?_
    · rintro e w' ⟨-, h1⟩
      obtain ⟨h2, -, -, h3⟩ := h1 h0
      exact ⟨h2, h3⟩
    · rintro e w' ⟨h1, rfl⟩
      exact ⟨false, none, 0, [], false, none, 0, [], rfl, isZ_zero, isZ_zero, Nat.le_refl _, Nat.le_refl _, Rd.nil _ _, Rd.nil _ _, h1⟩

theorem ret_cct {fn : Func} {p q u : Tmp} (h : fn.results = #[.cell p 24, .cell q 24, .tmp u]) {a : Act} {w : World} {g1 g2 : Nat} {x1 y1 x2 y2 : Value} {R : Ending → World → Prop} (hd0 : a.defers = []) (hp : a.tmps.getD p undef = .pointer (some ⟨g1, 0, none⟩)) (hq : a.tmps.getD q undef = .pointer (some ⟨g2, 0, none⟩))
    (hg1 : w.heap[g1]? = some (.cells #[x1, y1] 24 (0, 0))) (hg2 : w.heap[g2]? = some (.cells #[x2, y2] 24 (0, 0))) (hR : R (.returned (.tuple #[.agg #[x1, y1], .agg #[x2, y2], a.tmps.getD u undef])) w) : bodyPost Tryd.prog fn R .ret a w := by
  refine bodyPost_ret (v := .tuple #[.agg #[x1, y1], .agg #[x2, y2], a.tmps.getD u undef]) ?_ hd0 hR
  have e1 := run_loadVar_row (P := Tryd.prog) w g1 24 24 #[x1, y1] (0, 0) _ hg1 Tryd.underlying24 rfl int_size
  have e2 := run_loadVar_row (P := Tryd.prog) w g2 24 24 #[x2, y2] (0, 0) _ hg2 Tryd.underlying24 rfl int_size
  rw [Array.getD_eq_getD_getElem?] at hp hq
  simp [results, h, hp, hq, asAddr, Result.andThen, e1, e2, Sem.run_bind]

/-- boxes of two arguments, and two blocks behind them -/
theorem boxes4 (w : World) (n1 n2 : Bool) (A1 A2 : Option Addr) (c1 c2 : Nat) (l1 l2 : List Nat) (h1 : Rd w A1 l1) (h2 : Rd w A2 l2) (hc1 : l1.length ≤ c1) (hc2 : l2.length ≤ c2) (cur cur' : Array Value) (t t' : TypeId) :
    ∃ W4, ((((w.alloc (.cells #[.bool n1, .slice A1 l1.length c1] 24)).alloc (.cells #[.bool n2, .slice A2 l2.length c2] 24)).alloc (.cells cur t)).alloc (.cells cur' t')) = W4 ∧ Below w.heap.size w W4 ∧
      IntBox W4 w.heap.size n1 A1 c1 l1 ∧ IntBox W4 (w.heap.size + 1) n2 A2 c2 l2 ∧ Blk W4 (w.heap.size + 1 + 1) cur t ∧ Blk W4 (w.heap.size + 1 + 1 + 1) cur' t' ∧ W4.heap.size = w.heap.size + 4 := by
  obtain ⟨W4, hW4⟩ : ∃ W4, ((((w.alloc (.cells #[.bool n1, .slice A1 l1.length c1] 24)).alloc (.cells #[.bool n2, .slice A2 l2.length c2] 24)).alloc (.cells cur t)).alloc (.cells cur' t')) = W4 := ⟨_, rfl⟩
  have hb4 : Below w.heap.size w W4 := by rw [← hW4]; exact ((((Below.refl _ w).alloc (Nat.le_refl _) _).alloc (by simp) _).alloc (by simp; omega) _).alloc (by simp; omega) _
  refine ⟨W4, hW4, hb4, ?_, ?_, ?_, ?_, ?_⟩
  · exact ⟨by rw [← hW4]; exact (Below.heap_alloc _ _ _ (by simp; omega)).trans ((Below.heap_alloc _ _ _ (by simp; omega)).trans ((Below.heap_alloc _ _ _ (by simp)).trans (World.alloc_heap_new w _))), h1.on hb4, hc1⟩
  · exact ⟨by rw [← hW4]; exact (Below.heap_alloc _ _ _ (by simp <;> omega)).trans ((Below.heap_alloc _ _ _ (by simp)).trans (two_blk w _ _)), h2.on hb4, hc2⟩
  · exact ⟨by rw [← hW4]; refine (Below.heap_alloc _ _ _ (by simp)).trans ?_; have := World.alloc_heap_new ((w.alloc (.cells #[.bool n1, .slice A1 l1.length c1] 24)).alloc (.cells #[.bool n2, .slice A2 l2.length c2] 24)) (.cells cur t); rwa [World.size_alloc, World.size_alloc] at this⟩
  · exact ⟨by rw [← hW4]; have := World.alloc_heap_new (((w.alloc (.cells #[.bool n1, .slice A1 l1.length c1] 24)).alloc (.cells #[.bool n2, .slice A2 l2.length c2] 24)).alloc (.cells cur t)) (.cells cur' t'); rwa [World.size_alloc, World.size_alloc, World.size_alloc] at this⟩
  · rw [← hW4]; simp

set_option maxRecDepth 100000 in
set_option maxHeartbeats 4000000 in
theorem Div_calls (n1 n2 : Bool) (A1 A2 : Option Addr) (c1 c2 : Nat) (l1 l2 : List Nat) (w : World) (h1 : Rd w A1 l1) (h2 : Rd w A2 l2) (hc1 : l1.length ≤ c1) (hc2 : l2.length ≤ c2) :
    Calls Tryd.prog 18 #[iv n1 A1 l1.length c1, iv n2 A2 l2.length c2] w (RetQRE (divR n1 l1 n2 l2).1 (divR n1 l1 n2 l2).2.1 (divR n1 l1 n2 l2).2.2 w) := by
  have hmf : ∀ (fn : Fn) (first cap : Array Value) (w : World), (Instr.makeFunc fn first cap).run Tryd.prog w = .ok (.func fn first cap) w := fun _ _ _ _ => rfl
  obtain ⟨W4, hW4, hb4, B1, B2, hR1, hR2, hsz⟩ := boxes4 w n1 n2 A1 A2 c1 c2 l1 l2 h1 h2 hc1 hc2 #[.bool false, .slice none 0 0] #[.bool false, .slice none 0 0] 24 24
  have hB5 : ∀ o o', Below W4.heap.size W4 ((W4.alloc o).alloc o') := fun o o' => ((Below.refl _ W4).alloc (Nat.le_refl _) _).alloc (by simp) _
  have ht := try_div 54 #[.pointer (some ⟨w.heap.size, 0, none⟩), .pointer (some ⟨w.heap.size + 1, 0, none⟩)] (enters_of Tryd.func54 (by kernel_rfl) rfl) W4 _ _ _ (div1_calls _ _ n1 n2 A1 A2 c1 c2 l1 l2 _ (B1.on (hB5 _ _)) (B2.on (hB5 _ _))) (divR_zero n1 l1 n2 l2)
  generalize (divR n1 l1 n2 l2).1 = q at *
  generalize (divR n1 l1 n2 l2).2.1 = r at *
  generalize (divR n1 l1 n2 l2).2.2 = er at *
  have Hsz := Lib.hid hsz
  clear hsz
  go_enter Tryd.func18, Tryd.ntmps18
  go_wp2_with (go_at_call 53; refine ht.mono ?_; rintro e w5 ⟨s5, A5, c5, l5, s6, A6, c6, l6, rfl, z5, z6, n5, n6, r5, r6, b5⟩)
  have hb6 : Below w5.heap.size w5 (w5.alloc (.cells #[.bool s5, .slice A5 l5.length c5, .bool s6, .slice A6 l6.length c6] 74)) := (Below.refl _ _).alloc (Nat.le_refl _) _
  have hX := World.alloc_heap_new w5 (.cells #[.bool s5, .slice A5 l5.length c5, .bool s6, .slice A6 l6.length c6] 74)
  have q1 := (hR1.on b5).on hb6
  have q2 := (hR2.on b5).on hb6
  have p1 := r5.on hb6
  have p2 := r6.on hb6
  have bb := hb4.trans ((b5.mono hb4.size).trans (hb6.mono (Nat.le_trans hb4.size b5.size)))
  have hs5 := b5.size
  have hsz := Hsz.out
  clear hW4
  generalize (w5.alloc (.cells #[.bool s5, .slice A5 l5.length c5, .bool s6, .slice A6 l6.length c6] 74)) = W6 at *
  obtain ⟨B, hB⟩ : ∃ B, w5.heap.size = B := ⟨_, rfl⟩
  obtain ⟨G1, hG1⟩ : ∃ G1, w.heap.size + 1 + 1 = G1 := ⟨_, rfl⟩
  obtain ⟨G2, hG2⟩ : ∃ G2, G1 + 1 = G2 := ⟨_, rfl⟩
  have d1 : ¬ G1 = G2 := by omega
  have d2 : ¬ G2 = G1 := by omega
  have d3 : ¬ G1 = B := by omega
  have d4 : ¬ B = G1 := by omega
  have d5 : ¬ G2 = B := by omega
  have d6 : ¬ B = G2 := by omega
  have d7 : w.heap.size ≤ G1 := by omega
  have d8 : w.heap.size ≤ G2 := by omega
  rw [hB] at hX ⊢
  rw [hG1] at q1 q2 ⊢
  rw [hG2] at q2 ⊢
  clear hB hG1 hG2 hs5 hsz
  have x0 := cell_at hX 0 _ rfl
  have x1 := cell_at hX 1 _ rfl
  have x2 := cell_at hX 2 _ rfl
  have x3 := cell_at hX 3 _ rfl
  have y0 := cell_at q1.h 0 _ rfl
  have y1 := cell_at q1.h 1 _ rfl
  have y2 := cell_at q2.h 0 _ rfl
  have y3 := cell_at q2.h 1 _ rfl
  have u0 := frozen_at q1.h 0
  have u1 := frozen_at q1.h 1
  have u2 := frozen_at q2.h 0
  have u3 := frozen_at q2.h 1
  go_region
  go_wp2_with fail
  have nw : ∀ {v1 v2 : Value}, (∀ x : Int, v1 ≠ .int .u32 x) → (∀ x : Int, v2 ≠ .int .u32 x) → ∀ (i : Nat) (x : Int), (#[v1, v2] : Array Value)[i]? = some (.int .u32 x) → False := by
    intro v1 v2 h1 h2 i x h
    rcases i with _ | _ | i <;> simp at h
    · exact h1 _ h
    · exact h2 _ h
  have m1 := p1.ne q1.h (nw (by simp) (by simp))
  have m2 := p1.ne q2.h (nw (by simp) (by simp))
  have m3 := p2.ne q1.h (nw (by simp) (by simp))
  have m4 := p2.ne q2.h (nw (by simp) (by simp))
  exact ret_cct rfl rfl rfl rfl (heap_drew _ _ ((Below.heap_setCell _ _ _ G1 (by first | exact d1 | exact d2)).trans ((Below.heap_setCell _ _ _ G1 (by first | exact d1 | exact d2)).trans (set_blk (set_blk q1.h 0 _) 1 _))))
    (heap_drew _ _ (set_blk (set_blk ((Below.heap_setCell _ _ _ G2 (by first | exact d1 | exact d2)).trans ((Below.heap_setCell _ _ _ G2 (by first | exact d1 | exact d2)).trans q2.h)) 0 _) 1 _))
    ⟨s5, A5, c5, l5, s6, A6, c6, l6, rfl, z5, z6, n5, n6, ((((p1.setNe m1).setNe m1).setNe m2).setNe m2).on (below_drew (Below.refl _ _)), ((((p2.setNe m3).setNe m3).setNe m4).setNe m4).on (below_drew (Below.refl _ _)), below_drew ((((bb.setCell d7 _).setCell d7 _).setCell d8 _).setCell d8 _)⟩

end Nm
end Go.Proofs.YtlhmbbpkhahbeaaDoor
