/-
  The law NumDivision: its plain facts.
  The closure of the law NumDivision.
  Small facts on boxes and lengths.
  Small facts for the laws.
  The law NumDivision: the walk.
  NumDivision: the row, the card. For every input the law returns true. The integers that came in are whatever the row lets in; the digits' table reads as the program's text lays it (the card ties it).
-/
import Derived.Test.YtlhmbbpkhahbeaaDoorNumMhPad1
import Derived.Test.YtlhmbbpkhahbeaaDoorTie
import Derived.Test.YtlhmbbpkhahbeaaDoorCards
import Derived.SevenTiedAt
namespace Go.Proofs.YtlhmbbpkhahbeaaDoor
namespace Nm

/-- what the law calls fitting: a remainder smaller than the divisor, of the divisor's sign or zero -/
def fitsZ (b r : Int) : Bool := decide (r.natAbs < b.natAbs) && (decide (r = 0) || (decide (r < 0) == decide (b < 0)))

theorem fitsZ_iff {b r : Int} : fitsZ b r = true ↔ r.natAbs < b.natAbs ∧ (r = 0 ∨ (r < 0 ↔ b < 0)) := by
  unfold fitsZ
  rw [Bool.and_eq_true, Bool.or_eq_true, decide_eq_true_eq, decide_eq_true_eq, beq_iff_eq, decide_eq_decide]

theorem div_back (a b : Int) : divZ a b * b + modZ a b = a := by
  unfold modZ; rw [Int.mul_comm]; omega

theorem fits_mod (a b : Int) (hb : b ≠ 0) : fitsZ b (modZ a b) = true := by
  rw [fitsZ_iff]
  refine ⟨modZ_le a b hb, ?_⟩
  unfold modZ divZ
  by_cases h : 0 < b
  · rw [if_pos h]
    have h1 := Int.emod_nonneg a hb
    have h3 := Int.mul_ediv_add_emod a b
    right; omega
  · rw [if_neg h]
    have h1 := Int.emod_nonneg (-a) (show -b ≠ 0 by omega)
    have h3 := Int.mul_ediv_add_emod (-a) (-b)
    rw [Int.neg_mul] at h3
    by_cases h4 : a - b * (-a / -b) = 0
    · left; exact h4
    · right; omega

theorem small_mul {b k : Int} (_hb : b ≠ 0) (h : (b * k).natAbs < b.natAbs) : k = 0 := by
  rcases Int.lt_trichotomy k 0 with h1 | h1 | h1
  · exfalso
    rw [Int.natAbs_mul] at h
    have h3 := Nat.mul_le_mul_left b.natAbs (show 1 ≤ k.natAbs by omega)
    rw [Nat.mul_one] at h3
    omega
  · exact h1
  · exfalso
    rw [Int.natAbs_mul] at h
    have h3 := Nat.mul_le_mul_left b.natAbs (show 1 ≤ k.natAbs by omega)
    rw [Nat.mul_one] at h3
    omega

theorem fits_unique {a b q : Int} (hb : b ≠ 0) (h : fitsZ b (a - q * b) = true) : q = divZ a b := by
  have hm := fits_mod a b hb
  have hd := div_back a b
  rw [fitsZ_iff] at h hm
  obtain ⟨k, hk⟩ : ∃ k, divZ a b - q = k := ⟨_, rfl⟩
  have e : a - q * b = b * k + modZ a b := by
    rw [← hk, Int.mul_sub, Int.mul_comm b, Int.mul_comm b]; omega
  rw [e] at h
  have h0 : k = 0 := by
    refine small_mul hb ?_
    obtain ⟨h1, h2⟩ := h
    obtain ⟨h3, h4⟩ := hm
    generalize b * k = x at *
    generalize modZ a b = y at *
    omega
  omega

end Nm
end Go.Proofs.YtlhmbbpkhahbeaaDoor
namespace Go.Proofs.YtlhmbbpkhahbeaaDoor
namespace Nm
open Go.RowKit Go.Shelf Go.BigFrame
attribute [local go_sem] Oper.semAt_some

theorem cmp_nat {x y : Nat} : decide (cmpZ (x : Int) (y : Int) < 0) = decide (x < y) := by
  rw [decide_eq_decide]
  unfold cmpZ
  by_cases h : (x : Int) < y
  · rw [if_pos h]; omega
  · rw [if_neg h]; split <;> omega
theorem fits_slots {n2 n3 : Bool} {l2 l3 : List Nat} {r b : Int} (zr : OkZ n2 l2 r) (zb : OkZ n3 l3 b) : fitsZ b r = (decide (cmpZ (r.natAbs : Int) (b.natAbs : Int) < 0) && (decide (l2.length = 0) || (n2 == n3))) := by
  have e : decide (l2.length = 0) = decide (r = 0) := by
    rw [decide_eq_decide]
    constructor
    · intro h
      rcases Decidable.em (r = 0) with h0 | h0
      · exact h0
      · have := zr.pos h0; omega
    · intro h; exact zr.nil h
  rw [cmp_nat, e, zr.isZ.sgn, zb.isZ.sgn]
  rfl

set_option maxRecDepth 100000 in
set_option maxHeartbeats 16000000 in
theorem fits_calls (g : Nat) (n1 n2 n3 : Bool) (A1 A2 A3 : Option Addr) (c1 c2 c3 : Nat) (l1 l2 l3 : List Nat) (r b : Int) (w : World) (h1 : Rd w A1 l1) (h2 : Rd w A2 l2) (hc1 : l1.length ≤ c1) (hc2 : l2.length ≤ c2) (B : IntBox w g n3 A3 c3 l3) (zr : OkZ n2 l2 r) (zb : OkZ n3 l3 b) :
    Calls Tryd.prog 36 #[iv n1 A1 l1.length c1, iv n2 A2 l2.length c2, .pointer (some ⟨g, 0, none⟩)] w fun e w' => e = .returned (.bool (fitsZ b r)) ∧ Below w.heap.size w w' := by
  obtain ⟨W, hW, hbw, B1, B2, hsz⟩ : ∃ W, (w.alloc (.cells #[.bool n1, .slice A1 l1.length c1] 24)).alloc (.cells #[.bool n2, .slice A2 l2.length c2] 24) = W ∧ Below w.heap.size w W ∧ IntBox W w.heap.size n1 A1 c1 l1 ∧ IntBox W (w.heap.size + 1) n2 A2 c2 l2 ∧ W.heap.size = w.heap.size + 1 + 1 := by
    obtain ⟨hb, k1, k2⟩ := two_boxes w n1 n2 A1 A2 c1 c2 l1 l2 h1 h2 hc1 hc2
    exact ⟨_, rfl, hb, k1, k2, by simp⟩
  have B3 := B.on hbw
  have x0 := cell_at B2.blk 0 _ rfl
  have x1 := cell_at B2.blk 1 _ rfl
  have x2 := cell_at B3.blk 0 _ rfl
  have x3 := cell_at B3.blk 1 _ rfl
  have HF := Lib.hid (fits_slots zr zb)
  go_enter Tryd.func36, Tryd.ntmps36
  go_wp2_with fail
  have hx := hW
  clear hW
  go_region_held3 (fun w'' => w''.cell? ⟨w.heap.size + 1, 0, none⟩ = some (.bool n2) ∧ w''.cell? ⟨w.heap.size + 1, 1, none⟩ = some (.slice A2 l2.length c2) ∧ w''.cell? ⟨g, 0, none⟩ = some (.bool n3) ∧ w''.cell? ⟨g, 1, none⟩ = some (.slice A3 l3.length c3)) ((first | (with_reducible exact ⟨x0, x1, x2, x3⟩) | exact ⟨x0, x1, x2, x3⟩ | exact ⟨cell_al _ x0, cell_al _ x1, cell_al _ x2, cell_al _ x3⟩ | exact ⟨cell_al _ (cell_al _ x0), cell_al _ (cell_al _ x1), cell_al _ (cell_al _ x2), cell_al _ (cell_al _ x3)⟩))
    ((first | fail))
  all_goals
    obtain ⟨V, hV⟩ : ∃ V, W.drew = V := ⟨_, rfl⟩
    have hVb : Below W.heap.size W V := by rw [← hV]; exact below_drew (Below.refl _ W)
    have hVs : V.heap.size = w.heap.size + 1 + 1 := by rw [← hV]; exact hsz
    have hVV : ∀ a b, Below W.heap.size W ((V.alloc a).alloc b) := fun a b => below_al (below_al hVb a) b
  case' refine_2.refine_3.refine_3.refine_1.refine_2.refine_1.refine_2.refine_1.refine_2.refine_1.refine_2 =>
    change Exit.then _ _ _ _ (((World.drew W).alloc (.cells #[.bool n2, .slice A2 l2.length c2] 24)).alloc (.cells #[.bool n3, .slice A3 l3.length c3] 24))
  case' refine_2.refine_3.refine_3.refine_2.refine_1.refine_2.refine_1.refine_2.refine_1.refine_2.refine_1.refine_2 =>
    change Exit.then _ _ _ _ (((World.drew W).alloc (.cells #[.bool n3, .slice A3 l3.length c3] 24)).alloc (.cells #[.bool n2, .slice A2 l2.length c2] 24))
  all_goals
    rw [hV]
    clear hV
    rw [← hVs]
    go_wp2_with first
      | (go_at_call 37; refine (RCompare_calls false false A2 A3 c2 c3 l2 l3 _ _ _ (B2.rd.on (hVV _ _)) (B3.rd.on (hVV _ _)) hc2 B3.cap (okZ_abs zr).isZ (okZ_abs zb).isZ).mono ?_; rintro e w4 ⟨rfl, b4⟩; have b9 := (hVV _ _).trans (b4.mono (hVV _ _).size); clear x0 x1 x2 x3; have y0 := cell_at (B2.on b9).blk 0 _ rfl; have y1 := cell_at (B2.on b9).blk 1 _ rfl; have y2 := cell_at (B3.on b9).blk 0 _ rfl; have y3 := cell_at (B3.on b9).blk 1 _ rfl)
  all_goals go_ret
  all_goals refine ⟨congrArg (fun b => Ending.returned (Value.bool b)) ?_, hbw.trans (b9.mono (by omega))⟩
  all_goals (rw [HF.out]; first | (simp [*]; done) | (simp [*]; intro h; exfalso; omega))

end Nm
end Go.Proofs.YtlhmbbpkhahbeaaDoor
namespace Go.Proofs.YtlhmbbpkhahbeaaDoor
namespace Nm
open Go.RowKit Go.Shelf Go.BigFrame

theorem IsZ.len_le {s : Bool} {l : List Nat} {z : Int} {k : Nat} (h : IsZ s l z) (hs : (lim z.natAbs).length ≤ k) : l.length ≤ k := by rw [h.abs]; exact hs
theorem al1 (W : World) (o : Obj) : Below W.heap.size W (W.alloc o) := (Below.refl _ W).alloc (Nat.le_refl _) _
theorem Times_z (n1 n2 : Bool) (A1 A2 : Option Addr) (c1 c2 : Nat) (l1 l2 : List Nat) (z1 z2 : Int) (w : World) (h1 : Rd w A1 l1) (h2 : Rd w A2 l2) (hc1 : l1.length ≤ c1) (hc2 : l2.length ≤ c2) (k1 : IsZ n1 l1 z1) (k2 : IsZ n2 l2 z2) (hs1 : l1.length ≤ 65536) (hs2 : l2.length ≤ 65536) :
    Calls Tryd.prog 30 #[iv n1 A1 l1.length c1, iv n2 A2 l2.length c2] w (RetZ (z1 * z2) w) := by
  have h := Times_calls n1 n2 A1 A2 c1 c2 l1 l2 w h1 h2 hc1 hc2 hs1 hs2
  rwa [k1.toZ, k2.toZ] at h

end Nm
end Go.Proofs.YtlhmbbpkhahbeaaDoor
namespace Go.Proofs.YtlhmbbpkhahbeaaDoor
namespace Nm
open Go.RowKit Go.Shelf Go.BigFrame

theorem Same_d (n1 n2 : Bool) (A1 A2 : Option Addr) (c1 c2 : Nat) (l1 l2 : List Nat) (z1 z2 : Int) (w : World) (h1 : Rd w A1 l1) (h2 : Rd w A2 l2) (hc1 : l1.length ≤ c1) (hc2 : l2.length ≤ c2) (k1 : IsZ n1 l1 z1) (k2 : IsZ n2 l2 z2) (v : Bool) (e : decide (z1 = z2) = v) :
    Calls Tryd.prog 20 #[iv n1 A1 l1.length c1, iv n2 A2 l2.length c2] w fun e w' => e = .returned (.bool v) ∧ Below w.heap.size w w' := by
  have h := Same_calls n1 n2 A1 A2 c1 c2 l1 l2 w h1 h2 hc1 hc2
  rwa [sameI_z k1 k2, e] at h

theorem isZ_abs {s : Bool} {l : List Nat} {z : Int} (h : IsZ s l z) : IsZ false l (z.natAbs : Int) :=
  ⟨(decide_eq_false (by omega)).symm, by rw [Int.natAbs_natCast]; exact h.abs⟩

end Nm
end Go.Proofs.YtlhmbbpkhahbeaaDoor
namespace Go.Proofs.YtlhmbbpkhahbeaaDoor
namespace Nm
open Go.RowKit Go.Shelf Go.BigFrame
attribute [local go_sem] Oper.semAt_some

theorem lformed_two (m : Nat) (g : Nat) (n1 n2 : Bool) (A1 A2 : Option Addr) (c1 c2 : Nat) (l1 l2 : List Nat) (w : World) (hg : w.heap[g]? = some (.cells #[.bool n1, .slice A1 l1.length c1, .bool n2, .slice A2 l2.length c2] 24 (0, 0))) (h1 : Rd w A1 l1) (h2 : Rd w A2 l2) (hc1 : l1.length ≤ c1) (hc2 : l2.length ≤ c2) (b : Bool) (hb : ((okI n1 l1 && decide (l1.length ≤ m)) && (okI n2 l2 && decide (l2.length ≤ m))) = b) :
    Calls Tryd.prog 35 #[.int .i64 (m : Int), .slice (some ⟨g, 0, none⟩) 2 2] w fun e w' => e = .returned (.bool b) ∧ Below w.heap.size w w' := by
  have := lformed_calls m g [⟨n1, A1, c1, l1⟩, ⟨n2, A2, c2, l2⟩] w (Array.getElem?_eq_some_iff.1 hg).1 ⟨?_, ?_, ?_⟩ (by simp)
  · rw [← hb]
    simpa [IntArg.ok] using this
  · intro k hk
    rcases (show k = 0 ∨ k = 1 by simp at hk; omega) with rfl | rfl
    · exact cell_at hg 0 _ rfl
    · exact cell_at hg 2 _ rfl
  · intro k hk
    rcases (show k = 0 ∨ k = 1 by simp at hk; omega) with rfl | rfl
    · exact cell_at hg 1 _ rfl
    · exact cell_at hg 3 _ rfl
  · intro k hk
    rcases (show k = 0 ∨ k = 1 by simp at hk; omega) with rfl | rfl
    · exact ⟨h1, hc1⟩
    · exact ⟨h2, hc2⟩
theorem args_blk2 (w : World) (o1 o2 : Obj) (n1 n2 : Bool) (A1 A2 : Option Addr) (c1 c2 : Nat) (l1 l2 : List Nat) : (((w.alloc o1).alloc o2).alloc (.cells #[.bool n1, .slice A1 l1.length c1, .bool n2, .slice A2 l2.length c2] 24)).heap[w.heap.size + 1 + 1]? = some (.cells #[.bool n1, .slice A1 l1.length c1, .bool n2, .slice A2 l2.length c2] 24 (0, 0)) := by
  have h := World.alloc_heap_new ((w.alloc o1).alloc o2) (.cells #[.bool n1, .slice A1 l1.length c1, .bool n2, .slice A2 l2.length c2] 24)
  rwa [World.size_alloc, World.size_alloc] at h
theorem OkZ.both {n1 n2 : Bool} {l1 l2 : List Nat} {z1 z2 : Int} (k1 : OkZ n1 l1 z1) (k2 : OkZ n2 l2 z2) : ((okI n1 l1 && decide (l1.length ≤ 300)) && (okI n2 l2 && decide (l2.length ≤ 300))) = true := by
  rw [k1.ok, k2.ok, decide_eq_true k1.small, decide_eq_true k2.small]; rfl
theorem fits_v (g : Nat) (n1 n2 n3 : Bool) (A1 A2 A3 : Option Addr) (c1 c2 c3 : Nat) (l1 l2 l3 : List Nat) (r b : Int) (w : World) (h1 : Rd w A1 l1) (h2 : Rd w A2 l2) (hc1 : l1.length ≤ c1) (hc2 : l2.length ≤ c2) (B : IntBox w g n3 A3 c3 l3) (zr : OkZ n2 l2 r) (zb : OkZ n3 l3 b) (v : Bool) (hv : fitsZ b r = v) :
    Calls Tryd.prog 36 #[iv n1 A1 l1.length c1, iv n2 A2 l2.length c2, .pointer (some ⟨g, 0, none⟩)] w fun e w' => e = .returned (.bool v) ∧ Below w.heap.size w w' := by
  have h := fits_calls g n1 n2 n3 A1 A2 A3 c1 c2 c3 l1 l2 l3 r b w h1 h2 hc1 hc2 B zr zb
  rwa [hv] at h

set_option maxRecDepth 100000 in
set_option maxHeartbeats 16000000 in
theorem NumDivision_calls (s1 s2 s3 : Bool) (A1 A2 A3 : Option Addr) (c1 c2 c3 : Nat) (l1 l2 l3 : List Nat) (w : World) (h1 : Rd w A1 l1) (h2 : Rd w A2 l2) (h3 : Rd w A3 l3) (hc1 : l1.length ≤ c1) (hc2 : l2.length ≤ c2) (hc3 : l3.length ≤ c3) (hd : DigW w) :
    Calls Tryd.prog 7 #[iv s1 A1 l1.length c1, iv s2 A2 l2.length c2, iv s3 A3 l3.length c3] w fun e w' => e = .returned (.bool true) ∧ Below w.heap.size w w' := by
  have hmf : ∀ (fn : Fn) (first cap : Array Value) (w : World), (Instr.makeFunc fn first cap).run Tryd.prog w = .ok (.func fn first cap) w := fun _ _ _ _ => rfl
  obtain ⟨W, hW, hbw, B1, B2, B3, hsz⟩ := three_boxes w s1 s2 s3 A1 A2 A3 c1 c2 c3 l1 l2 l3 h1 h2 h3 hc1 hc2 hc3
  have hsz1 : w.heap.size + 1 < W.heap.size := by omega
  have hsz0 : w.heap.size < W.heap.size := by omega
  have x0 := cell_at B1.blk 0 _ rfl
  have x1 := cell_at B1.blk 1 _ rfl
  have x2 := cell_at B2.blk 0 _ rfl
  have x3 := cell_at B2.blk 1 _ rfl
  have x4 := cell_at B3.blk 0 _ rfl
  have x5 := cell_at B3.blk 1 _ rfl
  have hal : ∀ o, Below W.heap.size W (W.alloc o) := fun o => (Below.refl _ W).alloc (Nat.le_refl _) _
  obtain ⟨b8, h8⟩ : ∃ b, ((okI s1 l1 && decide (l1.length ≤ 60)) && ((okI s2 l2 && decide (l2.length ≤ 60)) && (okI s3 l3 && decide (l3.length ≤ 60)))) = b := ⟨_, rfl⟩
  have f8 := lformed_three 60 W.heap.size s1 s2 s3 A1 A2 A3 c1 c2 c3 l1 l2 l3 _ (args3_blk W s1 s2 s3 A1 A2 A3 c1 c2 c3 l1 l2 l3) (B1.rd.on (hal _)) (B2.rd.on (hal _)) (B3.rd.on (hal _)) hc1 hc2 hc3 _ h8
  have hdW := hd.on hbw
  cases b8
  · clear h8
    go_enter Tryd.func7, Tryd.ntmps7
    go_wp2_with first
      | (go_at_call 17; refine (sane_calls _ (hdW.on bm)).mono ?_; rintro e w9 ⟨rfl, b9⟩)
      | (go_at_call 35; refine f8.mono ?_; rintro e w4 ⟨rfl, b4⟩; have bm := (hal (.cells #[.bool s1, .slice A1 l1.length c1, .bool s2, .slice A2 l2.length c2, .bool s3, .slice A3 l3.length c3] 24)).trans (b4.mono (hal (.cells #[.bool s1, .slice A1 l1.length c1, .bool s2, .slice A2 l2.length c2, .bool s3, .slice A3 l3.length c3] 24)).size))
    go_ret
    exact ⟨rfl, (hbw.trans (bm.mono hbw.size)).trans (b9.mono (hbw.trans (bm.mono hbw.size)).size)⟩
  · have hw1 := h1.words
    have hw2 := h2.words
    have hw3 := h3.words
    obtain ⟨p1, p23⟩ := Bool.and_eq_true_iff.1 h8
    obtain ⟨p2, p3⟩ := Bool.and_eq_true_iff.1 p23
    obtain ⟨z1, e1⟩ := formed_ok hw1 p1
    obtain ⟨z2, e2⟩ := formed_ok hw2 p2
    obtain ⟨z3, e3⟩ := formed_ok hw3 p3
    clear h8 p1 p23 p2 p3
    obtain ⟨a, ha⟩ : ∃ a, toZ s1 l1 = a := ⟨_, rfl⟩
    obtain ⟨b, hb⟩ : ∃ b, toZ s2 l2 = b := ⟨_, rfl⟩
    obtain ⟨o, ho⟩ : ∃ c, toZ s3 l3 = c := ⟨_, rfl⟩
    rw [ha] at z1
    rw [hb] at z2
    rw [ho] at z3
    clear ha hb ho
    by_cases hb0 : b = 0
    · have hl := z2.nil hb0
      have lz0 : ((l2.length : Int) == 0) = true := by rw [hl]; rfl
      have lz1 : (l2.length == 0) = true := by rw [hl]; rfl
      clear hl e1 e2 e3
      go_enter Tryd.func7, Tryd.ntmps7
      go_wp2_with first
        | (go_at_call 17; have hmark := by9; refine (sane_calls _ (hdW.on by9)).mono ?_; rintro e w10 ⟨rfl, b10⟩; have by10 := by9.trans (b10.mono by9.size); replace B1 := B1.on b10; replace B2 := B2.on b10; replace B3 := B3.on b10; clear b10; clear u2a u2b)
        | (go_at_call 35; refine f8.mono ?_; rintro e w4 ⟨rfl, b4⟩; have by9 := (hal (.cells #[.bool s1, .slice A1 l1.length c1, .bool s2, .slice A2 l2.length c2, .bool s3, .slice A3 l3.length c3] 24)).trans (b4.mono (hal (.cells #[.bool s1, .slice A1 l1.length c1, .bool s2, .slice A2 l2.length c2, .bool s3, .slice A3 l3.length c3] 24)).size); replace B1 := B1.on by9; replace B2 := B2.on by9; replace B3 := B3.on by9; have u2a := cell_at B2.blk 0 _ rfl; have u2b := cell_at B2.blk 1 _ rfl)
      go_ret
      exact ⟨rfl, hbw.trans (by10.mono hbw.size)⟩
    · have lz0 : ((l2.length : Int) == 0) = false := by have := z2.pos hb0; rw [beq_eq_false_iff_ne]; omega
      have lz1 : (l2.length == 0) = false := by have := z2.pos hb0; rw [beq_eq_false_iff_ne]; omega
      rw [← z1.len] at e1
      rw [← z2.len] at e2
      rw [← z3.len] at e3
      have F1 := Lib.hid (fits_mod a b hb0)
      have Q := Lib.hid (show decide (divZ a b * b + modZ a b = a) = true from decide_eq_true (div_back a b))
      have F2 := Lib.hid (fun (h : ¬ o = divZ a b) => show fitsZ b (a + -(o * b)) = false by
        rw [← Int.sub_eq_add_neg]
        rcases hh : fitsZ b (a - o * b) with _ | _
        · rfl
        · exact absurd (fits_unique hb0 hh) h)
      have t1 := len_mul e3 e2
      have tn : (lim (-(o * b)).natAbs).length ≤ 120 := by rw [Int.natAbs_neg]; exact t1
      have T7 := Lib.hid (Nat.le_trans t1 (show 60 + 60 ≤ 65536 by decide))
      have T8 := Lib.hid (Nat.le_trans tn (show 120 ≤ 65536 by decide))
      have T9 := Lib.hid (Nat.le_trans (len_add (Nat.le_trans e1 (show 60 ≤ 120 by decide)) tn) (show 120 + 1 ≤ 300 by decide))
      have K0 := fun W' h1 h2 k1 k2 => Div_z s1 s2 A1 A2 c1 c2 l1 l2 a b W' h1 h2 k1 k2 z1 z2 hb0
      have T6 : Hid ((lim (divZ a b * b).natAbs).length ≤ 65536) := Nat.le_trans (len_mul (Nat.le_trans (length_mono (divZ_le a b)) e1) e2) (show 60 + 60 ≤ 65536 by decide)
      obtain ⟨q, hq⟩ : ∃ q, divZ a b = q := ⟨_, rfl⟩
      obtain ⟨r, hr⟩ : ∃ r, modZ a b = r := ⟨_, rfl⟩
      rw [hq, hr] at K0 Q
      rw [hq] at F2 T6
      rw [hr] at F1
      clear hq hr e1 e2 e3 t1 tn
      go_enter Tryd.func7, Tryd.ntmps7
      go_wp2_with first
        | (go_at_call 35; have hmark := by10; refine (lformed_two 300 _ s4 s5 A4 A5 c4 c5 l4 l5 _ (args_blk2 _ _ _ s4 s5 A4 A5 c4 c5 l4 l5) (B4.rd.on (al1 _ _)) (B5.rd.on (al1 _ _)) B4.cap B5.cap true (z4.both z5)).mono ?_; rintro e w11 ⟨rfl, b11⟩; replace b11 := (al1 _ _).trans (b11.mono (al1 _ _).size); have by11 := by10.trans (b11.mono by10.size); replace B1 := B1.on b11; replace B2 := B2.on b11; replace B3 := B3.on b11; replace B4 := B4.on b11; replace B5 := B5.on b11; clear b11; clear u4a u4b; clear u5a u5b)
        | (go_at_call 18; have hmark := by9; refine (K0 _ B1.rd B2.rd B1.cap B2.cap).mono ?_; rintro e w10 ⟨s4, A4, c4, l4, s5, A5, c5, l5, rfl, z4, z5, n4, n5, r4, r5, b10⟩; obtain ⟨bx10, B4, B5⟩ := two_boxes w10 s4 s5 A4 A5 c4 c5 l4 l5 r4 r5 n4 n5; have by10 := (by9.trans (b10.mono by9.size)).trans (bx10.mono (by9.trans (b10.mono by9.size)).size); replace B1 := (B1.on b10).on bx10; replace B2 := (B2.on b10).on bx10; replace B3 := (B3.on b10).on bx10; clear bx10 b10; clear u1a u1b; clear u2a u2b; have u4a := cell_at B4.blk 0 _ rfl; have u4b := cell_at B4.blk 1 _ rfl; have u5a := cell_at B5.blk 0 _ rfl; have u5b := cell_at B5.blk 1 _ rfl)
        | (go_at_call 35; refine f8.mono ?_; rintro e w4 ⟨rfl, b4⟩; have by9 := (hal (.cells #[.bool s1, .slice A1 l1.length c1, .bool s2, .slice A2 l2.length c2, .bool s3, .slice A3 l3.length c3] 24)).trans (b4.mono (hal (.cells #[.bool s1, .slice A1 l1.length c1, .bool s2, .slice A2 l2.length c2, .bool s3, .slice A3 l3.length c3] 24)).size); replace B1 := B1.on by9; replace B2 := B2.on by9; replace B3 := B3.on by9; have u1a := cell_at B1.blk 0 _ rfl; have u1b := cell_at B1.blk 1 _ rfl; have u2a := cell_at B2.blk 0 _ rfl; have u2b := cell_at B2.blk 1 _ rfl)
      clear x0 x1 x2 x3 x4 x5
      have y4a : w11.cell? ⟨w10.heap.size, 0, none⟩ = some (.bool s4) := cell_at B4.blk 0 _ rfl
      have y4b : w11.cell? ⟨w10.heap.size, 1, none⟩ = some (.slice A4 l4.length c4) := cell_at B4.blk 1 _ rfl
      have y5a : w11.cell? ⟨w10.heap.size + 1, 0, none⟩ = some (.bool s5) := cell_at B5.blk 0 _ rfl
      have y5b : w11.cell? ⟨w10.heap.size + 1, 1, none⟩ = some (.slice A5 l5.length c5) := cell_at B5.blk 1 _ rfl
      have y2a : w11.cell? ⟨w.heap.size + 1, 0, none⟩ = some (.bool s2) := cell_at B2.blk 0 _ rfl
      have y2b : w11.cell? ⟨w.heap.size + 1, 1, none⟩ = some (.slice A2 l2.length c2) := cell_at B2.blk 1 _ rfl
      have y1a : w11.cell? ⟨w.heap.size, 0, none⟩ = some (.bool s1) := cell_at B1.blk 0 _ rfl
      have y1b : w11.cell? ⟨w.heap.size, 1, none⟩ = some (.slice A1 l1.length c1) := cell_at B1.blk 1 _ rfl
      go_region_held3 (fun w'' => w''.cell? ⟨w10.heap.size, 0, none⟩ = some (.bool s4) ∧ w''.cell? ⟨w10.heap.size, 1, none⟩ = some (.slice A4 l4.length c4) ∧ w''.cell? ⟨w10.heap.size + 1, 0, none⟩ = some (.bool s5) ∧ w''.cell? ⟨w10.heap.size + 1, 1, none⟩ = some (.slice A5 l5.length c5) ∧ w''.cell? ⟨w.heap.size + 1, 0, none⟩ = some (.bool s2) ∧ w''.cell? ⟨w.heap.size + 1, 1, none⟩ = some (.slice A2 l2.length c2) ∧ w''.cell? ⟨w.heap.size, 0, none⟩ = some (.bool s1) ∧ w''.cell? ⟨w.heap.size, 1, none⟩ = some (.slice A1 l1.length c1)) ((first | (with_reducible exact ⟨y4a, y4b, y5a, y5b, y2a, y2b, y1a, y1b⟩) | exact ⟨y4a, y4b, y5a, y5b, y2a, y2b, y1a, y1b⟩))
          ((first
            | (go_at_call 20; have hmark := q32; refine (Same_d s7 s1 A7 A1 c7 c1 l7 l1 _ _ w32 r7 (B1.rd.on q32) n7 B1.cap z7 z1.isZ true Q.out).mono ?_; rintro e w33 ⟨rfl, b33⟩; clear y4a y4b y5a y5b y2a y2b y1a y1b; have q33 := q32.trans (b33.mono q32.size); have y4a : w33.cell? ⟨w10.heap.size, 0, none⟩ = some (.bool s4) := cell_at (B4.on q33).blk 0 _ rfl; have y4b : w33.cell? ⟨w10.heap.size, 1, none⟩ = some (.slice A4 l4.length c4) := cell_at (B4.on q33).blk 1 _ rfl; have y5a : w33.cell? ⟨w10.heap.size + 1, 0, none⟩ = some (.bool s5) := cell_at (B5.on q33).blk 0 _ rfl; have y5b : w33.cell? ⟨w10.heap.size + 1, 1, none⟩ = some (.slice A5 l5.length c5) := cell_at (B5.on q33).blk 1 _ rfl; have y2a : w33.cell? ⟨w.heap.size + 1, 0, none⟩ = some (.bool s2) := cell_at (B2.on q33).blk 0 _ rfl; have y2b : w33.cell? ⟨w.heap.size + 1, 1, none⟩ = some (.slice A2 l2.length c2) := cell_at (B2.on q33).blk 1 _ rfl; have y1a : w33.cell? ⟨w.heap.size, 0, none⟩ = some (.bool s1) := cell_at (B1.on q33).blk 0 _ rfl; have y1b : w33.cell? ⟨w.heap.size, 1, none⟩ = some (.slice A1 l1.length c1) := cell_at (B1.on q33).blk 1 _ rfl)
            | (go_at_call 29; have hmark := q31; refine (Sum_calls s6 s5 A6 A5 c6 c5 l6 l5 _ _ w31 r6 (B5.rd.on q31) n6 B5.cap z6 z5.isZ (z6.len_le T6.out) (Nat.le_trans z5.small (by decide))).mono ?_; rintro e w32 ⟨s7, A7, c7, l7, rfl, z7, n7, r7, b32⟩; clear y4a y4b y5a y5b y2a y2b y1a y1b; have q32 := q31.trans (b32.mono q31.size); have y4a : w32.cell? ⟨w10.heap.size, 0, none⟩ = some (.bool s4) := cell_at (B4.on q32).blk 0 _ rfl; have y4b : w32.cell? ⟨w10.heap.size, 1, none⟩ = some (.slice A4 l4.length c4) := cell_at (B4.on q32).blk 1 _ rfl; have y5a : w32.cell? ⟨w10.heap.size + 1, 0, none⟩ = some (.bool s5) := cell_at (B5.on q32).blk 0 _ rfl; have y5b : w32.cell? ⟨w10.heap.size + 1, 1, none⟩ = some (.slice A5 l5.length c5) := cell_at (B5.on q32).blk 1 _ rfl; have y2a : w32.cell? ⟨w.heap.size + 1, 0, none⟩ = some (.bool s2) := cell_at (B2.on q32).blk 0 _ rfl; have y2b : w32.cell? ⟨w.heap.size + 1, 1, none⟩ = some (.slice A2 l2.length c2) := cell_at (B2.on q32).blk 1 _ rfl; have y1a : w32.cell? ⟨w.heap.size, 0, none⟩ = some (.bool s1) := cell_at (B1.on q32).blk 0 _ rfl; have y1b : w32.cell? ⟨w.heap.size, 1, none⟩ = some (.slice A1 l1.length c1) := cell_at (B1.on q32).blk 1 _ rfl)
            | (go_at_call 30; have hmark := q30; refine (Times_z s4 s2 A4 A2 c4 c2 l4 l2 _ _ w30 (B4.rd.on q30) (B2.rd.on q30) B4.cap B2.cap z4.isZ z2.isZ (Nat.le_trans z4.small (by decide)) (Nat.le_trans z2.small (by decide))).mono ?_; rintro e w31 ⟨s6, A6, c6, l6, rfl, z6, n6, r6, b31⟩; clear y4a y4b y5a y5b y2a y2b y1a y1b; have q31 := q30.trans (b31.mono q30.size); have y4a : w31.cell? ⟨w10.heap.size, 0, none⟩ = some (.bool s4) := cell_at (B4.on q31).blk 0 _ rfl; have y4b : w31.cell? ⟨w10.heap.size, 1, none⟩ = some (.slice A4 l4.length c4) := cell_at (B4.on q31).blk 1 _ rfl; have y5a : w31.cell? ⟨w10.heap.size + 1, 0, none⟩ = some (.bool s5) := cell_at (B5.on q31).blk 0 _ rfl; have y5b : w31.cell? ⟨w10.heap.size + 1, 1, none⟩ = some (.slice A5 l5.length c5) := cell_at (B5.on q31).blk 1 _ rfl; have y2a : w31.cell? ⟨w.heap.size + 1, 0, none⟩ = some (.bool s2) := cell_at (B2.on q31).blk 0 _ rfl; have y2b : w31.cell? ⟨w.heap.size + 1, 1, none⟩ = some (.slice A2 l2.length c2) := cell_at (B2.on q31).blk 1 _ rfl; have y1a : w31.cell? ⟨w.heap.size, 0, none⟩ = some (.bool s1) := cell_at (B1.on q31).blk 0 _ rfl; have y1b : w31.cell? ⟨w.heap.size, 1, none⟩ = some (.slice A1 l1.length c1) := cell_at (B1.on q31).blk 1 _ rfl)
            | (go_at_call 36; refine (fits_v _ s4 s5 s2 A4 A5 A2 c4 c5 c2 l4 l5 l2 _ _ _ (B4.rd.on (below_drew (Below.refl _ w11))) (B5.rd.on (below_drew (Below.refl _ w11))) B4.cap B5.cap (B2.on (below_drew (Below.refl _ w11))) z5 z2 true F1.out).mono ?_; rintro e w30 ⟨rfl, b30⟩; clear y4a y4b y5a y5b y2a y2b y1a y1b; have q30 := (below_drew (Below.refl _ w11)).trans b30; have y4a : w30.cell? ⟨w10.heap.size, 0, none⟩ = some (.bool s4) := cell_at (B4.on q30).blk 0 _ rfl; have y4b : w30.cell? ⟨w10.heap.size, 1, none⟩ = some (.slice A4 l4.length c4) := cell_at (B4.on q30).blk 1 _ rfl; have y5a : w30.cell? ⟨w10.heap.size + 1, 0, none⟩ = some (.bool s5) := cell_at (B5.on q30).blk 0 _ rfl; have y5b : w30.cell? ⟨w10.heap.size + 1, 1, none⟩ = some (.slice A5 l5.length c5) := cell_at (B5.on q30).blk 1 _ rfl; have y2a : w30.cell? ⟨w.heap.size + 1, 0, none⟩ = some (.bool s2) := cell_at (B2.on q30).blk 0 _ rfl; have y2b : w30.cell? ⟨w.heap.size + 1, 1, none⟩ = some (.slice A2 l2.length c2) := cell_at (B2.on q30).blk 1 _ rfl; have y1a : w30.cell? ⟨w.heap.size, 0, none⟩ = some (.bool s1) := cell_at (B1.on q30).blk 0 _ rfl; have y1b : w30.cell? ⟨w.heap.size, 1, none⟩ = some (.slice A1 l1.length c1) := cell_at (B1.on q30).blk 1 _ rfl)))
      go_wp2_with fail
      have byX := by11.trans (q33.mono by11.size)
      replace B1 := B1.on q33
      replace B2 := B2.on q33
      replace B3 := B3.on q33
      replace B4 := B4.on q33
      replace B5 := B5.on q33
      clear y4a y4b y5a y5b y2a y2b y1a y1b
      have y1a : w33.cell? ⟨w.heap.size, 0, none⟩ = some (.bool s1) := cell_at B1.blk 0 _ rfl
      have y1b : w33.cell? ⟨w.heap.size, 1, none⟩ = some (.slice A1 l1.length c1) := cell_at B1.blk 1 _ rfl
      have y3a : w33.cell? ⟨w.heap.size + 1 + 1, 0, none⟩ = some (.bool s3) := cell_at B3.blk 0 _ rfl
      have y3b : w33.cell? ⟨w.heap.size + 1 + 1, 1, none⟩ = some (.slice A3 l3.length c3) := cell_at B3.blk 1 _ rfl
      have y2a : w33.cell? ⟨w.heap.size + 1, 0, none⟩ = some (.bool s2) := cell_at B2.blk 0 _ rfl
      have y2b : w33.cell? ⟨w.heap.size + 1, 1, none⟩ = some (.slice A2 l2.length c2) := cell_at B2.blk 1 _ rfl
      go_region_held3 (fun w'' => w''.cell? ⟨w.heap.size, 0, none⟩ = some (.bool s1) ∧ w''.cell? ⟨w.heap.size, 1, none⟩ = some (.slice A1 l1.length c1) ∧ w''.cell? ⟨w.heap.size + 1 + 1, 0, none⟩ = some (.bool s3) ∧ w''.cell? ⟨w.heap.size + 1 + 1, 1, none⟩ = some (.slice A3 l3.length c3) ∧ w''.cell? ⟨w.heap.size + 1, 0, none⟩ = some (.bool s2) ∧ w''.cell? ⟨w.heap.size + 1, 1, none⟩ = some (.slice A2 l2.length c2)) ((first | (with_reducible exact ⟨y1a, y1b, y3a, y3b, y2a, y2b⟩) | exact ⟨y1a, y1b, y3a, y3b, y2a, y2b⟩ | exact ⟨cell_al _ y1a, cell_al _ y1b, cell_al _ y3a, cell_al _ y3b, cell_al _ y2a, cell_al _ y2b⟩ | (have qS := (q52.setCell (p := ⟨_, 0, none⟩) hG52 (.bool s10)).setCell (p := ⟨_, 1, none⟩) hG52 (.slice A10 l10.length c10); exact ⟨cell_at (B1.on qS).blk 0 _ rfl, cell_at (B1.on qS).blk 1 _ rfl, cell_at (B3.on qS).blk 0 _ rfl, cell_at (B3.on qS).blk 1 _ rfl, cell_at (B2.on qS).blk 0 _ rfl, cell_at (B2.on qS).blk 1 _ rfl⟩)))
        ((first
          | (go_at_call 29; have hmark := q51; refine (Sum_calls s1 s9 A1 A9 c1 c9 l1 l9 _ _ _ (by first | exact B1.rd.on q51 | exact B1.rd.on (below_al q51 _)) (by first | exact r9 | exact r9.on (below_al (Below.refl _ w51) _)) B1.cap n9 z1.isZ z9 (Nat.le_trans z1.small (by decide)) (z9.len_le T8.out)).mono ?_; rintro e w52 ⟨s10, A10, c10, l10, rfl, z10, n10, r10, b52⟩; clear y1a y1b y3a y3b y2a y2b; have q52 : Below w33.heap.size w33 w52 := (by first | exact q51.trans (b52.mono q51.size) | exact (below_al q51 _).trans (b52.mono (below_al q51 _).size)); (first | (have N52 := (b52.block _ m51).trans N51; have m52 := Nat.lt_of_lt_of_le m51 b52.size; have hG52 := hG51) | (have N52 : w52.heap[w51.heap.size]? = some (.cells #[.bool false, .slice none 0 0] 24 (0, 0)) := (b52.block w51.heap.size (Nat.lt_of_lt_of_eq (Nat.lt_succ_self _) (World.size_alloc w51 _).symm)).trans (World.alloc_heap_new w51 _); have m52 : w51.heap.size < w52.heap.size := Nat.lt_of_lt_of_le (Nat.lt_of_lt_of_eq (Nat.lt_succ_self _) (World.size_alloc w51 _).symm) b52.size; have hG52 : w33.heap.size ≤ w51.heap.size := q51.size) | skip); replace r8 := (by first | exact r8.on b52 | exact (r8.on (below_al (Below.refl _ w51) _)).on b52); replace r9 := (by first | exact r9.on b52 | exact (r9.on (below_al (Below.refl _ w51) _)).on b52); (try (have n0 := cell_at N52 0 _ rfl; have n1 := cell_at N52 1 _ rfl; have fz0 := frozen_at N52 0; have fz1 := frozen_at N52 1)); have y1a : w52.cell? ⟨w.heap.size, 0, none⟩ = some (.bool s1) := cell_at (B1.on q52).blk 0 _ rfl; have y1b : w52.cell? ⟨w.heap.size, 1, none⟩ = some (.slice A1 l1.length c1) := cell_at (B1.on q52).blk 1 _ rfl; have y3a : w52.cell? ⟨w.heap.size + 1 + 1, 0, none⟩ = some (.bool s3) := cell_at (B3.on q52).blk 0 _ rfl; have y3b : w52.cell? ⟨w.heap.size + 1 + 1, 1, none⟩ = some (.slice A3 l3.length c3) := cell_at (B3.on q52).blk 1 _ rfl; have y2a : w52.cell? ⟨w.heap.size + 1, 0, none⟩ = some (.bool s2) := cell_at (B2.on q52).blk 0 _ rfl; have y2b : w52.cell? ⟨w.heap.size + 1, 1, none⟩ = some (.slice A2 l2.length c2) := cell_at (B2.on q52).blk 1 _ rfl)
          | (go_at_call 38; have hmark := q50; refine (Minus_calls s8 A8 c8 l8 _ _ (by first | exact r8 | exact r8.on (below_al (Below.refl _ w50) _)) n8 z8).mono ?_; rintro e w51 ⟨s9, A9, c9, l9, rfl, z9, n9, r9, b51⟩; clear y1a y1b y3a y3b y2a y2b; have q51 : Below w33.heap.size w33 w51 := (by first | exact q50.trans (b51.mono q50.size) | exact (below_al q50 _).trans (b51.mono (below_al q50 _).size)); (first | (have N51 := (b51.block _ m50).trans N50; have m51 := Nat.lt_of_lt_of_le m50 b51.size; have hG51 := hG50) | (have N51 : w51.heap[w50.heap.size]? = some (.cells #[.bool false, .slice none 0 0] 24 (0, 0)) := (b51.block w50.heap.size (Nat.lt_of_lt_of_eq (Nat.lt_succ_self _) (World.size_alloc w50 _).symm)).trans (World.alloc_heap_new w50 _); have m51 : w50.heap.size < w51.heap.size := Nat.lt_of_lt_of_le (Nat.lt_of_lt_of_eq (Nat.lt_succ_self _) (World.size_alloc w50 _).symm) b51.size; have hG51 : w33.heap.size ≤ w50.heap.size := q50.size) | skip); replace r8 := (by first | exact r8.on b51 | exact (r8.on (below_al (Below.refl _ w50) _)).on b51); have y1a : w51.cell? ⟨w.heap.size, 0, none⟩ = some (.bool s1) := cell_at (B1.on q51).blk 0 _ rfl; have y1b : w51.cell? ⟨w.heap.size, 1, none⟩ = some (.slice A1 l1.length c1) := cell_at (B1.on q51).blk 1 _ rfl; have y3a : w51.cell? ⟨w.heap.size + 1 + 1, 0, none⟩ = some (.bool s3) := cell_at (B3.on q51).blk 0 _ rfl; have y3b : w51.cell? ⟨w.heap.size + 1 + 1, 1, none⟩ = some (.slice A3 l3.length c3) := cell_at (B3.on q51).blk 1 _ rfl; have y2a : w51.cell? ⟨w.heap.size + 1, 0, none⟩ = some (.bool s2) := cell_at (B2.on q51).blk 0 _ rfl; have y2b : w51.cell? ⟨w.heap.size + 1, 1, none⟩ = some (.slice A2 l2.length c2) := cell_at (B2.on q51).blk 1 _ rfl)
          | (go_at_call 30; refine (Times_z s3 s2 A3 A2 c3 c2 l3 l2 _ _ _ (by first | exact B3.rd.on (below_drew (Below.refl _ w33)) | exact B3.rd.on (below_al (below_drew (Below.refl _ w33)) _)) (by first | exact B2.rd.on (below_drew (Below.refl _ w33)) | exact B2.rd.on (below_al (below_drew (Below.refl _ w33)) _)) B3.cap B2.cap z3.isZ z2.isZ (Nat.le_trans z3.small (by decide)) (Nat.le_trans z2.small (by decide))).mono ?_; rintro e w50 ⟨s8, A8, c8, l8, rfl, z8, n8, r8, b50⟩; clear y1a y1b y3a y3b y2a y2b; have q50 : Below w33.heap.size w33 w50 := (by first | exact (below_drew (Below.refl _ w33)).trans b50 | exact (below_al (below_drew (Below.refl _ w33)) _).trans (b50.mono (below_al (below_drew (Below.refl _ w33)) _).size) | exact (below_al (Below.refl _ w33) _).trans (b50.mono (below_al (Below.refl _ w33) _).size)); (try (have N50 : w50.heap[w33.heap.size]? = some (.cells #[.bool false, .slice none 0 0] 24 (0, 0)) := (b50.block w33.heap.size (Nat.lt_of_lt_of_eq (Nat.lt_succ_self _) (World.size_alloc w33.drew _).symm)).trans (World.alloc_heap_new w33.drew _); have m50 : w33.heap.size < w50.heap.size := Nat.lt_of_lt_of_le (Nat.lt_of_lt_of_eq (Nat.lt_succ_self _) (World.size_alloc w33.drew _).symm) b50.size; have hG50 : w33.heap.size ≤ w33.heap.size := Nat.le_refl _)); have y1a : w50.cell? ⟨w.heap.size, 0, none⟩ = some (.bool s1) := cell_at (B1.on q50).blk 0 _ rfl; have y1b : w50.cell? ⟨w.heap.size, 1, none⟩ = some (.slice A1 l1.length c1) := cell_at (B1.on q50).blk 1 _ rfl; have y3a : w50.cell? ⟨w.heap.size + 1 + 1, 0, none⟩ = some (.bool s3) := cell_at (B3.on q50).blk 0 _ rfl; have y3b : w50.cell? ⟨w.heap.size + 1 + 1, 1, none⟩ = some (.slice A3 l3.length c3) := cell_at (B3.on q50).blk 1 _ rfl; have y2a : w50.cell? ⟨w.heap.size + 1, 0, none⟩ = some (.bool s2) := cell_at (B2.on q50).blk 0 _ rfl; have y2b : w50.cell? ⟨w.heap.size + 1, 1, none⟩ = some (.slice A2 l2.length c2) := cell_at (B2.on q50).blk 1 _ rfl)))
      · obtain ⟨bx, B10⟩ := one_box w52 s10 A10 c10 l10 r10 n10
        have qE := q52.trans (bx.mono q52.size)
        obtain ⟨Y, hY⟩ : ∃ Y, w52.alloc (.cells #[.bool s10, .slice A10 l10.length c10] 24) = Y := ⟨_, rfl⟩
        rw [hY] at B10 qE ⊢
        have byE := byX.trans (qE.mono byX.size)
        replace B2 := B2.on qE
        replace B3 := B3.on qE
        replace B4 := B4.on qE
        clear hY y1a y1b y3a y3b y2a y2b
        have k10 : OkZ s10 l10 (a + -(o * b)) := ⟨z10, z10.len_le T9.out⟩
        by_cases hoq : o = q
        · go_wp2_with first
            | (go_at_call 20; have hmark := by60; refine (Same_d s3 s4 A3 A4 c3 c4 l3 l4 _ _ _ B3.rd B4.rd B3.cap B4.cap z3.isZ z4.isZ true (decide_eq_true hoq)).mono ?_; rintro e w61 ⟨rfl, b61⟩; have by61 := by60.trans (b61.mono by60.size); replace B2 := B2.on b61; replace B3 := B3.on b61; replace B4 := B4.on b61; replace B10 := B10.on b61; clear b61; clear u3a u3b; clear u4a u4b)
            | (go_at_call 17; have hmark := byE; refine (sane_calls _ (hdW.on byE)).mono ?_; rintro e w60 ⟨rfl, b60⟩; have by60 := byE.trans (b60.mono byE.size); replace B2 := B2.on b60; replace B3 := B3.on b60; replace B4 := B4.on b60; replace B10 := B10.on b60; clear b60; have u3a := cell_at B3.blk 0 _ rfl; have u3b := cell_at B3.blk 1 _ rfl; have u4a := cell_at B4.blk 0 _ rfl; have u4b := cell_at B4.blk 1 _ rfl)
          go_ret
          exact ⟨rfl, hbw.trans (by61.mono hbw.size)⟩
        · go_wp2_with first
            | (go_at_call 36; have hmark := by61; refine (fits_v _ s3 s10 s2 A3 A10 A2 c3 c10 c2 l3 l10 l2 _ _ _ B3.rd B10.rd B3.cap B10.cap B2 k10 z2 false (F2.out hoq)).mono ?_; rintro e w62 ⟨rfl, b62⟩; have by62 := by61.trans (b62.mono by61.size); replace B2 := B2.on b62; replace B3 := B3.on b62; replace B4 := B4.on b62; replace B10 := B10.on b62; clear b62; clear u3a u3b; clear u10a u10b)
            | (go_at_call 20; have hmark := by60; refine (Same_d s3 s4 A3 A4 c3 c4 l3 l4 _ _ _ B3.rd B4.rd B3.cap B4.cap z3.isZ z4.isZ false (decide_eq_false hoq)).mono ?_; rintro e w61 ⟨rfl, b61⟩; have by61 := by60.trans (b61.mono by60.size); replace B2 := B2.on b61; replace B3 := B3.on b61; replace B4 := B4.on b61; replace B10 := B10.on b61; clear b61; clear u3a u3b; clear u4a u4b; have u3a := cell_at B3.blk 0 _ rfl; have u3b := cell_at B3.blk 1 _ rfl; have u10a := cell_at B10.blk 0 _ rfl; have u10b := cell_at B10.blk 1 _ rfl)
            | (go_at_call 17; have hmark := byE; refine (sane_calls _ (hdW.on byE)).mono ?_; rintro e w60 ⟨rfl, b60⟩; have by60 := byE.trans (b60.mono byE.size); replace B2 := B2.on b60; replace B3 := B3.on b60; replace B4 := B4.on b60; replace B10 := B10.on b60; clear b60; have u3a := cell_at B3.blk 0 _ rfl; have u3b := cell_at B3.blk 1 _ rfl; have u4a := cell_at B4.blk 0 _ rfl; have u4b := cell_at B4.blk 1 _ rfl)
          go_ret
          exact ⟨rfl, hbw.trans (by62.mono hbw.size)⟩
      · have B10 : IntBox ((w52.setCell ⟨w51.heap.size, 0, none⟩ (.bool s10)).setCell ⟨w51.heap.size, 1, none⟩ (.slice A10 l10.length c10)) w51.heap.size s10 A10 c10 l10 := ⟨set_blk (set_blk N52 0 _) 1 _, rd_sets r10 ⟨N52⟩ _ _, n10⟩
        have qE := (q52.setCell (p := ⟨w51.heap.size, 0, none⟩) q51.size (.bool s10)).setCell (p := ⟨w51.heap.size, 1, none⟩) q51.size (.slice A10 l10.length c10)
        obtain ⟨Y, hY⟩ : ∃ Y, (w52.setCell ⟨w51.heap.size, 0, none⟩ (.bool s10)).setCell ⟨w51.heap.size, 1, none⟩ (.slice A10 l10.length c10) = Y := ⟨_, rfl⟩
        rw [hY] at B10 qE ⊢
        have byE := byX.trans (qE.mono byX.size)
        replace B2 := B2.on qE
        replace B3 := B3.on qE
        replace B4 := B4.on qE
        clear hY y1a y1b y3a y3b y2a y2b
        have k10 : OkZ s10 l10 (a + -(o * b)) := ⟨z10, z10.len_le T9.out⟩
        by_cases hoq : o = q
        · go_wp2_with first
            | (go_at_call 20; have hmark := by60; refine (Same_d s3 s4 A3 A4 c3 c4 l3 l4 _ _ _ B3.rd B4.rd B3.cap B4.cap z3.isZ z4.isZ true (decide_eq_true hoq)).mono ?_; rintro e w61 ⟨rfl, b61⟩; have by61 := by60.trans (b61.mono by60.size); replace B2 := B2.on b61; replace B3 := B3.on b61; replace B4 := B4.on b61; replace B10 := B10.on b61; clear b61; clear u3a u3b; clear u4a u4b)
            | (go_at_call 17; have hmark := byE; refine (sane_calls _ (hdW.on byE)).mono ?_; rintro e w60 ⟨rfl, b60⟩; have by60 := byE.trans (b60.mono byE.size); replace B2 := B2.on b60; replace B3 := B3.on b60; replace B4 := B4.on b60; replace B10 := B10.on b60; clear b60; have u3a := cell_at B3.blk 0 _ rfl; have u3b := cell_at B3.blk 1 _ rfl; have u4a := cell_at B4.blk 0 _ rfl; have u4b := cell_at B4.blk 1 _ rfl)
          go_ret
          exact ⟨rfl, hbw.trans (by61.mono hbw.size)⟩
        · go_wp2_with first
            | (go_at_call 36; have hmark := by61; refine (fits_v _ s3 s10 s2 A3 A10 A2 c3 c10 c2 l3 l10 l2 _ _ _ B3.rd B10.rd B3.cap B10.cap B2 k10 z2 false (F2.out hoq)).mono ?_; rintro e w62 ⟨rfl, b62⟩; have by62 := by61.trans (b62.mono by61.size); replace B2 := B2.on b62; replace B3 := B3.on b62; replace B4 := B4.on b62; replace B10 := B10.on b62; clear b62; clear u3a u3b; clear u10a u10b)
            | (go_at_call 20; have hmark := by60; refine (Same_d s3 s4 A3 A4 c3 c4 l3 l4 _ _ _ B3.rd B4.rd B3.cap B4.cap z3.isZ z4.isZ false (decide_eq_false hoq)).mono ?_; rintro e w61 ⟨rfl, b61⟩; have by61 := by60.trans (b61.mono by60.size); replace B2 := B2.on b61; replace B3 := B3.on b61; replace B4 := B4.on b61; replace B10 := B10.on b61; clear b61; clear u3a u3b; clear u4a u4b; have u3a := cell_at B3.blk 0 _ rfl; have u3b := cell_at B3.blk 1 _ rfl; have u10a := cell_at B10.blk 0 _ rfl; have u10b := cell_at B10.blk 1 _ rfl)
            | (go_at_call 17; have hmark := byE; refine (sane_calls _ (hdW.on byE)).mono ?_; rintro e w60 ⟨rfl, b60⟩; have by60 := byE.trans (b60.mono byE.size); replace B2 := B2.on b60; replace B3 := B3.on b60; replace B4 := B4.on b60; replace B10 := B10.on b60; clear b60; have u3a := cell_at B3.blk 0 _ rfl; have u3b := cell_at B3.blk 1 _ rfl; have u4a := cell_at B4.blk 0 _ rfl; have u4b := cell_at B4.blk 1 _ rfl)
          go_ret
          exact ⟨rfl, hbw.trans (by62.mono hbw.size)⟩
      · have B10 : IntBox ((w52.setCell ⟨w50.heap.size, 0, none⟩ (.bool s10)).setCell ⟨w50.heap.size, 1, none⟩ (.slice A10 l10.length c10)) w50.heap.size s10 A10 c10 l10 := ⟨set_blk (set_blk N52 0 _) 1 _, rd_sets r10 ⟨N52⟩ _ _, n10⟩
        have qE := (q52.setCell (p := ⟨w50.heap.size, 0, none⟩) q50.size (.bool s10)).setCell (p := ⟨w50.heap.size, 1, none⟩) q50.size (.slice A10 l10.length c10)
        obtain ⟨Y, hY⟩ : ∃ Y, (w52.setCell ⟨w50.heap.size, 0, none⟩ (.bool s10)).setCell ⟨w50.heap.size, 1, none⟩ (.slice A10 l10.length c10) = Y := ⟨_, rfl⟩
        rw [hY] at B10 qE ⊢
        have byE := byX.trans (qE.mono byX.size)
        replace B2 := B2.on qE
        replace B3 := B3.on qE
        replace B4 := B4.on qE
        clear hY y1a y1b y3a y3b y2a y2b
        have k10 : OkZ s10 l10 (a + -(o * b)) := ⟨z10, z10.len_le T9.out⟩
        by_cases hoq : o = q
        · go_wp2_with first
            | (go_at_call 20; have hmark := by60; refine (Same_d s3 s4 A3 A4 c3 c4 l3 l4 _ _ _ B3.rd B4.rd B3.cap B4.cap z3.isZ z4.isZ true (decide_eq_true hoq)).mono ?_; rintro e w61 ⟨rfl, b61⟩; have by61 := by60.trans (b61.mono by60.size); replace B2 := B2.on b61; replace B3 := B3.on b61; replace B4 := B4.on b61; replace B10 := B10.on b61; clear b61; clear u3a u3b; clear u4a u4b)
            | (go_at_call 17; have hmark := byE; refine (sane_calls _ (hdW.on byE)).mono ?_; rintro e w60 ⟨rfl, b60⟩; have by60 := byE.trans (b60.mono byE.size); replace B2 := B2.on b60; replace B3 := B3.on b60; replace B4 := B4.on b60; replace B10 := B10.on b60; clear b60; have u3a := cell_at B3.blk 0 _ rfl; have u3b := cell_at B3.blk 1 _ rfl; have u4a := cell_at B4.blk 0 _ rfl; have u4b := cell_at B4.blk 1 _ rfl)
          go_ret
          exact ⟨rfl, hbw.trans (by61.mono hbw.size)⟩
        · go_wp2_with first
            | (go_at_call 36; have hmark := by61; refine (fits_v _ s3 s10 s2 A3 A10 A2 c3 c10 c2 l3 l10 l2 _ _ _ B3.rd B10.rd B3.cap B10.cap B2 k10 z2 false (F2.out hoq)).mono ?_; rintro e w62 ⟨rfl, b62⟩; have by62 := by61.trans (b62.mono by61.size); replace B2 := B2.on b62; replace B3 := B3.on b62; replace B4 := B4.on b62; replace B10 := B10.on b62; clear b62; clear u3a u3b; clear u10a u10b)
            | (go_at_call 20; have hmark := by60; refine (Same_d s3 s4 A3 A4 c3 c4 l3 l4 _ _ _ B3.rd B4.rd B3.cap B4.cap z3.isZ z4.isZ false (decide_eq_false hoq)).mono ?_; rintro e w61 ⟨rfl, b61⟩; have by61 := by60.trans (b61.mono by60.size); replace B2 := B2.on b61; replace B3 := B3.on b61; replace B4 := B4.on b61; replace B10 := B10.on b61; clear b61; clear u3a u3b; clear u4a u4b; have u3a := cell_at B3.blk 0 _ rfl; have u3b := cell_at B3.blk 1 _ rfl; have u10a := cell_at B10.blk 0 _ rfl; have u10b := cell_at B10.blk 1 _ rfl)
            | (go_at_call 17; have hmark := byE; refine (sane_calls _ (hdW.on byE)).mono ?_; rintro e w60 ⟨rfl, b60⟩; have by60 := byE.trans (b60.mono byE.size); replace B2 := B2.on b60; replace B3 := B3.on b60; replace B4 := B4.on b60; replace B10 := B10.on b60; clear b60; have u3a := cell_at B3.blk 0 _ rfl; have u3b := cell_at B3.blk 1 _ rfl; have u4a := cell_at B4.blk 0 _ rfl; have u4b := cell_at B4.blk 1 _ rfl)
          go_ret
          exact ⟨rfl, hbw.trans (by62.mono hbw.size)⟩
      · have B10 : IntBox ((w52.setCell ⟨w33.heap.size, 0, none⟩ (.bool s10)).setCell ⟨w33.heap.size, 1, none⟩ (.slice A10 l10.length c10)) w33.heap.size s10 A10 c10 l10 := ⟨set_blk (set_blk N52 0 _) 1 _, rd_sets r10 ⟨N52⟩ _ _, n10⟩
        have qE := (q52.setCell (p := ⟨w33.heap.size, 0, none⟩) (Nat.le_refl _) (.bool s10)).setCell (p := ⟨w33.heap.size, 1, none⟩) (Nat.le_refl _) (.slice A10 l10.length c10)
        obtain ⟨Y, hY⟩ : ∃ Y, (w52.setCell ⟨w33.heap.size, 0, none⟩ (.bool s10)).setCell ⟨w33.heap.size, 1, none⟩ (.slice A10 l10.length c10) = Y := ⟨_, rfl⟩
        rw [hY] at B10 qE ⊢
        have byE := byX.trans (qE.mono byX.size)
        replace B2 := B2.on qE
        replace B3 := B3.on qE
        replace B4 := B4.on qE
        clear hY y1a y1b y3a y3b y2a y2b
        have k10 : OkZ s10 l10 (a + -(o * b)) := ⟨z10, z10.len_le T9.out⟩
        by_cases hoq : o = q
        · go_wp2_with first
            | (go_at_call 20; have hmark := by60; refine (Same_d s3 s4 A3 A4 c3 c4 l3 l4 _ _ _ B3.rd B4.rd B3.cap B4.cap z3.isZ z4.isZ true (decide_eq_true hoq)).mono ?_; rintro e w61 ⟨rfl, b61⟩; have by61 := by60.trans (b61.mono by60.size); replace B2 := B2.on b61; replace B3 := B3.on b61; replace B4 := B4.on b61; replace B10 := B10.on b61; clear b61; clear u3a u3b; clear u4a u4b)
            | (go_at_call 17; have hmark := byE; refine (sane_calls _ (hdW.on byE)).mono ?_; rintro e w60 ⟨rfl, b60⟩; have by60 := byE.trans (b60.mono byE.size); replace B2 := B2.on b60; replace B3 := B3.on b60; replace B4 := B4.on b60; replace B10 := B10.on b60; clear b60; have u3a := cell_at B3.blk 0 _ rfl; have u3b := cell_at B3.blk 1 _ rfl; have u4a := cell_at B4.blk 0 _ rfl; have u4b := cell_at B4.blk 1 _ rfl)
          go_ret
          exact ⟨rfl, hbw.trans (by61.mono hbw.size)⟩
        · go_wp2_with first
            | (go_at_call 36; have hmark := by61; refine (fits_v _ s3 s10 s2 A3 A10 A2 c3 c10 c2 l3 l10 l2 _ _ _ B3.rd B10.rd B3.cap B10.cap B2 k10 z2 false (F2.out hoq)).mono ?_; rintro e w62 ⟨rfl, b62⟩; have by62 := by61.trans (b62.mono by61.size); replace B2 := B2.on b62; replace B3 := B3.on b62; replace B4 := B4.on b62; replace B10 := B10.on b62; clear b62; clear u3a u3b; clear u10a u10b)
            | (go_at_call 20; have hmark := by60; refine (Same_d s3 s4 A3 A4 c3 c4 l3 l4 _ _ _ B3.rd B4.rd B3.cap B4.cap z3.isZ z4.isZ false (decide_eq_false hoq)).mono ?_; rintro e w61 ⟨rfl, b61⟩; have by61 := by60.trans (b61.mono by60.size); replace B2 := B2.on b61; replace B3 := B3.on b61; replace B4 := B4.on b61; replace B10 := B10.on b61; clear b61; clear u3a u3b; clear u4a u4b; have u3a := cell_at B3.blk 0 _ rfl; have u3b := cell_at B3.blk 1 _ rfl; have u10a := cell_at B10.blk 0 _ rfl; have u10b := cell_at B10.blk 1 _ rfl)
            | (go_at_call 17; have hmark := byE; refine (sane_calls _ (hdW.on byE)).mono ?_; rintro e w60 ⟨rfl, b60⟩; have by60 := byE.trans (b60.mono byE.size); replace B2 := B2.on b60; replace B3 := B3.on b60; replace B4 := B4.on b60; replace B10 := B10.on b60; clear b60; have u3a := cell_at B3.blk 0 _ rfl; have u3b := cell_at B3.blk 1 _ rfl; have u4a := cell_at B4.blk 0 _ rfl; have u4b := cell_at B4.blk 1 _ rfl)
          go_ret
          exact ⟨rfl, hbw.trans (by62.mono hbw.size)⟩

end Nm
end Go.Proofs.YtlhmbbpkhahbeaaDoor
namespace Go.Proofs.YtlhmbbpkhahbeaaDoor
namespace Nm
open Go.ChangeShapes Go.WideShapes Go.ChangeAt Go.WideMaps Go.WideElems Go.RowKit

set_option maxRecDepth 100000 in
theorem numDivision_lifted (os : Os) (started : os.Started) (H : Type) (enc : TypeId × Value → H) :
    ReturnsInHanded {} Tryd.checked os 7 .any (fun w args => (Rows.numDivisionSpec.pre enc Tryd.prog Tryd.f7 [] false w args ∧ laidMetH Tryd.prog laidL w) ∧ sizedMet enc Tryd.prog Tryd.f7 (OpenSpec.ofChange Rows.numDivisionSpec) false w args)
      (Rows.numDivisionSpec.post enc Tryd.prog Tryd.f7 false true false false) := by
  refine returnsInHanded_of_change_and (C := Tryd.checked) (X := fun w _ => laidMetH Tryd.prog laidL w) (fun _ _ _ hh h => h.of_heap hh) own started (by kernel_rfl) Tryd.func7
    (ChangeSpec.witness_shaped (enc := enc) (C := Tryd.checked) (os := os) (X := fun w _ => laidMetH Tryd.prog laidL w) false (World.doorLaid Tryd.prog 14 os) #[.agg #[.bool false, .slice none 0 0], .agg #[.bool false, .slice none 0 0], .agg #[.bool false, .slice none 0 0]] 8 rfl (World.shaped_of_RefB (by kernel_rfl) (by kernel_rfl)) (by kernel_rfl) (by kernel_rfl) (by kernel_rfl) (door_met os _)) ?_
  intro W base args ds gs before hval0 hW _ hsz0 hL _
  have hval : ∀ (j : Nat) t v, Tryd.f7.params[j]? = some t → args[j]? = some v → Value.okWide Tryd.prog W .any base t v := hval0
  have hsz : (DataW.weightsEach Tryd.prog (Tryd.f7.params.toList ++ Rows.numDivisionSpec.plain.varTypes Tryd.prog) (ds ++ gs)).all (· ≤ reachBytes) = true := hsz0
  have hW' := hW
  obtain ⟨p, q, hA0, hV, rfl, hfz, hnd⟩ := hW
  have hA : DataW.TrodAll enc Tryd.prog W 0 (fun _ => true) true Tryd.f7.params.toList args.toList ds p := hA0
  rw [Tryd.params7] at hA hval hsz
  obtain ⟨v0, v1, v2, d0, d1, d2, p0, p1, p2, rfl, rfl, rfl, h0, h1, h2⟩ := trodAll_three hA
  obtain ⟨rfl, rfl⟩ := trodVars_none hV
  have hw0 : ∀ n ∈ d0.weights Tryd.prog 24, n ≤ reachBytes := fun n hn => by simpa using List.all_eq_true.1 hsz n (DataW.weights_mem_each (j := 0) rfl rfl n hn)
  obtain ⟨n1, A1, c1, l1, rfl, r1, k1⟩ := open_intZ (hval 0 _ v0 rfl rfl) h0 hw0
  have hw1 : ∀ n ∈ d1.weights Tryd.prog 24, n ≤ reachBytes := fun n hn => by simpa using List.all_eq_true.1 hsz n (DataW.weights_mem_each (j := 1) rfl rfl n hn)
  obtain ⟨n2, A2, c2, l2, rfl, r2, k2⟩ := open_intZ (hval 1 _ v1 rfl rfl) h1 hw1
  have hw2 : ∀ n ∈ d2.weights Tryd.prog 24, n ≤ reachBytes := fun n hn => by simpa using List.all_eq_true.1 hsz n (DataW.weights_mem_each (j := 2) rfl rfl n hn)
  obtain ⟨n3, A3, c3, l3, rfl, r3, k3⟩ := open_intZ (hval 2 _ v2 rfl rfl) h2 hw2
  have hd := dig_of_laid hL
  clear hA0 hval0
  try simp only [List.append_nil] at hW'
  have hlt : ∀ x ∈ p0 ++ p1 ++ p2, x.block < W.heap.size := fun x hx => hW'.lt x (by simpa using hx)
  refine (NumDivision_calls n1 n2 n3 A1 A2 A3 c1 c2 c3 l1 l2 l3 W r1 r2 r3 k1 k2 k3 hd).mono fun e W' ⟨he, hb⟩ => ?_
  subst he
  refine ⟨_, rfl, _, _, _, [], _, [], hW', trodAll_mk1 (shut_bool uBool true), trodAll_mk3 (Below.trod laidOut (by kernel_rfl) (of_decide_eq_true (by kernel_rfl)) h0 hb (fun x hx => hlt x (by simp [hx]))) (Below.trod laidOut (by kernel_rfl) (of_decide_eq_true (by kernel_rfl)) h1 hb (fun x hx => hlt x (by simp [hx]))) (Below.trod laidOut (by kernel_rfl) (of_decide_eq_true (by kernel_rfl)) h2 hb (fun x hx => hlt x (by simp [hx]))), rfl, hb.frame _, fun h => by cases h⟩

theorem numDivision_holds : Rows.NumDivisionSaid :=
  OpenClaim.holds_of_wide 7 Tryd.f7 rfl rfl rfl rfl rfl rfl rfl ⟨rfl, rfl, rfl, rfl, rfl⟩ rfl rfl rfl rfl rfl (by kernel_rfl) Tryd.func7 (by kernel_rfl)
    (of_decide_eq_true (by kernel_rfl)) (by unfold Func.isWrapper; first | (rw [if_pos (by decide +kernel)]; kernel_rfl) | (rw [if_neg (by decide +kernel)]; exact ⟨rfl, rfl⟩))
    (fun os started H enc _ => numDivision_lifted os started H enc)

theorem numDivision_card : Rows.NumDivisionCardSaid :=
  Claim7.holds_tied_plain_at .later [] [.data] true (true, "81631b405a98d3f071c31393904156c9da5fef14bbd5c556ce9417642a36c1bb") true
    numDivision_holds (fun _ h => by cases h) (by kernel_rfl) (fun _ h => by cases h) numDivision_row_tie rfl ⟨rfl, rfl⟩ (by kernel_rfl) rfl
    (fun f fn hf hfn => by
      obtain rfl : f = 7 := Option.some.inj ((show Tryd.prog.funcNamed "zermelo/zermelolaw01.NumDivision" = some 7 by kernel_rfl).symm.trans hf) |>.symm
      obtain rfl : fn = Tryd.f7 := (Option.some.inj (Tryd.func7.symm.trans hfn)).symm
      exact ⟨by kernel_rfl, fun j t ht => by
        have hp := Tryd.params7
        rw [hp] at ht
        have hall : (Tryd.f7.params.toList.all fun u => !Tryd.prog.wantsStandIn u) = true := by kernel_rfl
        rw [hp] at hall
        have hm := Array.mem_toList_iff.2 (Array.mem_of_getElem? ht)
        exact (show Tryd.prog.wantsStandIn t = false by simpa using List.all_eq_true.1 hall t hm)⟩)
    (by kernel_rfl)

end Nm
end Go.Proofs.YtlhmbbpkhahbeaaDoor
