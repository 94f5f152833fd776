/-
  Contracts of the walks below.
-/
import Derived.Test.YtjghnghceeijeaaGreatDoorDb18
import Derived.Test.YtjghnghceeijeaaGreatDoorRows
import Derived.ProofKit
import Derived.LaidMore
import Derived.OpenShut
import Derived.Stop.Joined
import Derived.Carry
import Derived.Lib.LaidTab
set_option maxRecDepth 100000
set_option maxHeartbeats 4000000
set_option linter.unusedVariables false
set_option linter.unusedSimpArgs false
namespace Go.Proofs.YtjghnghceeijeaaGreatDoor
namespace Nm
open Go.RowKit Go.Shelf Go.BigFrame
attribute [local go_sem] Oper.semAt_some
def parV (b : Nat) (cs : List Nat) : Nat := numOf b (cs.map (digV 36))
def parOk (b : Nat) (cs : List Nat) : Bool := !cs.isEmpty && cs.all fun c => decide (digV 36 c < b)
theorem numOf_from (b : Nat) (ds : List Nat) : ∀ a, ds.foldl (fun a d => a * b + d) a = a * b ^ ds.length + numOf b ds := by
 unfold numOf
 induction ds with
 | nil => intro a; simp
 | cons d ds ih =>
  intro a
  rw [List.foldl_cons, List.foldl_cons, ih, ih (0 * b + d), List.length_cons, Nat.pow_succ]
  rw [Nat.add_mul, Nat.zero_mul, Nat.zero_add, Nat.mul_assoc, Nat.mul_comm b]
  omega
theorem numOf_cons (b d : Nat) (ds : List Nat) : numOf b (d :: ds) = d * b ^ ds.length + numOf b ds := by
 have := numOf_from b ds (0 * b + d)
 rw [Nat.zero_mul, Nat.zero_add] at this
 unfold numOf at *
 rw [List.foldl_cons, Nat.zero_mul, Nat.zero_add]
 exact this
theorem numOf_lt {b : Nat} : ∀ ds : List Nat, (∀ d ∈ ds, d < b) → numOf b ds < b ^ ds.length := by
 intro ds
 induction ds with
 | nil => intro _; simp [numOf]
 | cons d ds ih =>
  intro h
  have h1 := ih fun x hx => h x (List.mem_cons_of_mem _ hx)
  have h2 : d + 1 ≤ b := h d (List.mem_cons_self ..)
  rw [numOf_cons, List.length_cons, Nat.pow_succ, Nat.mul_comm (b ^ ds.length)]
  have h3 := Nat.mul_le_mul_right (b ^ ds.length) h2
  rw [Nat.add_mul, Nat.one_mul] at h3
  omega
theorem parV_drop (b : Nat) (cs : List Nat) : ∀ f, (∀ k, k < f → digV 36 (cs.getD k 0) = 0) → f ≤ cs.length → parV b (cs.drop f) = parV b cs := by
 intro f
 induction f with
 | zero => intro _ _; rw [List.drop_zero]
 | succ f ih =>
  intro h hf
  rw [← ih (fun k hk => h k (by omega)) (by omega)]
  have h0 := h f (by omega)
  have e : cs.drop f = cs.getD f 0 :: cs.drop (f + 1) := by
   rw [List.drop_eq_getElem_cons (by omega), List.getD_eq_getElem?_getD, List.getElem?_eq_getElem (by omega)]; rfl
  rw [e]
  unfold parV
  rw [List.map_cons, numOf_cons, h0, Nat.zero_mul, Nat.zero_add]
theorem parV_take {b : Nat} {cs : List Nat} {k c : Nat} (hk : k < cs.length) (hc : cs.getD k 0 = c) : parV b (cs.take (k + 1)) = parV b (cs.take k) * b + digV 36 c := by
 rw [List.take_succ_eq_append_getElem hk]
 rw [List.getD_eq_getElem?_getD, List.getElem?_eq_getElem hk] at hc
 simp only [Option.getD_some] at hc
 unfold parV
 rw [List.map_append, List.map_cons, List.map_nil, numOf_snoc, hc]
def PostB (g : Nat) (z er : Int) (w : World) (e : Ending) (w' : World) : Prop :=
 (er = 0 → ∃ s A c l, e = .returned (iv s A l.length c) ∧ IsZ s l z ∧ l.length ≤ c ∧ Rd w' A l ∧ But g w w') ∧ (er ≠ 0 → e = .panicked (wrong er) ∧ z = 0 ∧ But g w w')
theorem not_small {V m k : Nat} (h : 2 ^ m ≤ V) (hm : 32 * k ≤ m) : ¬ (lim V).length ≤ k := fun hl => by
 have h1 := bits_of_len (lt_of_length_le hl)
 have h2 := Nat.pow_le_pow_right (n := 2) (by decide) hm
 omega
theorem must_ok' (e : Int) (w : World) : Calls Tryz.prog 152 #[.bool true, .int .i64 e] w fun x w' => x = .returned (.tuple #[]) ∧ w = w' := (must_ok e w).mono fun _ _ h => ⟨h.1, h.2.symm⟩
theorem must_no' (e : Int) (w : World) : Calls Tryz.prog 152 #[.bool false, .int .i64 e] w fun x w' => x = .panicked (wrong e) ∧ w = w' := (must_no e w).mono fun _ _ h => ⟨h.1, h.2.symm⟩
theorem getB {S : ByteArray} {i : Nat} (hi : i < S.size) : ∀ h : i < S.size, ((S[i]'h).toNat) = (bytesN S).getD i 0 := by
 intro h
 have h' : i < (bytesN S).length := by rw [bytesN_length]; exact hi
 rw [List.getD_eq_getElem?_getD, List.getElem?_eq_getElem h']
 simp only [Option.getD_some, bytesN, List.getElem_map, Array.getElem_toList]
 rfl
theorem bytesN_extract (S : ByteArray) (f n : Nat) (hn : n = S.size) : bytesN (S.extract f n) = (bytesN S).drop f := by
 subst hn
 unfold bytesN
 rw [ByteArray.data_extract, Array.toList_extract, List.extract_eq_take_drop, List.map_take, List.map_drop]
 refine List.take_of_length_le ?_
 rw [List.length_drop, List.length_map, Array.length_toList]
 exact Nat.le_refl _
theorem parse1_good_f (g1 g2 : Nat) (b : Nat) (S T : ByteArray) (w : World) (h1 : Blk w g1 #[.int .i64 (b : Int)] 3) (h2 : Blk w g2 #[.string S] 9) (h12 : g1 ≠ g2) (hb1 : 2 ≤ b) (hb2 : b ≤ 36) (hS : 0 < S.size) (c0 : Nat) (hc0 : ∀ h, (S[0]'h).toNat = c0) (hneg : ((c0 : Int) == 45) = false) (hT : S = T) (hsm : S.size < 35184372088832) (h0 : 0 < T.size) (hgood : ∀ k, k < T.size → digV 36 ((bytesN T).getD k 0) < b) (V : Nat) (hV : Hid (parV b (bytesN T) = V)) :
 Calls Tryz.prog 191 #[.pointer (some ⟨g1, 0, none⟩), .pointer (some ⟨g2, 0, none⟩)] w (PostB g2 (fitZ (V : Int)).1 (fitZ (V : Int)).2 w) := by
 subst hT
 have x0 := cell_at h1.h 0 _ rfl
 have y0 := cell_at h2.h 0 _ rfl
 have u0 := frozen_at h2.h 0
 have t1 := (Array.getElem?_eq_some_iff.1 h1.h).1
 have t2 := (Array.getElem?_eq_some_iff.1 h2.h).1
 have dm4 : decide ((b : Int) ≤ 36) = true := decide_eq_true (by omega)
 have dS : decide (0 < S.size) = true := decide_eq_true hS
 have hbut : But g2 w (w.alloc (.cells #[.bool false, .slice none 0 0] 24)) := (But.refl g2 w) |>.on t2 ((Below.refl _ _).alloc (Nat.le_refl _) _)
 have HT : Blk (w.alloc (.cells #[.bool false, .slice none 0 0] 24)) g2 #[.string S] 9 := ⟨(Below.heap_alloc _ _ _ (t2)).trans (h2.h)⟩
 have HR : Blk (w.alloc (.cells #[.bool false, .slice none 0 0] 24)) w.heap.size #[.bool false, .slice none 0 0] 24 := ⟨by have := World.alloc_heap_new w (.cells #[.bool false, .slice none 0 0] 24); exact this⟩
 obtain ⟨W, hW⟩ : ∃ W, w.alloc (.cells #[.bool false, .slice none 0 0] 24) = W := ⟨_, rfl⟩
 rw [hW] at hbut HT HR
 have h1W := hbut.blk h12 h1
 have p0 := cell_at h1W.h 0 _ rfl
 have p1 := cell_at HT.h 0 _ rfl
 have p2 := frozen_at HT.h 0
 obtain ⟨p3, p4⟩ := cL2 HR.h
 go_enter Tryz.func191, Tryz.ntmps191
 have dT : decide (0 < S.size) = true := decide_eq_true h0
 have Hgood := Lib.hid hgood
 have hTl : S.size < 35184372088832 := by exact hsm
 clear hgood
 go_wp2_with first
  | (go_at_call 152; refine (must_ok' _ _).mono ?_; rintro e w5 ⟨rfl, rfl⟩)
 go_loop [4, 36] (fun fv iv => ∃ i f : Nat, i ≤ S.size ∧ fv = .int .i64 (f : Int) ∧ iv = .int .i64 (i : Int) ∧ f ≤ S.size ∧ Hid ((f = S.size ∧ ∀ k, k < i → digV 36 ((bytesN S).getD k 0) = 0) ∨ (f < i ∧ (∀ k, k < f → digV 36 ((bytesN S).getD k 0) = 0) ∧ 0 < digV 36 ((bytesN S).getD f 0)))) (fun _ iv => S.size - (intOf iv).toNat)
 case atStart => exact ⟨0, S.size, Nat.zero_le _, rfl, rfl, Nat.le_refl _, .inl ⟨rfl, fun k hk => absurd hk (Nat.not_lt_zero _)⟩⟩
 case round =>
  obtain ⟨i, f, hip, rfl, rfl, hf, hfi⟩ := hrel
  by_cases hin : i < S.size
  · have hiI : (i : Int) < (S.size : Int) := by omega
    have hiT : i < S.size := by omega
    have hget := getB hiT
    obtain ⟨c, hc⟩ : ∃ c, (bytesN S).getD i 0 = c := ⟨_, rfl⟩
    rw [hc] at hget
    have hc256 : c < 256 := by
     rw [← hc, List.getD_eq_getElem?_getD, List.getElem?_eq_getElem (by rw [bytesN_length]; exact hiT)]
     exact bytesN_lt _ _ (List.getElem_mem _)
    have hval := value_calls c hc256 W
    obtain ⟨d, hd⟩ : ∃ d, digV 36 c = d := ⟨_, rfl⟩
    rw [hd] at hval
    have Hc := Lib.hid hc
    have Hd := Lib.hid hd
    clear hc hd
    have hdb : d < b := by have := Hgood.out i hin; rwa [Hc.out, Hd.out] at this
    have db : decide (d < b) = true := decide_eq_true (by omega)
    have dbI : decide ((d : Int) < (b : Int)) = true := decide_eq_true (by omega)
    by_cases hd0 : 0 < d
    · go_wp2_with first
       | (go_at_call 152; refine (must_ok' _ _).mono ?_; rintro e w5 ⟨rfl, rfl⟩)
       | (go_at_call 192; refine hval.mono ?_; rintro e w6 ⟨rfl, rfl⟩)
      go_round
      case rel =>
       refine ⟨i + 1, min f i, by omega, by congr 1; omega, by simp, by omega, ?_⟩
       rcases hfi.out with ⟨e1, e2⟩ | ⟨e1, e2, e3⟩
       · rw [show min f i = i by omega]
         exact .inr ⟨by omega, e2, by rw [Hc.out, Hd.out]; exact hd0⟩
       · rw [show min f i = f by omega]
         exact .inr ⟨by omega, e2, e3⟩
      case measure => simp only [intOf]; omega
    · go_wp2_with first
       | (go_at_call 152; refine (must_ok' _ _).mono ?_; rintro e w5 ⟨rfl, rfl⟩)
       | (go_at_call 192; refine hval.mono ?_; rintro e w6 ⟨rfl, rfl⟩)
      go_round
      case rel =>
       refine ⟨i + 1, f, by omega, rfl, by simp, hf, ?_⟩
       rcases hfi.out with ⟨e1, e2⟩ | ⟨e1, e2, e3⟩
       · refine .inl ⟨e1, fun k hk => ?_⟩
         rcases Nat.lt_or_ge k i with h | h
         · exact e2 k h
         · obtain rfl : k = i := by omega
           rw [Hc.out, Hd.out]; omega
       · exact .inr ⟨by omega, e2, e3⟩
      case measure => simp only [intOf]; omega
  · have hin' : i = S.size := by omega
    have hnI : ¬ (i : Int) < (S.size : Int) := by omega
    have Hin := Lib.hid hin'
    clear hin'
    obtain ⟨hfz, hfp⟩ : (∀ k, k < f → digV 36 ((bytesN S).getD k 0) = 0) ∧ (f = S.size ∨ 0 < digV 36 ((bytesN S).getD f 0)) := by
     rcases hfi.out with ⟨e1, e2⟩ | ⟨e1, e2, e3⟩
     · exact ⟨fun k hk => e2 k (by have := Hin.out; omega), .inl e1⟩
     · exact ⟨e2, .inr e3⟩
    obtain ⟨U, hU⟩ : ∃ U, S.extract f S.size = U := ⟨_, rfl⟩
    have hUs : U.size = S.size - f := by rw [← hU, ByteArray.size_extract]; omega
    have hUl : U.size < 35184372088832 := by omega
    have hUb : bytesN U = (bytesN S).drop f := by rw [← hU]; exact bytesN_extract _ _ _ rfl
    have hUV : parV b (bytesN U) = parV b (bytesN S) := by rw [hUb]; exact parV_drop b _ f hfz (by rw [bytesN_length]; exact hf)
    have hUd : Hid (∀ k, k < U.size → digV 36 ((bytesN U).getD k 0) < b) := by
     intro k hk
     rw [hUb, List.getD_eq_getElem?_getD, List.getElem?_drop, ← List.getD_eq_getElem?_getD]
     exact Hgood.out _ (by omega)
    have hU1 : Hid (0 < U.size → 0 < digV 36 ((bytesN U).getD 0 0)) := by
     intro h
     rw [hUb, List.getD_eq_getElem?_getD, List.getElem?_drop, ← List.getD_eq_getElem?_getD, Nat.add_zero]
     rcases hfp with h1 | h1
     · omega
     · exact h1
    have hfI : (f : Int) ≤ (S.size : Int) := by omega
    have HUs := Lib.hid hUs
    rw [hV.out] at hUV
    have HUV := Lib.hid hUV
    have hW2b := hbut.set 0 (.string U)
    have B2 : Blk (W.setCell ⟨g2, 0, none⟩ (.string U)) g2 #[.string U] 9 := ⟨set_blk HT.h 0 _⟩
    have R2 : Blk (W.setCell ⟨g2, 0, none⟩ (.string U)) w.heap.size #[.bool false, .slice none 0 0] 24 := ⟨(Below.heap_setCell _ _ _ _ (by dsimp only; omega)).trans HR.h⟩
    obtain ⟨W2, hW2⟩ : ∃ W2, W.setCell ⟨g2, 0, none⟩ (.string U) = W2 := ⟨_, rfl⟩
    rw [hW2] at hW2b B2 R2
    have h12W := hW2b.blk h12 h1
    have q0 := cell_at h12W.h 0 _ rfl
    have q1 := cell_at B2.h 0 _ rfl
    clear hfz hfp hUs hUb hUV
    by_cases hlg : U.size ≤ 9600
    · have dl : decide (U.size ≤ 9600) = true := decide_eq_true hlg
      have dlI : decide ((U.size : Int) ≤ 9600) = true := decide_eq_true (by omega)
      have hcv := run_bytes_of_string (P := Tryz.prog) W2 9 124 5 U (by kernel_rfl) (by kernel_rfl) (by kernel_rfl)
      have hcl : ∀ j, j < U.size → (W2.drew.alloc (.cells (bytesRow U (grownCap W2 U.size 0 5)) 5 ((bytesRow U (grownCap W2 U.size 0 5)).size, (bytesRow U (grownCap W2 U.size 0 5)).size + 1))).cell? ⟨W2.heap.size, j, none⟩ = some (.int .u8 (((bytesN U).getD j 0 : Nat) : Int)) := by
       intro j hj
       have e1 := World.cell?_alloc_mark W2.drew (bytesRow U (grownCap W2 U.size 0 5)) 5 ((bytesRow U (grownCap W2 U.size 0 5)).size, (bytesRow U (grownCap W2 U.size 0 5)).size + 1) j
       refine e1.trans ?_
       rw [bytesRow_at U _ j hj, ← getB hj hj]
       rfl
      have hb3 : Below W2.heap.size W2 (W2.drew.alloc (.cells (bytesRow U (grownCap W2 U.size 0 5)) 5 ((bytesRow U (grownCap W2 U.size 0 5)).size, (bytesRow U (grownCap W2 U.size 0 5)).size + 1))) := (Below.refl _ W2).drew.alloc (Nat.le_refl _) _
      generalize grownCap W2 U.size 0 5 = C at *
      obtain ⟨W3, hW3⟩ : ∃ W3, W2.drew.alloc (.cells (bytesRow U C) 5 ((bytesRow U C).size, (bytesRow U C).size + 1)) = W3 := ⟨_, rfl⟩
      rw [hW3] at hcv hcl hb3
      have Hcl := Lib.hid hcl
      have HW3s : Hid (¬ W3.heap.size ≤ W2.heap.size) := by
       show ¬ _
       rw [← hW3, World.size_alloc]
       exact Nat.not_succ_le_self _
      have h1W2 := h12W
      clear hcl hW3 hW
      go_wp2_with first
       | (go_at_call 152; refine (must_ok' _ _).mono ?_; rintro e w5 ⟨rfl, rfl⟩)
      have hW3s := hb3.size
      have ha3 : W2.heap.size < W3.heap.size := by
       rcases Nat.lt_or_ge W2.heap.size W3.heap.size with h | h
       · exact h
       · exact absurd h HW3s.out
      have B3 := hW2b.on t2 hb3
      go_loopw [7, 63] (fun ov iv X => ∃ (i x : Nat) (A : Option Addr) (c : Nat), i ≤ U.size ∧ iv = .int .i64 (i : Int) ∧ ov = .slice A (lim x).length c ∧ (lim x).length ≤ c ∧ Rd X A (lim x) ∧ Below W3.heap.size W3 X ∧ Hid (x = parV b ((bytesN U).take i))) (fun _ iv _ => U.size - (intOf iv).toNat)
      case atStart =>
       refine ⟨0, 0, none, 0, Nat.zero_le _, rfl, ?_, ?_, ?_, Below.refl _ _, ?_⟩
       · rw [lim_zero]; rfl
       · rw [lim_zero]; exact Nat.le_refl _
       · rw [lim_zero]; exact Rd.nil _ _
       · show 0 = _
         rw [List.take_zero]; rfl
      case round =>
       obtain ⟨i, x, A, c, hiU, rfl, rfl, hcap, hrd, hbl, hx⟩ := hrel
       have h1X := (h1W2.on hb3).on hbl
       have r0 := cell_at h1X.h 0 _ rfl
       have lr0 : g1 < wr.heap.size := (Array.getElem?_eq_some_iff.1 h1X.h).1
       have hxl : (lim x).length ≤ 1800 := by
        refine len_of_bits (m := 6 * i) ?_ (by omega)
        have h1 := numOf_lt (b := b) (((bytesN U).take i).map (digV 36)) (by
         intro d hd
         rw [List.mem_map] at hd
         obtain ⟨c, hc, rfl⟩ := hd
         have hc' := List.mem_of_mem_take hc
         obtain ⟨k, hk, rfl⟩ := List.getElem_of_mem hc'
         have := hUd.out k (by rwa [bytesN_length] at hk)
         rwa [List.getD_eq_getElem?_getD, List.getElem?_eq_getElem hk] at this)
        rw [hx.out]
        refine Nat.lt_of_lt_of_le h1 ?_
        rw [List.length_map, List.length_take, bytesN_length, Nat.min_eq_left hiU]
        refine Nat.le_trans (Nat.pow_le_pow_left (show b ≤ 2 ^ 6 by omega) i) ?_
        rw [← Nat.pow_mul]
        exact Nat.le_refl _
       by_cases hin : i < U.size
       · have hiI : (i : Int) < (U.size : Int) := by omega
         have hcell := (hbl.cell (p := ⟨W2.heap.size, i, none⟩) ha3).trans (Hcl.out i hin)
         obtain ⟨cc, hcc⟩ : ∃ cc, (bytesN U).getD i 0 = cc := ⟨_, rfl⟩
         rw [hcc] at hcell
         have hc256 : cc < 256 := by
          rw [← hcc, List.getD_eq_getElem?_getD, List.getElem?_eq_getElem (by rw [bytesN_length]; exact hin)]
          exact bytesN_lt _ _ (List.getElem_mem _)
         have hnx := parV_take (b := b) (cs := bytesN U) (by rw [bytesN_length]; exact hin) hcc
         have hdb := hUd.out i hin
         rw [hcc] at hdb
         have hval := fun X => value_calls cc hc256 X
         obtain ⟨d, hd⟩ : ∃ d, digV 36 cc = d := ⟨_, rfl⟩
         rw [hd] at hval hnx hdb
         rw [← hx.out] at hnx
         have hsc := fun X (hX : Below wr.heap.size wr X) => scaled_calls A c b d (lim x) X (hrd.on hX) hcap (by omega) (by omega) (by omega)
         rw [val_lim] at hsc
         have Hnx := Lib.hid hnx
         have hd32 : d < 4294967296 := by omega
         have hb32 : b < 4294967296 := by omega
         have wb : IntKind.u32.wrap (b : Int) = (b : Int) := by rw [IntKind.wrap_u32]; omega
         have wd : IntKind.u32.wrap (d : Int) = (d : Int) := by rw [IntKind.wrap_u32]; omega
         clear hnx hd hcc hdb
         go_wp2_with fail
         clear Hgood Hin hfi HUs hUd hU1 hcv x0 y0 u0 p0 p1 p2 p3 p4 q0 q1
         go_region_held3 (fun w'' => w''.cell? ⟨g1, 0, none⟩ = some (.int .i64 (b : Int))) ((first | (with_reducible exact z7) | exact r0))
          ((first
           | (go_at_call 192; refine (hval _).mono ?_; rintro e w6 ⟨rfl, rfl⟩)
           | (go_at_call 193; refine (hsc _ (below_drew (Below.refl _ _))).mono ?_; rintro e w7 ⟨A7, c7, rfl, n7, r7, b7⟩; replace b7 := (below_drew (Below.refl _ wr)).trans b7; have z7 : w7.cell? ⟨g1, 0, none⟩ = some (.int .i64 (b : Int)) := cell_at (h1X.on b7).h 0 _ rfl)))
         go_wp2_with fail
         refine ⟨⟨i + 1, x * b + d, A7, c7, by omega, by simp, rfl, n7, r7, hbl.trans (b7.mono hbl.size), Hnx.out.symm⟩, by simp only [intOf]; omega⟩
       · have hiI : ¬ (i : Int) < (U.size : Int) := by omega
         have hxV : x = V := by
          rw [hx.out, List.take_of_length_le (by rw [bytesN_length]; omega)]
          exact HUV.out
         subst hxV
         have B8 := B3.on t2 hbl
         have R8 := (R2.on hb3).on hbl
         have ha : ∀ n : Nat, ((n : Int)).natAbs = n ∧ (-(n : Int)).natAbs = n := fun n => by omega
         have HA := Lib.hid ha
         clear ha
         by_cases hs : (lim x).length ≤ 300
         · have hwz := whole_z false x hs A c wr hrd hcap
           simp only [Bool.false_eq_true, if_false] at hwz
           go_wp2_with (go_at_call 147; refine hwz.mono ?_; rintro e w8 ⟨s8, A8, c8, l8, rfl, z8, n8, r8, b8⟩; have hq8 := R8.on b8; obtain ⟨v0, v1⟩ := cL2 hq8.h; obtain ⟨f0, f1⟩ := fZ2 hq8.h)
           have hfit : fitZ (x : Int) = ((x : Int), 0) := by
            unfold fitZ
            rw [if_pos (by rw [(HA.out x).1]; exact hs)]
           refine ret_cell rfl rfl rfl (set_blk (set_blk hq8.h 0 _) 1 _) ?_
           rw [hfit]
           exact ⟨fun _ => ⟨s8, A8, c8, l8, rfl, z8, n8, rd_sets r8 hq8 _ _, ((B8.on t2 b8).setNew t2 (Nat.le_refl _) _).setNew t2 (Nat.le_refl _) _⟩, fun h => absurd rfl h⟩
         · have hwn := whole_no false A c (lim x) wr hrd hcap (by rw [val_lim]; omega)
           go_wp2_with (go_at_call 147; refine hwn.mono ?_; rintro e w8 ⟨rfl, b8⟩)
           have hfit : fitZ (x : Int) = (0, 3) := by
            unfold fitZ
            rw [if_neg (by rw [(HA.out x).1]; exact hs)]
           rw [hfit]
           exact ⟨rfl, fun h => absurd h (by decide), fun _ => ⟨rfl, rfl, B8.on t2 b8⟩⟩
    · have dl : decide (U.size ≤ 9600) = false := decide_eq_false hlg
      have dlI : decide ((U.size : Int) ≤ 9600) = false := decide_eq_false (by omega)
      have hbig : ¬ (lim V).length ≤ 300 := by
       have e1 := HUV.out
       have hl : 0 < (bytesN U).length := by rw [bytesN_length]; omega
       have e2 : bytesN U = (bytesN U).getD 0 0 :: (bytesN U).drop 1 := by
        conv => lhs; rw [← List.drop_zero (l := bytesN U), List.drop_eq_getElem_cons hl]
        rw [List.getD_eq_getElem?_getD, List.getElem?_eq_getElem hl]; rfl
       have h1 := hU1.out (by omega)
       rw [e2] at e1
       unfold parV at e1
       rw [List.map_cons, numOf_cons, List.length_map, List.length_drop, bytesN_length] at e1
       have h2 : 2 ^ (U.size - 1) ≤ b ^ (U.size - 1) := Nat.pow_le_pow_left hb1 _
       have h3 := Nat.le_mul_of_pos_left (b ^ (U.size - 1)) h1
       exact not_small (m := U.size - 1) (Nat.le_trans h2 (Nat.le_trans h3 (by rw [← e1]; exact Nat.le_add_right _ _))) (by omega)
      have Hbig := Lib.hid hbig
      clear hbig hW
      go_wp2_with first
       | (go_at_call 152; refine (must_no' _ _).mono ?_; rintro e w5 ⟨rfl, rfl⟩)
      have hfit : fitZ (V : Int) = (0, 3) := by
       unfold fitZ
       rw [if_neg (by rw [show ((V : Int)).natAbs = V by omega]; exact Hbig.out)]
      rw [hfit]
      exact ⟨rfl, fun h => absurd h (by decide), fun _ => ⟨rfl, rfl, hW2b⟩⟩
theorem parOk_true {b : Nat} {cs : List Nat} (h : parOk b cs = true) : 0 < cs.length ∧ ∀ k, k < cs.length → digV 36 (cs.getD k 0) < b := by
 unfold parOk at h
 rw [Bool.and_eq_true, List.all_eq_true] at h
 refine ⟨?_, fun k hk => ?_⟩
 · cases cs
   · simp at h
   · exact Nat.succ_pos _
 · have := h.2 (cs.getD k 0) (by rw [List.getD_eq_getElem?_getD, List.getElem?_eq_getElem hk]; exact List.getElem_mem _)
   simpa using this
theorem PostB.no {g : Nat} {er : Int} {w : World} {e : Ending} {w' : World} (h : e = .panicked (wrong er) ∧ But g w w') (hn : er ≠ 0) : PostB g 0 er w e w' := ⟨fun h => absurd h hn, fun _ => ⟨h.1, rfl, h.2⟩⟩
structure OkZ (s : Bool) (l : List Nat) (z : Int) : Prop where
 isZ : IsZ s l z
 small : l.length ≤ 300
theorem OkZ.ok {s : Bool} {l : List Nat} {z : Int} (h : OkZ s l z) : okI s l = true := okI_of h.isZ h.small
theorem OkZ.val {s : Bool} {l : List Nat} {z : Int} (h : OkZ s l z) : toZ s l = z := h.isZ.toZ
theorem OkZ.nat {s : Bool} {l : List Nat} {z : Int} (h : OkZ s l z) : Nm.val l = z.natAbs := h.isZ.val
theorem okZ_of {s : Bool} {l : List Nat} (hw : Words l) (h : okI s l = true) : OkZ s l (toZ s l) := ⟨(okI_isInt hw h).isZ, (okI_isInt hw h).small⟩
theorem IsZ.okZ {s : Bool} {l : List Nat} {z : Int} (h : IsZ s l z) (hz : z.natAbs < 18446744073709551616) : OkZ s l z :=
 ⟨h, by rw [h.abs]; exact Nat.le_trans (length_le_of_lt (k := 2) (Nat.lt_of_lt_of_le hz (by decide))) (by decide)⟩
theorem divR_z {n1 n2 : Bool} {l1 l2 : List Nat} {z1 z2 : Int} (h1 : OkZ n1 l1 z1) (h2 : OkZ n2 l2 z2) : divR n1 l1 n2 l2 = if z2 = 0 then (0, 0, 20) else (divZ z1 z2, modZ z1 z2, 0) := by
 unfold divR
 rw [h1.ok, h2.ok, h1.val, h2.val, if_pos (by rfl)]
 by_cases h0 : z2 = 0
 · have : l2.length = 0 := by
    have := h2.isZ.abs
    rw [h0] at this
    rw [this]; exact congrArg List.length lim_zero
   rw [if_pos this, if_pos h0]
 · rw [if_neg, if_neg h0]
   have := h2.isZ.abs
   have h3 := lim_length_pos (n := z2.natAbs) (by omega)
   rw [← this] at h3
   omega
theorem powR_z {n1 : Bool} {l1 : List Nat} {z1 : Int} (h1 : OkZ n1 l1 z1) (n : Int) : powR n1 l1 n = if 0 ≤ n ∧ n ≤ 9600 then fitZ (z1 ^ n.toNat) else (0, 1) := by
 unfold powR
 rw [h1.ok, h1.val, if_pos rfl]
theorem textR_z {n1 : Bool} {l1 : List Nat} {z1 : Int} (h1 : OkZ n1 l1 z1) (n : Int) : textR n1 l1 n = if 2 ≤ n ∧ n ≤ 36 then (textL (decide (z1 < 0)) n.toNat z1.natAbs, 0) else ([], 1) := by
 unfold textR
 rw [h1.ok, h1.nat, ← h1.isZ.sgn, Bool.true_and]
 by_cases h : 2 ≤ n ∧ n ≤ 36
 · rw [if_pos h, if_pos (by rw [decide_eq_true h.1, decide_eq_true h.2]; rfl)]
 · rw [if_neg h, if_neg]
   intro hh
   rw [Bool.and_eq_true, decide_eq_true_eq, decide_eq_true_eq] at hh
   exact h hh
theorem sameI_z {n1 n2 : Bool} {l1 l2 : List Nat} {z1 z2 : Int} (h1 : IsZ n1 l1 z1) (h2 : IsZ n2 l2 z2) : sameI n1 l1 n2 l2 = decide (z1 = z2) := by
 unfold sameI
 rw [h1.sgn, h2.sgn, h1.abs, h2.abs]
 by_cases h : z1 = z2
 · subst h; simp
 · rw [decide_eq_false h]
   by_cases hs : z1 < 0 ↔ z2 < 0
   · have hne : z1.natAbs ≠ z2.natAbs := by
      intro e
      by_cases h1 : z1 < 0
      · have := hs.1 h1; omega
      · have : ¬ z2 < 0 := fun h => h1 (hs.2 h)
        omega
     have : (lim z1.natAbs == lim z2.natAbs) = false := by
      rw [beq_eq_false_iff_ne]
      intro e
      have := congrArg Nm.val e
      rw [val_lim, val_lim] at this
      exact hne this
     rw [this, Bool.and_false]
   · have : (decide (z1 < 0) == decide (z2 < 0)) = false := by
      rw [beq_eq_false_iff_ne]
      intro e
      exact hs (by simpa using e)
     rw [this, Bool.false_and]
theorem Formed_is (n : Bool) (A : Option Addr) (c : Nat) (l : List Nat) (w : World) (hA : Rd w A l) (hc : l.length ≤ c) (b : Bool) (hb : okI n l = b) :
 Calls Tryz.prog 70 #[iv n A l.length c] w fun e w' => e = .returned (.bool b) ∧ Below w.heap.size w w' := by
 subst hb
 exact Formed_calls n A c l w hA hc
end Nm
end Go.Proofs.YtjghnghceeijeaaGreatDoor
namespace Go.Proofs.YtjghnghceeijeaaGreatDoor
namespace Nm
open Go.ChangeShapes Go.WideShapes Go.ChangeAt Go.WideMaps Go.WideElems Go.RowKit
theorem own : ownKnob Tryz.prog.godebug = none := by kernel_rfl
theorem uInt : ∃ f0 f1 : Field, Tryz.prog.underlying 24 = some (.struct #[f0, f1]) ∧ f0.type = 4 ∧ f0.offset = 0 ∧ f1.type = 22 ∧ f1.offset = 1 := ⟨_, _, Tryz.underlying24, rfl, rfl, rfl, rfl⟩
theorem uBool : Tryz.prog.underlying 4 = some .bool := by kernel_rfl
theorem uWord : Tryz.prog.underlying 127 = some (.int .u32) := by kernel_rfl
theorem cInt : Tryz.prog.cellsOf 24 = 2 := by kernel_rfl
theorem cBool : Tryz.prog.cellsOf 4 = 1 := by kernel_rfl
theorem cWord : Tryz.prog.cellsOf 127 = 1 := by kernel_rfl
theorem cWords : Tryz.prog.cellsOf 22 = 1 := by kernel_rfl
end Nm
end Go.Proofs.YtjghnghceeijeaaGreatDoor
namespace Go.Proofs.YtjghnghceeijeaaGreatDoor
namespace Nm
open Go.RowKit Go.Shelf Go.BigFrame
attribute [local go_sem] Oper.semAt_some
def RetOk (z : Int) (w : World) (e : Ending) (w' : World) : Prop :=
 ∃ s A c l, e = .returned (.tuple #[iv s A l.length c, .int .i64 0]) ∧ OkZ s l z ∧ l.length ≤ c ∧ Rd w' A l ∧ Below w.heap.size w w'
theorem RetZE.ok {z : Int} {w : World} {e : Ending} {w' : World} (h : RetZE z 0 w e w') (hs : (lim z.natAbs).length ≤ 300) : RetOk z w e w' := by
 obtain ⟨s, A, c, l, h1, h2, h3, h4, h5⟩ := h
 exact ⟨s, A, c, l, h1, ⟨h2, by rw [h2.abs]; exact hs⟩, h3, h4, h5⟩
theorem fit_ok {z : Int} (hs : (lim z.natAbs).length ≤ 300) : fitZ z = (z, 0) := by unfold fitZ; rw [if_pos hs]
theorem OkZ.len {s : Bool} {l : List Nat} {z : Int} (h : OkZ s l z) : (lim z.natAbs).length = l.length := by rw [← h.isZ.abs]
theorem len_add {z1 z2 : Int} {k : Nat} (h1 : (lim z1.natAbs).length ≤ k) (h2 : (lim z2.natAbs).length ≤ k) : (lim (z1 + z2).natAbs).length ≤ k + 1 := by
 have a1 := lt_of_length_le h1
 have a2 := lt_of_length_le h2
 refine length_le_of_lt ?_
 have e : BB ^ (k + 1) = BB ^ k * BB := Nat.pow_succ ..
 have e4 : BB ^ k * 2 ≤ BB ^ k * BB := Nat.mul_le_mul_left _ (by decide)
 omega
theorem Add_z (n1 n2 : Bool) (A1 A2 : Option Addr) (c1 c2 : Nat) (l1 l2 : List Nat) (z1 z2 : Int) (w : World) (h1 : Rd w A1 l1) (h2 : Rd w A2 l2) (hc1 : l1.length ≤ c1) (hc2 : l2.length ≤ c2) (k1 : OkZ n1 l1 z1) (k2 : OkZ n2 l2 z2) (hs : (lim (z1 + z2).natAbs).length ≤ 300) :
 Calls Tryz.prog 71 #[iv n1 A1 l1.length c1, iv n2 A2 l2.length c2] w (RetOk (z1 + z2) w) := by
 have h := Add_calls n1 n2 A1 A2 c1 c2 l1 l2 w h1 h2 hc1 hc2
 have e : addR n1 l1 n2 l2 = (z1 + z2, 0) := by unfold addR; rw [k1.ok, k2.ok, Bool.and_self, if_pos rfl, k1.val, k2.val, fit_ok hs]
 rw [e] at h
 exact h.mono fun e w' h => h.ok hs
theorem Sub_z (n1 n2 : Bool) (A1 A2 : Option Addr) (c1 c2 : Nat) (l1 l2 : List Nat) (z1 z2 : Int) (w : World) (h1 : Rd w A1 l1) (h2 : Rd w A2 l2) (hc1 : l1.length ≤ c1) (hc2 : l2.length ≤ c2) (k1 : OkZ n1 l1 z1) (k2 : OkZ n2 l2 z2) (hs : (lim (z1 - z2).natAbs).length ≤ 300) :
 Calls Tryz.prog 163 #[iv n1 A1 l1.length c1, iv n2 A2 l2.length c2] w (RetOk (z1 - z2) w) := by
 have h := Sub_calls n1 n2 A1 A2 c1 c2 l1 l2 w h1 h2 hc1 hc2
 have e : subR n1 l1 n2 l2 = (z1 - z2, 0) := by unfold subR; rw [k1.ok, k2.ok, Bool.and_self, if_pos rfl, k1.val, k2.val, fit_ok hs]
 rw [e] at h
 exact h.mono fun e w' h => h.ok hs
theorem Mul_z (n1 n2 : Bool) (A1 A2 : Option Addr) (c1 c2 : Nat) (l1 l2 : List Nat) (z1 z2 : Int) (w : World) (h1 : Rd w A1 l1) (h2 : Rd w A2 l2) (hc1 : l1.length ≤ c1) (hc2 : l2.length ≤ c2) (k1 : OkZ n1 l1 z1) (k2 : OkZ n2 l2 z2) (hs : (lim (z1 * z2).natAbs).length ≤ 300) :
 Calls Tryz.prog 155 #[iv n1 A1 l1.length c1, iv n2 A2 l2.length c2] w (RetOk (z1 * z2) w) := by
 have h := Mul_calls n1 n2 A1 A2 c1 c2 l1 l2 w h1 h2 hc1 hc2
 have e : mulR n1 l1 n2 l2 = (z1 * z2, 0) := by unfold mulR; rw [k1.ok, k2.ok, Bool.and_self, if_pos rfl, k1.val, k2.val, fit_ok hs]
 rw [e] at h
 exact h.mono fun e w' h => h.ok hs
theorem Compare_z (n1 n2 : Bool) (A1 A2 : Option Addr) (c1 c2 : Nat) (l1 l2 : List Nat) (z1 z2 : Int) (w : World) (h1 : Rd w A1 l1) (h2 : Rd w A2 l2) (hc1 : l1.length ≤ c1) (hc2 : l2.length ≤ c2) (k1 : OkZ n1 l1 z1) (k2 : OkZ n2 l2 z2) :
 Calls Tryz.prog 89 #[iv n1 A1 l1.length c1, iv n2 A2 l2.length c2] w fun e w' => e = .returned (.int .i64 (cmpZ z1 z2)) ∧ Below w.heap.size w w' := by
 have h := Compare_calls n1 n2 A1 A2 c1 c2 l1 l2 w h1 h2 hc1 hc2
 have e : cmpR n1 l1 n2 l2 = cmpZ z1 z2 := by unfold cmpR; rw [k1.ok, k2.ok, Bool.and_self, if_pos rfl, k1.val, k2.val]
 rw [e] at h
 exact h
theorem OkZ.nil {s : Bool} {l : List Nat} {z : Int} (h : OkZ s l z) (h0 : z = 0) : l.length = 0 := by
 rw [h.isZ.abs, h0]; exact congrArg List.length lim_zero
theorem OkZ.pos {s : Bool} {l : List Nat} {z : Int} (h : OkZ s l z) (h0 : z ≠ 0) : 0 < l.length := by
 rw [h.isZ.abs]; exact lim_length_pos (by omega)
theorem cell_al {W : World} {a : Addr} {v : Value} (o : Obj) (h : W.cell? a = some v) : (W.alloc o).cell? a = some v := by
 rw [World.cell?_alloc_some W a o (by rw [h]; rfl)]; exact h
theorem below_al {w W : World} (h : Below w.heap.size w W) (o : Obj) : Below w.heap.size w (W.alloc o) := h.alloc h.size o
end Nm
end Go.Proofs.YtjghnghceeijeaaGreatDoor
namespace Go.Proofs.YtjghnghceeijeaaGreatDoor
namespace Nm
open Go.RowKit Go.Shelf Go.BigFrame
theorem IsZ.len_le {s : Bool} {l : List Nat} {z : Int} {k : Nat} (h : IsZ s l z) (hs : (lim z.natAbs).length ≤ k) : l.length ≤ k := by rw [h.abs]; exact hs
theorem al1 (W : World) (o : Obj) : Below W.heap.size W (W.alloc o) := (Below.refl _ W).alloc (Nat.le_refl _) _
theorem Times_z (n1 n2 : Bool) (A1 A2 : Option Addr) (c1 c2 : Nat) (l1 l2 : List Nat) (z1 z2 : Int) (w : World) (h1 : Rd w A1 l1) (h2 : Rd w A2 l2) (hc1 : l1.length ≤ c1) (hc2 : l2.length ≤ c2) (k1 : IsZ n1 l1 z1) (k2 : IsZ n2 l2 z2) (hs1 : l1.length ≤ 65536) (hs2 : l2.length ≤ 65536) :
 Calls Tryz.prog 34 #[iv n1 A1 l1.length c1, iv n2 A2 l2.length c2] w (RetZ (z1 * z2) w) := by
 have h := Times_calls n1 n2 A1 A2 c1 c2 l1 l2 w h1 h2 hc1 hc2 hs1 hs2
 rwa [k1.toZ, k2.toZ] at h
end Nm
end Go.Proofs.YtjghnghceeijeaaGreatDoor
namespace Go.Proofs.YtjghnghceeijeaaGreatDoor
namespace Nm
open Go.RowKit Go.Shelf Go.BigFrame
attribute [local go_sem] Oper.semAt_some
theorem OkZ.both {n1 n2 : Bool} {l1 l2 : List Nat} {z1 z2 : Int} (k1 : OkZ n1 l1 z1) (k2 : OkZ n2 l2 z2) : ((okI n1 l1 && decide (l1.length ≤ 300)) && (okI n2 l2 && decide (l2.length ≤ 300))) = true := by
 rw [k1.ok, k2.ok, decide_eq_true k1.small, decide_eq_true k2.small]; rfl
theorem HoldsZ.on {W W' : World} {g : Nat} {s : Bool} {A : Option Addr} {c : Nat} {l : List Nat} {z : Int} (h : HoldsZ W g s A c l z) (hb : Below W.heap.size W W') : HoldsZ W' g s A c l z := ⟨h.blk.on hb, h.isz, h.rd.on hb, h.cap⟩
theorem len_mul2 {z1 z2 : Int} {k j : Nat} (h1 : (lim z1.natAbs).length ≤ k) (h2 : (lim z2.natAbs).length ≤ j) : (lim (z1 * z2).natAbs).length ≤ k + j := by
 rw [Int.natAbs_mul]
 exact prod_length h1 h2
theorem fit_big {z : Int} (h : 300 < (lim z.natAbs).length) : fitZ z = (0, 3) := by unfold fitZ; rw [if_neg (by omega)]
theorem OkZ.len_le {s : Bool} {l : List Nat} {z : Int} (h : OkZ s l z) : (lim z.natAbs).length ≤ 300 := by rw [h.len]; exact h.small
theorem OkZ.formed {n1 : Bool} {l1 : List Nat} {z1 : Int} (k1 : OkZ n1 l1 z1) (A : Option Addr) (c : Nat) (w : World) (hA : Rd w A l1) (hc : l1.length ≤ c) :
 Calls Tryz.prog 70 #[iv n1 A l1.length c] w fun e w' => e = .returned (.bool true) ∧ Below w.heap.size w w' := Formed_is n1 A c l1 w hA hc true k1.ok
end Nm
end Go.Proofs.YtjghnghceeijeaaGreatDoor
namespace Go.Proofs.YtjghnghceeijeaaGreatDoor
namespace Nm
open Go
section
variable {P : Program} {ops : Array Oper} {Q : Exit → Act → World → Prop} {md : Region.Mode} {S : World → Prop}
def wpAnyT (P : Program) (md : Region.Mode) (ops : Array Oper) (Q : Exit → Act → World → Prop) (S : World → Prop) (k : Nat) : Nat → Array Bool → Act → World → Prop
 | 0, listed, a, w => Region.ready md ops listed = [] ∧ Q .normal a w
 | fuel + 1, listed, a, w =>
  (Region.ready md ops listed = [] → Q .normal a w) ∧
  ∀ i ∈ Region.ready md ops listed, wpOp P ops Q i (fun a' w' => (i = k ∨ S w') ∧ wpAnyT P md ops Q S k fuel (listed.setIfInBounds i true) a' w') a w
theorem wpAny_of_T (k : Nat) : ∀ (fuel : Nat) (listed : Array Bool) (a : Act) (w : World), wpAnyT P md ops Q S k fuel listed a w → wpAny P md ops Q fuel listed a w
 | 0, _, _, _, h => h
 | fuel + 1, _, _, _, h => ⟨h.1, fun i hi => wpOp_mono (fun a' w' h' => wpAny_of_T k fuel _ a' w' h'.2) (h.2 i hi)⟩
def waitsB (md : Region.Mode) (ops : Array Oper) (k i : Nat) : Bool := match ops[k]? with | some o => o.after.any (fun e => Region.binds md e && e.on == i) | none => false
theorem waits_not {k i : Nat} (h : waitsB md ops k i = true) {listed : Array Bool} (hu : listed.getD i true = false) : k ∉ Region.ready md ops listed := by
 intro hk
 obtain ⟨_, ok, hok, hall⟩ := mem_ready.1 hk
 unfold waitsB at h
 rw [hok] at h
 simp only [Array.any_eq_true] at h
 obtain ⟨n, hn, hb⟩ := h
 rw [Bool.and_eq_true, beq_iff_eq] at hb
 have h1 := hall _ (Array.getElem_mem hn) hb.1
 rw [hb.2] at h1
 rcases Nat.lt_or_ge i listed.size with h' | h'
 · simp [h'] at h1 hu; rw [hu] at h1; cases h1
 · simp [Array.getElem?_eq_none h'] at hu
theorem wpAnyT_first {i k : Nat} {oi : Oper} {v : Value} (hi : ops[i]? = some oi) (hsel : ∀ (j : Nat) (o : Oper) cs b, ops[j]? = some o → o.op ≠ .select cs b)
 (hQ : ∀ c a w, Q (.panic c) (a.put oi.dst v) w → Q (.panic c) a w) (hk : waitsB md ops k i = true) :
 ∀ (fuel : Nat) (listed : Array Bool) (a : Act) (w : World),
  (∀ j oj, ops[j]? = some oj → j ≠ i → listed.getD j true = false → (∀ e ∈ oj.after, Region.binds md e = true → e.on ≠ i) → oi.apart ops oj = true) →
  i ∈ Region.ready md ops listed → YieldsIf P ops S oi v a → S w →
  wpAnyT P md ops Q S k fuel (listed.setIfInBounds i true) (a.put oi.dst v) w → wpAnyT P md ops Q S k (fuel + 1) listed a w := by
 intro fuel
 induction fuel with
 | zero =>
  intro listed a w _ hr hy hS H
  refine ⟨fun h => (by rw [h] at hr; cases hr), fun j hj => ?_⟩
  by_cases hji : j = i
  · subst hji; exact hy.wpOp hi hS ⟨.inr hS, H⟩
  · have := ready_mono hj hji
    rw [H.1] at this
    cases this
 | succ fuel ih =>
  intro listed a w hfree hr hy hS H
  refine ⟨fun h => (by rw [h] at hr; cases hr), fun j hj => ?_⟩
  by_cases hji : j = i
  · subst hji; exact hy.wpOp hi hS ⟨.inr hS, H⟩
  · have hjk : j ≠ k := by
     rintro rfl
     exact waits_not hk (mem_ready.1 hr).1 hj
    have h1 := H.2 j (ready_mono hj hji)
    obtain ⟨hjun, oj, hoj, hall⟩ := mem_ready.1 hj
    have hnot : ∀ e ∈ oj.after, Region.binds md e = true → e.on ≠ i := fun e he hb heq => by
     have h1 := hall e he hb
     have h0 := (mem_ready.1 hr).1
     rw [heq] at h1
     rcases Nat.lt_or_ge i listed.size with h' | h'
     · simp [h'] at h0 h1; rw [h0] at h1; cases h1
     · simp [Array.getElem?_eq_none h'] at h1
    have h2 := wpOp_putIf hoj (hfree j oj hoj hji hjun hnot) (fun cs b => hsel i oi cs b hi) (fun cs b => hsel j oj cs b hoj) hQ hy h1
    have hfree' : ∀ m om, ops[m]? = some om → m ≠ i → (listed.setIfInBounds j true).getD m true = false →
     (∀ e ∈ om.after, Region.binds md e = true → e.on ≠ i) → oi.apart ops om = true := fun m om hm hmi hun hno => by
     refine hfree m om hm hmi ?_ hno
     by_cases hjm : j = m
     · subst hjm; exact hjun
     · rw [getD_set_ne true hjm] at hun; exact hun
    refine wpOp_mono (fun a' w' h3 => ?_) h2
    have hS' : S w' := h3.2.1.resolve_left hjk
    refine ⟨.inr hS', ih (listed.setIfInBounds j true) a' w' hfree' (ready_mono hr (Ne.symm hji)) h3.1 hS' ?_⟩
    rw [Array.setIfInBounds_comm _ _ hji]
    exact h3.2.2
theorem wpAnyT_take {i k : Nat} {oi : Oper} {v : Value} {fuel : Nat} {listed : Array Bool} {a : Act} {w : World} (hi : ops[i]? = some oi)
 (hs : Region.noSelect ops = true) (hf : Region.free md ops listed i = true) (hr : (Region.ready md ops listed).contains i = true) (hk : waitsB md ops k i = true)
 (hQ : ∀ c a w, Q (.panic c) (a.put oi.dst v) w → Q (.panic c) a w) (hy : YieldsIf P ops S oi v a) (hS : S w)
 (h : wpAnyT P md ops Q S k fuel (listed.setIfInBounds i true) (a.put oi.dst v) w) : wpAnyT P md ops Q S k (fuel + 1) listed a w :=
 wpAnyT_first hi (Region.noSelect_spec hs) hQ hk fuel listed a w (Region.free_spec hi hf) (by simpa using hr) hy hS h
theorem wpAnyT_one {i k : Nat} {o : Oper} {fuel : Nat} {listed : Array Bool} {a : Act} {w : World} (hr : Region.ready md ops listed = [i]) (ho : ops[i]? = some o)
 (h : ∀ K' : Act → World → Prop, Shut (∀ a w, (i = k ∨ S w) → wpAnyT P md ops Q S k fuel (listed.setIfInBounds i true) a w → K' a w) → if Region.wanted o (yielded ops a.tmps) = true then Oper.wp P o a w K' Q else K' (a.put o.dst undef) w) : wpAnyT P md ops Q S k (fuel + 1) listed a w :=
 ⟨fun h0 => (by rw [hr] at h0; cases h0), fun j hj => by
  rw [hr] at hj
  obtain rfl : j = i := by simpa using hj
  exact wpOp_step ho (fun K' hK => h K' (fun a w hS hW => hK a w ⟨hS, hW⟩))⟩
theorem wpAnyT_done {k : Nat} {listed : Array Bool} {a : Act} {w : World} (hr : Region.ready md ops listed = []) (h : Q .normal a w) :
 ∀ fuel, wpAnyT P md ops Q S k fuel listed a w
 | 0 => ⟨hr, h⟩
 | _ + 1 => ⟨fun _ => h, by rw [hr]; simp⟩
theorem wp_region_T {id k : Nat} {a : Act} {w : World} (hm : P.follows .mixedOrders = true)
 (h : wpAnyT P .any ops Q S k ops.size (Array.replicate ops.size false) a w.drew) : (Code.region id ops true).wp P Q a w :=
 wp_region_any hm (wpAny_of_T k _ _ _ _ h)
end
end Nm
end Go.Proofs.YtjghnghceeijeaaGreatDoor
