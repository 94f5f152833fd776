/-
  Contracts of the walks below.
-/
import Derived.Test.YtjghnghceeijeaaGreatDoorDb15
set_option maxRecDepth 100000
set_option maxHeartbeats 4000000
set_option linter.unusedVariables false
set_option linter.unusedSimpArgs false
namespace Go.Proofs.YtjghnghceeijeaaGreatDoor
namespace Nm
open Go.RowKit Go.Shelf Go.BigFrame
attribute [local go_sem] Oper.semAt_some
def RetZF (z : Int) (w : World) (e : Ending) (w' : World) : Prop :=
 ∃ s A c l, e = .returned (iv s A l.length c) ∧ IsZ s l z ∧ l.length ≤ c ∧ Rd w' A l ∧ Below w.heap.size w w' ∧ ∀ b o, A = some ⟨b, o, none⟩ → 0 < l.length → w.heap.size ≤ b
theorem made_fresh (neg : Bool) (A : Option Addr) (c : Nat) (l : List Nat) (w : World) (hA : Rd w A l) (hl : l.length ≤ c) :
 Calls Tryz.prog 118 #[.bool neg, .slice A l.length c] w (RetZF (if neg then -(val l : Int) else val l) w) := by
 have hfin := fun k hk ht => made_fin (neg := neg) (k := k) (l := l) hk ht
 generalize (if neg = true then -(val l : Int) else (val l : Int)) = z at *
 have hs := hA.small
 have hb : ∀ o, Below w.heap.size w (w.alloc o) := fun o => (Below.refl _ _).alloc (Nat.le_refl _) _
 obtain ⟨i0, hi, hz0, hz1, hz2⟩ := info_parts info_u32
 have hbt : Tryz.prog.underlying 22 = some (.slice 127) := by kernel_rfl
 obtain ⟨W, hW⟩ : ∃ W, w.alloc (.cells #[.bool false, .slice none 0 0] 24) = W := ⟨_, rfl⟩
 have hrw : Rd W A l := by rw [← hW]; exact hA.on (hb _)
 have hbk : Blk W w.heap.size #[.bool false, .slice none 0 0] 24 := ⟨by rw [← hW]; exact World.alloc_heap_new w _⟩
 have hbw : Below w.heap.size w W := by rw [← hW]; exact hb _
 have hsz : W.heap.size = w.heap.size + 1 := by rw [← hW]; simp
 have hbW : ∀ o, Below W.heap.size W (W.alloc o) := fun o => (Below.refl _ _).alloc (Nat.le_refl _) _
 go_enter Tryz.func118, Tryz.ntmps118
 have Hsz := Lib.hid hsz
 clear hsz
 go_wp2
 clear hW
 go_loop [5] (fun n => ∃ k : Nat, k ≤ l.length ∧ n = .int .i64 k ∧ Hid (∀ i, k ≤ i → l.getD i 0 = 0)) (fun n => (intOf n).toNat)
 case atStart => exact ⟨l.length, Nat.le_refl _, rfl, fun i hi => by rw [List.getD_eq_getElem?_getD, List.getElem?_eq_none (by omega)]; rfl⟩
 case round =>
  obtain ⟨k, hk, rfl, hz⟩ := hrel
  by_cases h0 : 0 < k
  · obtain ⟨b, o, x, rfl, hc, hx, hxb⟩ := hrw.get (k - 1) (by omega)
    by_cases hx0 : x = 0
    · subst hx0
      go_wp2
      go_round
      case rel => 
       refine ⟨k - 1, by omega, by go_num, fun i hi => ?_⟩
       by_cases e : i = k - 1
       · rw [e]; exact hx.out
       · exact hz.out i (by omega)
      case measure => simp [intOf]; omega
    · have hx1 : ((x : Int) == 0) = false := by simp; omega
      have htr := trim_eq_take hrw.words hk hz.out (.inr (by rw [hx.out]; exact hx0))
      have hf := hfin k hk htr
      have hlk : (l.take k).length = k := by rw [List.length_take]; omega
      have hown0 := own_empty (W.alloc (.cells #[] 127)) W.heap.size W.heap.size (World.alloc_heap_new W _) (Nat.le_refl _)
      have hlk0 : ((0 : Int) < (k : Int)) ↔ True := by rw [iff_true]; omega
      have hnw : ∀ j u, (wvals (l.take k))[j]? = some u → (W.alloc (.cells #[] 127)).cell? ((⟨b, o, none⟩ : Addr).add j) = some u := rd_news' ((hrw.take k).on (hbW _))
      have hwt := words_take hrw.words k
      have hwl : (wvals (l.take k)).length = k * 1 := by simp [wvals]; omega
      have Hwl := Lib.hid hwl
      have Hlk := Lib.hid hlk
      have Hf := Lib.hid hf
      rw [decide_eq_true (show (0 : Int) < (k : Int) by omega)] at hf
      clear hwl hlk hx0
      cases neg
      all_goals
       go_wp2_with first
        | (at_builtin; (refine wpList_append_own2 _ rfl _ _ 22 22 rfl W.heap.size 127 127 i0 (.int .u32 0) 1 4 hbt hbt hi hz0 hz1 hz2 rfl (by decide) _ _ _ rfl hown0 ⟨b, o, none⟩ k c (wvals (l.take k)) rfl Hwl.out hnw (wvals_one _) (by unfold maxLen; omega) (by omega) (by simp) ?_); intro v' w4 hown' hg4 _; obtain ⟨A', c', hv', hn', hc', hrd', hab⟩ := own_rd (l := l.take k) hown' hwt (by omega); subst hv'; have hb4 : Below W.heap.size W w4 := (hbW _).grown hg4 (by simp) (fun j e => by cases e; exact Nat.le_refl _); have hq := hbk.on hb4; obtain ⟨x0, x1⟩ := cL2 hq.h; obtain ⟨y0, y1⟩ := fZ2 hq.h)
       refine ret_cell rfl rfl rfl (set_blk (set_blk hq.h 0 _) 1 _) ⟨_, A', c', l.take k, ?_, hf, ?_, rd_sets hrd' hq _ _, ((hbw.trans (hb4.mono hbw.size)).setCell (Nat.le_refl _) _).setCell (Nat.le_refl _) _, fun b o e _ => by have := hab b o e; have := Hsz.out; omega⟩
       · rw [Hlk.out]; simp
       · rw [Hlk.out]; omega
  · obtain rfl : k = 0 := by omega
    have hf := hfin 0 hk (trim_eq_take hrw.words hk hz.out (.inl rfl))
    rw [List.take_zero] at hf
    have hx0 : ∀ o, (W.alloc o).cell? ⟨w.heap.size, 0, none⟩ = some (.bool false) := fun o => cell_at (hbk.on (hbW o)).h 0 _ rfl
    have hx1 : ∀ o, (W.alloc o).cell? ⟨w.heap.size, 1, none⟩ = some (.slice none 0 0) := fun o => cell_at (hbk.on (hbW o)).h 1 _ rfl
    have hy0 : ∀ o, (W.alloc o).frozen? ⟨w.heap.size, 0, none⟩ = false := fun o => frozen_at (hbk.on (hbW o)).h 0
    have hy1 : ∀ o, (W.alloc o).frozen? ⟨w.heap.size, 1, none⟩ = false := fun o => frozen_at (hbk.on (hbW o)).h 1
    cases A <;> cases neg
    all_goals
     go_wp2
     refine ret_cell rfl rfl rfl (set_blk (set_blk (hbk.on (hbW _)).h 0 _) 1 _) ⟨_, _, _, [], rfl, hf, Nat.zero_le _, Rd.nil _ _, ((hbw.trans ((hbW _).mono hbw.size)).setCell (Nat.le_refl _) _).setCell (Nat.le_refl _) _, fun b o e h => absurd h (by simp)⟩
set_option maxHeartbeats 8000000 in
theorem split_one (A1 A2 : Option Addr) (c1 c2 y : Nat) (l1 l2 : List Nat) (w : World) (h1 : Rd w A1 l1) (h2 : Rd w A2 l2) (hc1 : l1.length ≤ c1) (hc2 : l2.length ≤ c2) (hl2 : l2 = [y]) (hy : 0 < y) (hs1 : l1.length ≤ 65536) :
 Calls Tryz.prog 181 #[.slice A1 l1.length c1, .slice A2 l2.length c2] w (RetQR ((val l1 / y : Nat) : Int) ((val l1 % y : Nat) : Int) w) := by
 subst hl2
 have hyb : y < 4294967296 := h2.words y (by simp)
 obtain ⟨W1, hW1⟩ : ∃ W1, w.alloc (.cells #[.bool false, .slice none 0 0, .bool false, .slice none 0 0] 111) = W1 := ⟨_, rfl⟩
 have hb1 : Below w.heap.size w W1 := by rw [← hW1]; exact (Below.refl _ w).alloc (Nat.le_refl _) _
 have hR : Blk W1 w.heap.size #[.bool false, .slice none 0 0, .bool false, .slice none 0 0] 111 := ⟨by rw [← hW1]; exact World.alloc_heap_new w _⟩
 have r2 := h2.on hb1
 obtain ⟨b, o, y', rfl, hcy, hy', _⟩ := r2.get 0 (by simp)
 obtain rfl : y' = y := by have := hy'.out; simpa using this.symm
 have hsh := short_calls A1 c1 y' l1 W1 (h1.on hb1) hc1 hy hyb (by omega)
 obtain ⟨Q, hQ⟩ : ∃ Q : Int, ((val l1 / y' : Nat) : Int) = Q := ⟨_, rfl⟩
 obtain ⟨R, hRr⟩ : ∃ R : Int, ((val l1 % y' : Nat) : Int) = R := ⟨_, rfl⟩
 rw [hQ, hRr] at hsh
 rw [hQ, hRr]
 clear hQ hRr
 rw [Nat.add_zero] at hcy
 go_enter Tryz.func181, Tryz.ntmps181
 go_wp2_with (go_at_call 182; refine hsh.mono ?_; rintro e w3 ⟨s3, A3, c3, l3, s4, A4, c4, l4, rfl, z3, z4, n3, n4, f3, f4, b3⟩; have hq := hR.on b3; obtain ⟨e0, e1, e2, e3⟩ := cL4 hq.h; obtain ⟨u0, u1, u2, u3⟩ := fZ4 hq.h)
 have nw1 := f3.ne hq.h (by intro i x h; rcases i with _ | _ | _ | _ | i <;> simp at h)
 have nw2 := f4.ne hq.h (by intro i x h; rcases i with _ | _ | _ | _ | i <;> simp at h)
 have bw := hb1.trans (b3.mono hb1.size)
 exact ret_cellS rfl Tryz.underlying111 parts_size rfl rfl (set4 hq.h _ _ _ _) rfl ⟨s3, A3, c3, l3, s4, A4, c4, l4, rfl, z3, z4, n3, n4, (((f3.setNe nw1).setNe nw1).setNe nw1).setNe nw1, (((f4.setNe nw2).setNe nw2).setNe nw2).setNe nw2, (((bw.setCell (Nat.le_refl _) _).setCell (Nat.le_refl _) _).setCell (Nat.le_refl _) _).setCell (Nat.le_refl _) _⟩
theorem arr_on {w W : World} {g : Nat} {l : List Nat} (h : Arr w g l) (hb : Below w.heap.size w W) : Arr W g l := arr_below h hb (arr_lt h)
set_option maxHeartbeats 16000000 in
theorem split_many (A1 A2 : Option Addr) (c1 c2 : Nat) (l1 l2 : List Nat) (w : World) (h1 : Rd w A1 l1) (h2 : Rd w A2 l2) (hc1 : l1.length ≤ c1) (hc2 : l2.length ≤ c2) (k2 : Canon l2) (hp : 0 < val l2) (hne : l2.length ≠ 1) (hs1 : l1.length ≤ 65536) (hs2 : l2.length ≤ 65536) :
 Calls Tryz.prog 181 #[.slice A1 l1.length c1, .slice A2 l2.length c2] w (RetQR ((val l1 / val l2 : Nat) : Int) ((val l1 % val l2 : Nat) : Int) w) := by
 have hnb : (l2.length == 1) = false := by rw [beq_eq_false_iff_ne]; exact hne
 have hni : ((l2.length : Int) == 1) = false := by rw [beq_eq_false_iff_ne]; omega
 obtain ⟨W1, hW1⟩ : ∃ W1, w.alloc (.cells #[.bool false, .slice none 0 0, .bool false, .slice none 0 0] 111) = W1 := ⟨_, rfl⟩
 have hb1 : Below w.heap.size w W1 := by rw [← hW1]; exact (Below.refl _ w).alloc (Nat.le_refl _) _
 have hR : Blk W1 w.heap.size #[.bool false, .slice none 0 0, .bool false, .slice none 0 0] 111 := ⟨by rw [← hW1]; exact World.alloc_heap_new w _⟩
 have hmk := make_u32 (l1.length : Int) (l1.length : Int) l1.length l1.length rfl rfl (by omega) (by omega) W1
 obtain ⟨g, hg⟩ : ∃ g, W1.heap.size = g := ⟨_, rfl⟩
 have hgs : g = w.heap.size + 1 := by rw [← hg, ← hW1]; simp
 have Hgs := Lib.hid hgs
 have Hg := Lib.hid hg
 have r1 := h1.on hb1
 have r2 := h2.on hb1
 obtain ⟨N, hN⟩ : ∃ N, 32 * l1.length = N := ⟨_, rfl⟩
 have hNi : (32 : Int) * (l1.length : Int) = (N : Int) := by omega
 have hN2 : N ≤ 2097152 := by omega
 have HN := Lib.hid hN
 have hlt : val l1 < 2 ^ N := by have := val_lt h1.words; rwa [pow_BB, hN] at this
 have Hlt := Lib.hid hlt
 have HE := Lib.hid (lim_val k2)
 obtain ⟨a, ha⟩ : ∃ a, val l1 = a := ⟨_, rfl⟩
 obtain ⟨b, hb⟩ : ∃ b, val l2 = b := ⟨_, rfl⟩
 have Ha := Lib.hid ha
 have Hb := Lib.hid hb
 rw [ha] at Hlt
 rw [hb] at hp HE
 rw [ha, hb]
 have hb4 : Below W1.heap.size W1 (W1.alloc (.cells (warr (List.replicate l1.length 0)) 127)) := (Below.refl _ _).alloc (Nat.le_refl _) _
 have har : Arr (W1.alloc (.cells (warr (List.replicate l1.length 0)) 127)) g (List.replicate l1.length 0) := by rw [← hg]; exact arr_new _ _
 obtain ⟨Qf, hQf⟩ : ∃ Q, a / b = Q := ⟨_, rfl⟩
 obtain ⟨Rf, hRf⟩ : ∃ Q, a % b = Q := ⟨_, rfl⟩
 have HQf := Lib.hid hQf
 have HRf := Lib.hid hRf
 rw [hQf, hRf]
 clear hgs hN hlt ha hb hQf hRf hne
 go_enter Tryz.func181, Tryz.ntmps181
 go_wp2_with fail
 clear hW1 hmk hg
 generalize (W1.alloc (.cells (warr (List.replicate l1.length 0)) 127)) = W2 at *
 go_loopw [6, 7] (fun r i W => ∃ (k ρ : Nat) (qs : List Nat) (A : Option Addr) (c : Nat), i = .int .i64 ((k : Int) - 1) ∧ r = .slice A (lim ρ).length c ∧ (lim ρ).length ≤ c ∧ Rd W A (lim ρ) ∧ ρ < b ∧ k ≤ N ∧ Hid (qs.length = l1.length) ∧ Words qs ∧ Arr W g qs ∧ Below W1.heap.size W1 W ∧ Hid (val qs = 2 ^ k * (a / 2 ^ k / b)) ∧ Hid (a / 2 ^ k % b = ρ)) (fun _ i _ => (intOf i + 1).toNat)
 case atStart =>
  have hz : a / 2 ^ N = 0 := Nat.div_eq_of_lt Hlt.out
  refine ⟨N, 0, List.replicate l1.length 0, none, 0, rfl, ?_, ?_, ?_, hp, Nat.le_refl _, by show _ = _; simp, words_replicate _, har, hb4, ?_, ?_⟩
  · rw [lim_zero]; rfl
  · rw [lim_zero]; exact Nat.le_refl _
  · rw [lim_zero]; exact Rd.nil _ _
  · show _ = _; rw [hz, val_replicate]; simp
  · show _ = _; rw [hz]; simp
 case round =>
  clear har hb4
  obtain ⟨k, ρ, qs, A, c, rfl, rfl, hcl, hrd, hρ, hkN, hql, hqw, harr, hbl, hqv, hρv⟩ := hrel
  have hlρ : (lim ρ).length ≤ 65536 := Nat.le_trans (length_mono (Nat.le_of_lt hρ)) (by rw [HE.out]; exact hs2)
  by_cases h0 : 0 < k
  · obtain ⟨k, rfl⟩ : ∃ j, k = j + 1 := ⟨k - 1, by omega⟩
    rw [show ((k + 1 : Nat) : Int) - 1 = (k : Int) by omega]
    obtain ⟨d, hd, hd2⟩ : ∃ d, a / 2 ^ k % 2 = d ∧ d < 2 := ⟨_, rfl, Nat.mod_lt _ (by decide)⟩
    have hst := split_step hp hd hρv.out
    have hsum := sum_calls A A c c (lim ρ) (lim ρ) wr hrd hrd hcl hcl (by omega) (by omega) (canon_lim _) (canon_lim _)
    rw [val_lim] at hsum
    have hbit : ∀ W, Below W1.heap.size W1 W → Calls Tryz.prog 216 #[.slice A1 l1.length c1, .int .i64 (k : Int)] W fun e w' => e = .returned (.int .u32 (d : Int)) ∧ Below W.heap.size W w' := fun W hW => (bit_calls A1 c1 k l1 W (r1.on hW) hc1 (by have := HN.out; omega) (by omega)).mono fun e w' h => by
     rw [Ha.out, hd] at h
     exact ⟨h.1, by rw [h.2]; exact below_drew (Below.refl _ _)⟩
    obtain ⟨S0, hS0⟩ : ∃ S0, ρ + ρ = S0 := ⟨_, rfl⟩
    rw [hS0] at hsum hst
    have hS0b : S0 < b + b := by omega
    have hbl2 : b < BB ^ l2.length := by rw [← Hb.out]; exact val_lt h2.words
    have hTl : ∀ T, T < b + b + 2 → (lim T).length ≤ 65537 := fun T hT => by
     have e : BB ^ l2.length * 4 ≤ BB ^ l2.length * BB := Nat.mul_le_mul_left _ (by decide)
     exact len_of_words (j := l2.length + 1) (by rw [Nat.pow_succ]; omega) (by omega)
    have Hst := Lib.hid hst
    have Hd := Lib.hid hd
    have HTl := Lib.hid hTl
    obtain ⟨j, j1, j2, j3⟩ : ∃ j : Nat, (k : Int) / 32 = (j : Int) ∧ Hid (j = k / 32) ∧ j < l1.length := ⟨k / 32, by omega, rfl, by have := HN.out; omega⟩
    obtain ⟨i, i1, i2, i3⟩ : ∃ i : Nat, (k : Int) % 32 = (i : Int) ∧ Hid (i = k % 32) ∧ i < 32 := ⟨k % 32, by omega, rfl, by omega⟩
    have j4 : (k : Int).tdiv 32 = (j : Int) := by rw [Int.tdiv_eq_ediv_of_nonneg (by omega)]; exact j1
    have i4 : (k : Int).tmod 32 = (i : Int) := by rw [Int.tmod_eq_emod_of_nonneg (by omega)]; exact i1
    obtain ⟨x, hx, hxb⟩ : ∃ x, Hid (qs.getD j 0 = x) ∧ x < 4294967296 := ⟨_, rfl, words_getD hqw j⟩
    have hjq : j < qs.length := by rw [hql.out]; exact j3
    have hroom := word_room hqw j2.out i2.out hjq hx.out hqv.out
    have hp2 : 2 ^ i < 4294967296 := Nat.lt_of_lt_of_le (Nat.pow_lt_pow_right (by decide) i3) (by decide)
    obtain ⟨P, hP⟩ : ∃ P : Nat, 2 ^ i = P := ⟨_, rfl⟩
    have hPz : ((2 : Int) ^ i) = (P : Int) := by rw [← hP]; simp
    rw [hP] at hp2 hroom
    have p1 : (2 : Int) ^ i % 4294967296 = (P : Int) := by rw [hPz]; omega
    obtain ⟨u, u1, u2, u3⟩ : ∃ u : Nat, (x : Int) + (P : Int) = (u : Int) ∧ Hid (u = x + P) ∧ u < 4294967296 := ⟨x + P, by omega, rfl, hroom⟩
    have hset : Hid (val (qs.set j u) = val qs + 2 ^ k) := by
     show _ = _
     rw [u2.out, val_set hjq hx.out, ← hP]
     congr 1
     rw [show BB = 2 ^ 32 from rfl, ← Nat.pow_mul, ← Nat.pow_add]
     congr 1
     have := j2.out; have := i2.out; omega
    have HS0 := Lib.hid hS0
    clear hst hd hTl hS0 hbl2 hP hPz hp2 hroom
    rcases (show d = 0 ∨ d = 1 by omega) with rfl | rfl
    · by_cases hge : b ≤ S0
      · -- d = 0, subtract
        have hTb : S0 < b + b + 2 := by omega
        have lT := HTl.out S0 hTb
        have hlg : ∀ W A c, Below W1.heap.size W1 W → Rd W A (lim S0) → (lim S0).length ≤ c → Calls Tryz.prog 123 #[.slice A (lim S0).length c, .slice A2 l2.length c2] W fun e w' => e = .returned (.int .i64 (cmpZ (S0 : Int) (b : Int))) ∧ Below W.heap.size W w' := fun W A c hW hr hc => (larger_calls A A2 c c2 (lim S0) l2 W hr (r2.on hW) hc hc2 (canon_lim _) k2).mono fun e w' h => by
         rw [val_lim, Hb.out] at h
         obtain ⟨h1, n, rfl⟩ := h
         exact ⟨h1, below_drewN (Below.refl _ _) _⟩
        have hcz : (0 : Int) ≤ cmpZ (S0 : Int) (b : Int) := by unfold cmpZ; split <;> (try split) <;> omega
        generalize cmpZ (S0 : Int) (b : Int) = cz at *
        have hls : ∀ W A c, Below W1.heap.size W1 W → Rd W A (lim S0) → (lim S0).length ≤ c → Calls Tryz.prog 124 #[.slice A (lim S0).length c, .slice A2 l2.length c2] W (RetL (S0 - b) (lim S0).length W) := fun W A c hW hr hc => by
         have := less_calls A A2 c c2 (lim S0) l2 W hr (r2.on hW) hc hc2 (by omega) (by have := length_mono hge; rwa [HE.out] at this) (by rw [val_lim, Hb.out]; exact hge)
         rwa [val_lim, Hb.out] at this
        have Hge := Lib.hid hge
        clear hge
        go_wp2_with first
         | (go_at_call_of 122 (Value.slice A (lim ρ).length c); refine hsum.mono ?_; rintro e w3 ⟨A3, c3, rfl, n3, f3, b3⟩; have bb3 := hbl.trans (b3.mono hbl.size))
         | (go_at_call 216; refine (hbit _ bb3).mono ?_; rintro e w4 ⟨rfl, b4⟩; have b34 := b3.trans (b4.mono b3.size); have bb4 := bb3.trans (b4.mono bb3.size); have f4 := f3.on b4)
         | (go_at_call 123; refine (hlg _ A3 c3 bb4 f4 n3).mono ?_; rintro e w6 ⟨rfl, b6⟩; have fT := f4.on b6; have bbT := bb4.trans (b6.mono bb4.size); have b36 := b34.trans (b6.mono b34.size))
         | (go_at_call 124; refine (hls _ A3 c3 bbT fT n3).mono ?_; rintro e w7 ⟨A7, c7, l7, rfl, v7, -, n7, f7, b7⟩; have bb7 := bbT.trans (b7.mono bbT.size); have V7 := Lib.hid v7; clear v7)
         | (go_at_call 118; refine (made_fresh false A7 c7 l7 _ f7 n7).mono ?_; rintro e w8 ⟨s8, A8, c8, l8, rfl, z8, n8, f8, b8, fr8⟩; have tg7 := arr_lt (arr_on harr (b36.trans (b7.mono b36.size))); have bb8 := bb7.trans (b8.mono bb7.size); have b89 := (Below.refl _ w8).alloc (Nat.le_refl _) (.cells #[.bool s8, .slice A8 l8.length c8] 24); have bb9 := bb8.trans (b89.mono bb8.size); have f9 := f8.on b89; have ar9 := (arr_on harr (b36.trans (((b7.trans (b8.mono b7.size)).trans (b89.mono (Nat.le_trans b7.size b8.size))).mono b36.size))); have g9 := arr_cell ar9 j hjq; rw [hx.out] at g9; have fz9 := arr_frozen ar9 j; have tg9 := arr_lt ar9)
        go_region
        go_wp2_with fail
        have hq := Hst.out.1 (by have := Hge.out; omega)
        have hl8 : l8 = lim (S0 - b) := by
         have := z8.abs
         rw [V7.out] at this
         simpa using this
        refine ⟨⟨k, S0 - b, qs.set j u, A8, c8, rfl, by rw [← hl8], by rw [← hl8]; exact n8, ?_, by have := Hge.out; have := HS0.out; omega, by omega, ?_, words_set hqw _ _ u3, ?_, below_drew (bb9.setCell (by have := Hg.out; dsimp only; omega) _), ?_, ?_⟩, by simp only [intOf]; omega⟩
        · rw [← hl8]
          exact (f9.setNe (fun bq oq e h => by have := fr8 bq oq e h; omega)).on (below_drew (Below.refl _ _))
        · show _ = _; rw [List.length_set]; exact hql.out
        · exact arr_set ar9 j u
        · show _ = _; rw [hset.out, hq.2, hqv.out, Nat.pow_succ]; rw [Nat.mul_add, Nat.mul_one, Nat.mul_assoc]
        · show _ = _; rw [hq.1, Nat.add_zero]
      · -- d = 0, keep
        have hTb : S0 < b + b + 2 := by omega
        have lT := HTl.out S0 hTb
        have hlg : ∀ W A c, Below W1.heap.size W1 W → Rd W A (lim S0) → (lim S0).length ≤ c → Calls Tryz.prog 123 #[.slice A (lim S0).length c, .slice A2 l2.length c2] W fun e w' => e = .returned (.int .i64 (cmpZ (S0 : Int) (b : Int))) ∧ Below W.heap.size W w' := fun W A c hW hr hc => (larger_calls A A2 c c2 (lim S0) l2 W hr (r2.on hW) hc hc2 (canon_lim _) k2).mono fun e w' h => by
         rw [val_lim, Hb.out] at h
         obtain ⟨h1, n, rfl⟩ := h
         exact ⟨h1, below_drewN (Below.refl _ _) _⟩
        have hcz : ¬ (0 : Int) ≤ cmpZ (S0 : Int) (b : Int) := by unfold cmpZ; rw [if_pos (by omega)]; decide
        generalize cmpZ (S0 : Int) (b : Int) = cz at *
        have Hge := Lib.hid hge
        clear hge
        go_wp2_with first
         | (go_at_call_of 122 (Value.slice A (lim ρ).length c); refine hsum.mono ?_; rintro e w3 ⟨A3, c3, rfl, n3, f3, b3⟩; have bb3 := hbl.trans (b3.mono hbl.size))
         | (go_at_call 216; refine (hbit _ bb3).mono ?_; rintro e w4 ⟨rfl, b4⟩; have b34 := b3.trans (b4.mono b3.size); have bb4 := bb3.trans (b4.mono bb3.size); have f4 := f3.on b4)
         | (go_at_call 123; refine (hlg _ A3 c3 bb4 f4 n3).mono ?_; rintro e w6 ⟨rfl, b6⟩; have fT := f4.on b6; have bbT := bb4.trans (b6.mono bb4.size); have b36 := b34.trans (b6.mono b34.size))
        have hq := Hst.out.2 (by have := Hge.out; omega)
        refine ⟨⟨k, S0, qs, A3, c3, rfl, rfl, n3, fT, by have := Hge.out; omega, by omega, hql, hqw, arr_on harr b36, bbT, ?_, ?_⟩, by simp only [intOf]; omega⟩
        · show _ = _; rw [hq.2, hqv.out, Nat.pow_succ, Nat.mul_assoc]
        · show _ = _; rw [hq.1, Nat.add_zero]
    · by_cases hge : b ≤ S0 + 1
      · -- d = 1, subtract
        obtain ⟨T, hT⟩ : ∃ T, S0 + 1 = T := ⟨_, rfl⟩
        have hsum2 : ∀ W A c g', Rd W A (lim S0) → (lim S0).length ≤ c → Rd W (some ⟨g', 0, none⟩) [1] → Calls Tryz.prog 122 #[.slice A (lim S0).length c, .slice (some ⟨g', 0, none⟩) 1 1] W (RetNat T W) := fun W A c g' hr hc hg => by
         have := sum_calls A (some ⟨g', 0, none⟩) c 1 (lim S0) [1] W hr hg hc (Nat.le_refl _) (by have := HTl.out S0 (by omega); omega) (by simp) (canon_lim _) (by rw [← one_word (n := 1) (by decide) (by decide)]; exact canon_lim _)
         rwa [val_lim, show val [1] = 1 from rfl, hT] at this
        have hTb : T < b + b + 2 := by omega
        rw [hT] at hge
        have HT := Lib.hid hT
        clear hT
        have lT := HTl.out T hTb
        have hlg : ∀ W A c, Below W1.heap.size W1 W → Rd W A (lim T) → (lim T).length ≤ c → Calls Tryz.prog 123 #[.slice A (lim T).length c, .slice A2 l2.length c2] W fun e w' => e = .returned (.int .i64 (cmpZ (T : Int) (b : Int))) ∧ Below W.heap.size W w' := fun W A c hW hr hc => (larger_calls A A2 c c2 (lim T) l2 W hr (r2.on hW) hc hc2 (canon_lim _) k2).mono fun e w' h => by
         rw [val_lim, Hb.out] at h
         obtain ⟨h1, n, rfl⟩ := h
         exact ⟨h1, below_drewN (Below.refl _ _) _⟩
        have hcz : (0 : Int) ≤ cmpZ (T : Int) (b : Int) := by unfold cmpZ; split <;> (try split) <;> omega
        generalize cmpZ (T : Int) (b : Int) = cz at *
        have hls : ∀ W A c, Below W1.heap.size W1 W → Rd W A (lim T) → (lim T).length ≤ c → Calls Tryz.prog 124 #[.slice A (lim T).length c, .slice A2 l2.length c2] W (RetL (T - b) (lim T).length W) := fun W A c hW hr hc => by
         have := less_calls A A2 c c2 (lim T) l2 W hr (r2.on hW) hc hc2 (by omega) (by have := length_mono hge; rwa [HE.out] at this) (by rw [val_lim, Hb.out]; exact hge)
         rwa [val_lim, Hb.out] at this
        have Hge := Lib.hid hge
        clear hge
        go_wp2_with first
         | (go_at_call 122; refine (hsum2 _ A3 c3 _ (f4.on ((Below.refl _ w4).alloc (Nat.le_refl _) _)) n3 (rd_one w4)).mono ?_; rintro e w5 ⟨A5, c5, rfl, n5, f5, b5⟩; have b45 := ((Below.refl _ w4).alloc (Nat.le_refl _) (.cells #[.int .u32 1] 127)).trans (b5.mono (by simp)); have b35 := b34.trans (b45.mono b34.size); have bb5 := bb4.trans (b45.mono bb4.size))
         | (go_at_call_of 122 (Value.slice A (lim ρ).length c); refine hsum.mono ?_; rintro e w3 ⟨A3, c3, rfl, n3, f3, b3⟩; have bb3 := hbl.trans (b3.mono hbl.size))
         | (go_at_call 216; refine (hbit _ bb3).mono ?_; rintro e w4 ⟨rfl, b4⟩; have b34 := b3.trans (b4.mono b3.size); have bb4 := bb3.trans (b4.mono bb3.size); have f4 := f3.on b4)
         | (go_at_call 123; refine (hlg _ A5 c5 bb5 f5 n5).mono ?_; rintro e w6 ⟨rfl, b6⟩; have fT := f5.on b6; have bbT := bb5.trans (b6.mono bb5.size); have b36 := b35.trans (b6.mono b35.size))
         | (go_at_call 124; refine (hls _ A5 c5 bbT fT n5).mono ?_; rintro e w7 ⟨A7, c7, l7, rfl, v7, -, n7, f7, b7⟩; have bb7 := bbT.trans (b7.mono bbT.size); have V7 := Lib.hid v7; clear v7)
         | (go_at_call 118; refine (made_fresh false A7 c7 l7 _ f7 n7).mono ?_; rintro e w8 ⟨s8, A8, c8, l8, rfl, z8, n8, f8, b8, fr8⟩; have tg7 := arr_lt (arr_on harr (b36.trans (b7.mono b36.size))); have bb8 := bb7.trans (b8.mono bb7.size); have b89 := (Below.refl _ w8).alloc (Nat.le_refl _) (.cells #[.bool s8, .slice A8 l8.length c8] 24); have bb9 := bb8.trans (b89.mono bb8.size); have f9 := f8.on b89; have ar9 := (arr_on harr (b36.trans (((b7.trans (b8.mono b7.size)).trans (b89.mono (Nat.le_trans b7.size b8.size))).mono b36.size))); have g9 := arr_cell ar9 j hjq; rw [hx.out] at g9; have fz9 := arr_frozen ar9 j; have tg9 := arr_lt ar9)
        go_region
        go_wp2_with fail
        have hq := Hst.out.1 (by have := Hge.out; have := HT.out; omega)
        have hl8 : l8 = lim (T - b) := by
         have := z8.abs
         rw [V7.out] at this
         simpa using this
        refine ⟨⟨k, T - b, qs.set j u, A8, c8, rfl, by rw [← hl8], by rw [← hl8]; exact n8, ?_, by have := Hge.out; have := HT.out; have := HS0.out; omega, by omega, ?_, words_set hqw _ _ u3, ?_, below_drew (bb9.setCell (by have := Hg.out; dsimp only; omega) _), ?_, ?_⟩, by simp only [intOf]; omega⟩
        · rw [← hl8]
          exact (f9.setNe (fun bq oq e h => by have := fr8 bq oq e h; omega)).on (below_drew (Below.refl _ _))
        · show _ = _; rw [List.length_set]; exact hql.out
        · exact arr_set ar9 j u
        · show _ = _; rw [hset.out, hq.2, hqv.out, Nat.pow_succ]; rw [Nat.mul_add, Nat.mul_one, Nat.mul_assoc]
        · show _ = _; rw [hq.1, HT.out]
      · -- d = 1, keep
        obtain ⟨T, hT⟩ : ∃ T, S0 + 1 = T := ⟨_, rfl⟩
        have hsum2 : ∀ W A c g', Rd W A (lim S0) → (lim S0).length ≤ c → Rd W (some ⟨g', 0, none⟩) [1] → Calls Tryz.prog 122 #[.slice A (lim S0).length c, .slice (some ⟨g', 0, none⟩) 1 1] W (RetNat T W) := fun W A c g' hr hc hg => by
         have := sum_calls A (some ⟨g', 0, none⟩) c 1 (lim S0) [1] W hr hg hc (Nat.le_refl _) (by have := HTl.out S0 (by omega); omega) (by simp) (canon_lim _) (by rw [← one_word (n := 1) (by decide) (by decide)]; exact canon_lim _)
         rwa [val_lim, show val [1] = 1 from rfl, hT] at this
        have hTb : T < b + b + 2 := by omega
        rw [hT] at hge
        have HT := Lib.hid hT
        clear hT
        have lT := HTl.out T hTb
        have hlg : ∀ W A c, Below W1.heap.size W1 W → Rd W A (lim T) → (lim T).length ≤ c → Calls Tryz.prog 123 #[.slice A (lim T).length c, .slice A2 l2.length c2] W fun e w' => e = .returned (.int .i64 (cmpZ (T : Int) (b : Int))) ∧ Below W.heap.size W w' := fun W A c hW hr hc => (larger_calls A A2 c c2 (lim T) l2 W hr (r2.on hW) hc hc2 (canon_lim _) k2).mono fun e w' h => by
         rw [val_lim, Hb.out] at h
         obtain ⟨h1, n, rfl⟩ := h
         exact ⟨h1, below_drewN (Below.refl _ _) _⟩
        have hcz : ¬ (0 : Int) ≤ cmpZ (T : Int) (b : Int) := by unfold cmpZ; rw [if_pos (by omega)]; decide
        generalize cmpZ (T : Int) (b : Int) = cz at *
        have Hge := Lib.hid hge
        clear hge
        go_wp2_with first
         | (go_at_call 122; refine (hsum2 _ A3 c3 _ (f4.on ((Below.refl _ w4).alloc (Nat.le_refl _) _)) n3 (rd_one w4)).mono ?_; rintro e w5 ⟨A5, c5, rfl, n5, f5, b5⟩; have b45 := ((Below.refl _ w4).alloc (Nat.le_refl _) (.cells #[.int .u32 1] 127)).trans (b5.mono (by simp)); have b35 := b34.trans (b45.mono b34.size); have bb5 := bb4.trans (b45.mono bb4.size))
         | (go_at_call_of 122 (Value.slice A (lim ρ).length c); refine hsum.mono ?_; rintro e w3 ⟨A3, c3, rfl, n3, f3, b3⟩; have bb3 := hbl.trans (b3.mono hbl.size))
         | (go_at_call 216; refine (hbit _ bb3).mono ?_; rintro e w4 ⟨rfl, b4⟩; have b34 := b3.trans (b4.mono b3.size); have bb4 := bb3.trans (b4.mono bb3.size); have f4 := f3.on b4)
         | (go_at_call 123; refine (hlg _ A5 c5 bb5 f5 n5).mono ?_; rintro e w6 ⟨rfl, b6⟩; have fT := f5.on b6; have bbT := bb5.trans (b6.mono bb5.size); have b36 := b35.trans (b6.mono b35.size))
        have hq := Hst.out.2 (by have := Hge.out; have := HT.out; omega)
        refine ⟨⟨k, T, qs, A5, c5, rfl, rfl, n5, fT, by have := Hge.out; omega, by omega, hql, hqw, arr_on harr b36, bbT, ?_, ?_⟩, by simp only [intOf]; omega⟩
        · show _ = _; rw [hq.2, hqv.out, Nat.pow_succ, Nat.mul_assoc]
        · show _ = _; rw [hq.1, HT.out]
  · obtain rfl : k = 0 := by omega
    have hq0 : val qs = Qf := by have := hqv.out; rw [Nat.pow_zero, Nat.div_one, Nat.one_mul, HQf.out] at this; exact this
    have hr0 : ρ = Rf := by have := hρv.out; rw [Nat.pow_zero, Nat.div_one, HRf.out] at this; exact this.symm
    have hqrd := arr_rd harr hqw (by rw [hql.out]; omega)
    have hm1 := made_calls false (some ⟨g, 0, none⟩) l1.length qs wr hqrd (by rw [hql.out]; exact Nat.le_refl _)
    rw [hq0, hql.out] at hm1
    simp only [Bool.false_eq_true, if_false] at hm1
    have hm2 : ∀ W, Rd W A (lim ρ) → Calls Tryz.prog 118 #[.bool false, .slice A (lim ρ).length c] W (RetZ (Rf : Int) W) := fun W h => by
     have := made_calls false A c (lim ρ) W h hcl
     have hz : (if false = true then -((val (lim ρ) : Nat) : Int) else ((val (lim ρ) : Nat) : Int)) = (Rf : Int) := by rw [val_lim, hr0]; rfl
     rwa [hz] at this
    clear hq0 hr0 h0
    go_wp2_with first
     | (go_at_call 118; have hmark := mk1; refine (hm2 _ (hrd.on b3)).mono ?_; rintro e w5 ⟨s5, A5, c5, l5, rfl, z5, n5, f5, b5⟩; have bb5 := (hbl.trans (b3.mono hbl.size)).trans (b5.mono (Nat.le_trans hbl.size b3.size)); have f3' := f3.on b5; have hq5 := hR.on bb5; obtain ⟨e0, e1, e2, e3⟩ := cL4 hq5.h; obtain ⟨u0, u1, u2, u3⟩ := fZ4 hq5.h)
     | (go_at_call 118; refine hm1.mono ?_; rintro e w3 ⟨s3, A3, c3, l3, rfl, z3, n3, f3, b3⟩; have mk1 : True := trivial)
    have nw1 := f3'.ne hq5.h (by intro i x h; rcases i with _ | _ | _ | _ | i <;> simp at h)
    have nw2 := f5.ne hq5.h (by intro i x h; rcases i with _ | _ | _ | _ | i <;> simp at h)
    have bw := hb1.trans (bb5.mono hb1.size)
    exact ret_cellS rfl Tryz.underlying111 parts_size rfl rfl (set4 hq5.h _ _ _ _) rfl ⟨s3, A3, c3, l3, s5, A5, c5, l5, rfl, z3, z5, n3, n5, (((f3'.setNe nw1).setNe nw1).setNe nw1).setNe nw1, (((f5.setNe nw2).setNe nw2).setNe nw2).setNe nw2, (((bw.setCell (Nat.le_refl _) _).setCell (Nat.le_refl _) _).setCell (Nat.le_refl _) _).setCell (Nat.le_refl _) _⟩
theorem split_calls (A1 A2 : Option Addr) (c1 c2 : Nat) (l1 l2 : List Nat) (w : World) (h1 : Rd w A1 l1) (h2 : Rd w A2 l2) (hc1 : l1.length ≤ c1) (hc2 : l2.length ≤ c2) (k2 : Canon l2) (hp : 0 < val l2) (hs1 : l1.length ≤ 65536) (hs2 : l2.length ≤ 65536) :
 Calls Tryz.prog 181 #[.slice A1 l1.length c1, .slice A2 l2.length c2] w (RetQR ((val l1 / val l2 : Nat) : Int) ((val l1 % val l2 : Nat) : Int) w) := by
 by_cases h : l2.length = 1
 · obtain ⟨y, rfl⟩ := List.length_eq_one_iff.1 h
   have hv : val [y] = y := by show y + 4294967296 * 0 = y; omega
   rw [hv] at hp ⊢
   exact split_one A1 A2 c1 c2 y l1 [y] w h1 h2 hc1 hc2 rfl hp hs1
 · exact split_many A1 A2 c1 c2 l1 l2 w h1 h2 hc1 hc2 k2 hp h hs1 hs2
theorem Rdigit_calls (c : Nat) (hc : c < 256) (w : World) :
 Calls Tryz.prog 194 #[.int .u8 (c : Int)] w fun e w' => e = .returned (.int .i64 (digV 99 c : Nat)) ∧ w = w' := by
 rcases (show c < 48 ∨ (48 ≤ c ∧ c ≤ 57) ∨ (58 ≤ c ∧ c < 65) ∨ (65 ≤ c ∧ c ≤ 90) ∨ (90 < c ∧ c < 97) ∨ (97 ≤ c ∧ c ≤ 122) ∨ 122 < c by omega) with h | ⟨h, h'⟩ | ⟨h, h'⟩ | ⟨h, h'⟩ | ⟨h, h'⟩ | ⟨h, h'⟩ | h
 · have hd : digV 99 c = 99 := by unfold digV; rw [if_neg (by omega), if_neg (by omega), if_neg (by omega)]
   rw [hd]
   have b0 : ¬ 48 ≤ c := by omega
   have b1 : c ≤ 57 := by omega
   have b2 : ¬ 97 ≤ c := by omega
   have b3 : c ≤ 122 := by omega
   have b4 : ¬ 65 ≤ c := by omega
   have b5 : c ≤ 90 := by omega
   clear hd h
   go_enter Tryz.func194, Tryz.ntmps194
   go_wp2
   go_ret
   exact ⟨rfl, rfl⟩
 · have hd : ((digV 99 c : Nat) : Int) = (c : Int) - 48 := by unfold digV; rw [if_neg (by omega), if_neg (by omega), if_pos (by omega)]; omega
   rw [hd]
   have b0 : 48 ≤ c := by omega
   have b1 : c ≤ 57 := by omega
   have b2 : ¬ 97 ≤ c := by omega
   have b3 : c ≤ 122 := by omega
   have b4 : ¬ 65 ≤ c := by omega
   have b5 : c ≤ 90 := by omega
   clear hd h h'
   go_enter Tryz.func194, Tryz.ntmps194
   go_wp2
   go_ret
   exact ⟨rfl, rfl⟩
 · have hd : digV 99 c = 99 := by unfold digV; rw [if_neg (by omega), if_neg (by omega), if_neg (by omega)]
   rw [hd]
   have b0 : 48 ≤ c := by omega
   have b1 : ¬ c ≤ 57 := by omega
   have b2 : ¬ 97 ≤ c := by omega
   have b3 : c ≤ 122 := by omega
   have b4 : ¬ 65 ≤ c := by omega
   have b5 : c ≤ 90 := by omega
   clear hd h h'
   go_enter Tryz.func194, Tryz.ntmps194
   go_wp2
   go_ret
   exact ⟨rfl, rfl⟩
 · have hd : ((digV 99 c : Nat) : Int) = (c : Int) - 65 + 10 := by unfold digV; rw [if_pos (by omega)]; omega
   rw [hd]
   have b0 : 48 ≤ c := by omega
   have b1 : ¬ c ≤ 57 := by omega
   have b2 : ¬ 97 ≤ c := by omega
   have b3 : c ≤ 122 := by omega
   have b4 : 65 ≤ c := by omega
   have b5 : c ≤ 90 := by omega
   clear hd h h'
   go_enter Tryz.func194, Tryz.ntmps194
   go_wp2
   go_ret
   exact ⟨rfl, rfl⟩
 · have hd : digV 99 c = 99 := by unfold digV; rw [if_neg (by omega), if_neg (by omega), if_neg (by omega)]
   rw [hd]
   have b0 : 48 ≤ c := by omega
   have b1 : ¬ c ≤ 57 := by omega
   have b2 : ¬ 97 ≤ c := by omega
   have b3 : c ≤ 122 := by omega
   have b4 : 65 ≤ c := by omega
   have b5 : ¬ c ≤ 90 := by omega
   clear hd h h'
   go_enter Tryz.func194, Tryz.ntmps194
   go_wp2
   go_ret
   exact ⟨rfl, rfl⟩
 · have hd : ((digV 99 c : Nat) : Int) = (c : Int) - 97 + 10 := by unfold digV; rw [if_neg (by omega), if_pos (by omega)]; omega
   rw [hd]
   have b0 : 48 ≤ c := by omega
   have b1 : ¬ c ≤ 57 := by omega
   have b2 : 97 ≤ c := by omega
   have b3 : c ≤ 122 := by omega
   have b4 : 65 ≤ c := by omega
   have b5 : ¬ c ≤ 90 := by omega
   clear hd h h'
   go_enter Tryz.func194, Tryz.ntmps194
   go_wp2
   go_ret
   exact ⟨rfl, rfl⟩
 · have hd : digV 99 c = 99 := by unfold digV; rw [if_neg (by omega), if_neg (by omega), if_neg (by omega)]
   rw [hd]
   have b0 : 48 ≤ c := by omega
   have b1 : ¬ c ≤ 57 := by omega
   have b2 : 97 ≤ c := by omega
   have b3 : ¬ c ≤ 122 := by omega
   have b4 : 65 ≤ c := by omega
   have b5 : ¬ c ≤ 90 := by omega
   clear hd h
   go_enter Tryz.func194, Tryz.ntmps194
   go_wp2
   go_ret
   exact ⟨rfl, rfl⟩
end Nm
end Go.Proofs.YtjghnghceeijeaaGreatDoor
namespace Go.Proofs.YtjghnghceeijeaaGreatDoor
namespace Nm
open Go.RowKit Go.Shelf Go.BigFrame
def digs (b n : Nat) : List Nat := if _h : 2 ≤ b ∧ 0 < n then (n % b) :: digs b (n / b) else []
termination_by n
decreasing_by exact Nat.div_lt_self _h.2 (by omega)
theorem digs_zero (b : Nat) : digs b 0 = [] := by rw [digs]; simp
theorem digs_pos {b n : Nat} (hb : 2 ≤ b) (hn : 0 < n) : digs b n = (n % b) :: digs b (n / b) := by rw [digs, dif_pos ⟨hb, hn⟩]
theorem digs_lt {b : Nat} (hb : 2 ≤ b) : ∀ n, ∀ d ∈ digs b n, d < b := by
 intro n
 induction n using Nat.strongRecOn with
 | _ n ih =>
  intro d hd
  rcases Nat.eq_zero_or_pos n with h0 | h0
  · subst h0; rw [digs_zero] at hd; cases hd
  · rw [digs_pos hb h0, List.mem_cons] at hd
    rcases hd with rfl | hd
    · exact Nat.mod_lt _ (by omega)
    · exact ih _ (Nat.div_lt_self h0 (by omega)) d hd
def numOf (b : Nat) (ds : List Nat) : Nat := ds.foldl (fun a d => a * b + d) 0
theorem numOf_snoc (b : Nat) (ds : List Nat) (d : Nat) : numOf b (ds ++ [d]) = numOf b ds * b + d := by simp [numOf]
theorem digs_length {b : Nat} (hb : 2 ≤ b) : ∀ m n, n < 2 ^ m → (digs b n).length ≤ m := by
 intro m
 induction m with
 | zero => intro n h; obtain rfl : n = 0 := by simpa using h
           rw [digs_zero]; simp
 | succ m ih =>
  intro n h
  rcases Nat.eq_zero_or_pos n with h0 | h0
  · subst h0; rw [digs_zero]; simp
  · rw [digs_pos hb h0]
    have : n / b < 2 ^ m := by
     rw [Nat.div_lt_iff_lt_mul (by omega)]
     refine Nat.lt_of_lt_of_le h ?_
     rw [Nat.pow_succ]
     exact Nat.mul_le_mul_left _ hb
    have := ih _ this
    simp; omega
theorem digs_step {b j q r : Nat} (hb : 2 ≤ b) : (q * b ^ (j + 1) + r) % b = r % b ∧ (q * b ^ (j + 1) + r) / b = q * b ^ j + r / b := by
 have e : q * b ^ (j + 1) + r = r + b * (q * b ^ j) := by
  rw [Nat.pow_succ, Nat.add_comm, ← Nat.mul_assoc, Nat.mul_comm b]
 constructor
 · rw [e, Nat.add_mul_mod_self_left]
 · rw [e, Nat.add_mul_div_left _ _ (by omega), Nat.add_comm]
theorem digs_one {b j q r : Nat} (hb : 2 ≤ b) (h : 0 < q ∨ 0 < r) : digs b (q * b ^ (j + 1) + r) = (r % b) :: digs b (q * b ^ j + r / b) := by
 have hpos : 0 < q * b ^ (j + 1) + r := by
  rcases h with h | h
  · have := Nat.mul_pos h (Nat.pow_pos (show 0 < b by omega) (n := j + 1)); omega
  · omega
 rw [digs_pos hb hpos, (digs_step hb).1, (digs_step hb).2]
def chr (d : Nat) : Nat := if d < 10 then 48 + d else 87 + d
theorem chr_lt {d : Nat} (h : d < 36) : chr d < 128 := by unfold chr; split <;> omega
def strB (l : List Nat) : ByteArray := ⟨(l.map UInt8.ofNat).toArray⟩
theorem strB_size (l : List Nat) : (strB l).size = l.length := by
 show ((l.map UInt8.ofNat).toArray).size = _
 rw [List.size_toArray, List.length_map]
def bytesN (s : ByteArray) : List Nat := s.data.toList.map UInt8.toNat
theorem bytesN_length (s : ByteArray) : (bytesN s).length = s.size := by
 show (s.data.toList.map UInt8.toNat).length = s.data.size
 rw [List.length_map, Array.length_toList]
theorem bytesN_lt (s : ByteArray) : ∀ c ∈ bytesN s, c < 256 := by
 intro c hc
 simp only [bytesN, List.mem_map] at hc
 obtain ⟨u, _, rfl⟩ := hc
 exact u.toNat_lt
def textL (neg : Bool) (b n : Nat) : List Nat := if n = 0 then [48] else (if neg then [45] else []) ++ ((digs b n).map chr).reverse
def textR (n1 : Bool) (l1 : List Nat) (b : Int) : List Nat × Int := if okI n1 l1 && (decide (2 ≤ b) && decide (b ≤ 36)) then (textL n1 b.toNat (val l1), 0) else ([], 1)
end Nm
end Go.Proofs.YtjghnghceeijeaaGreatDoor
