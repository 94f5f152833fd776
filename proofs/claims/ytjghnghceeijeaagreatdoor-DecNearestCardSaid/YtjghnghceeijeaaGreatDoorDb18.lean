/-
  Contracts of the walks below.
-/
import Derived.Test.YtjghnghceeijeaaGreatDoorDb17
set_option maxRecDepth 100000
set_option maxHeartbeats 4000000
set_option linter.unusedVariables false
set_option linter.unusedSimpArgs false
namespace Go.Proofs.YtjghnghceeijeaaGreatDoor
namespace Nm
open Go.RowKit Go.Shelf Go.BigFrame
attribute [local go_sem] Oper.semAt_some
def DigW (W : World) : Prop := ∀ i, i < 36 → W.cell? ⟨0, i, none⟩ = some (.int .u8 ((chr i : Nat) : Int))
theorem DigW.on {w W : World} (h : DigW w) (hb : Below w.heap.size w W) : DigW W := fun i hi => (hb.cell (p := ⟨0, i, none⟩) (World.block_lt_of_cell? w _ (h i hi))).trans (h i hi)
theorem info_u8 : (Tryz.prog.info? 5).map (fun i => (i.zero, i.size, i.bytes)) = some (some (.int .u8 0), 1, 1) := by kernel_rfl
theorem underl_bytes : Tryz.prog.underlying 124 = some (.slice 5) := by kernel_rfl
theorem own_slice {w : World} {base n : Nat} {e : TypeId} {v : Value} {xs : List Value} (h : w.ownsRow base e 1 v n xs) : ∃ A c, v = .slice A n c := by
 rcases h.2 with ⟨rfl, rfl⟩ | ⟨g, cap, cur, rfl, -⟩
 · exact ⟨none, 0, rfl⟩
 · exact ⟨_, _, rfl⟩
theorem own_on {w W : World} {base n : Nat} {e : TypeId} {v : Value} {xs : List Value} (h : w.ownsRow base e 1 v n xs) (hb : Below w.heap.size w W) : W.ownsRow base e 1 v n xs := by
 refine ⟨h.1, ?_⟩
 rcases h.2 with hn | ⟨g, cap, cur, rfl, h1, h2, h3⟩
 · exact .inl hn
 · exact .inr ⟨g, cap, cur, rfl, h1, (hb.block g (Array.getElem?_eq_some_iff.1 h2).1).trans h2, h3⟩
theorem own_base8 {w : World} {base n : Nat} {e : TypeId} {v : Value} {xs : List Value} (h : w.ownsRow base e 1 v n xs) : ∀ j, v.ownBlock = some j → base ≤ j := by
 intro j e
 rcases h.2 with ⟨rfl, rfl⟩ | ⟨g, cap, cur, rfl, hb, _⟩
 · cases e
 · cases e; exact hb
theorem typd_on {n : Nat} {w W : World} {A : Option Addr} (h : Typd n w A) (hb : Below w.heap.size w W) : Typd n W A := fun b o e =>
 (h b o e).imp id fun ⟨cur, hc⟩ => ⟨cur, (hb.block b (Array.getElem?_eq_some_iff.1 hc).1).trans hc⟩
theorem rd_grown {w w' : World} {base n : Nat} {v : Value} {xs : List Value} {A : Option Addr} {l : List Nat} (h : Rd w A l) (ht : Typd base w A) (hown : w.ownsRow base 5 1 v n xs) (hg : w.grownBy w' v.ownBlock) :
 Rd w' A l ∧ Typd base w' A := by
 have hne : ∀ b o, A = some ⟨b, o, none⟩ → some b ≠ v.ownBlock := by
  intro b o e hb
  rcases hown.2 with ⟨rfl, -⟩ | ⟨g, cap, cur, rfl, h1, h2, -⟩
  · cases hb
  · have hb' : b = g := by simpa [Value.ownBlock] using hb
    subst hb'
    rcases ht b o e with h3 | ⟨cur', h3⟩
    · omega
    · rw [h2] at h3
      have : (5 : TypeId) = 127 := by injection h3 with h3; injection h3
      exact absurd this (by decide)
 refine ⟨⟨fun i hi => ?_, h.words, h.small⟩, fun b o e => (ht b o e).imp id fun ⟨cur, hc⟩ => ⟨cur, (hg.block b (Array.getElem?_eq_some_iff.1 hc).1 (hne b o e)).trans hc⟩⟩
 obtain ⟨b, o, e, hc⟩ := h.cell i hi
 exact ⟨b, o, e, hg.cell hc (hne b o e)⟩
theorem conv_bytes (W : World) (g c : Nat) (l : List Nat) (h : RdB W g l) (hl : ∀ x ∈ l, x < 256) :
 (convert 124 9 (.slice (some ⟨g, 0, none⟩) l.length c)).run Tryz.prog W = .ok (.string (strB l)) W := by
 have := run_convert_bytes_back (P := Tryz.prog) W 124 9 5 ⟨g, 0, none⟩ c (l.map UInt8.ofNat) (by kernel_rfl) (by kernel_rfl) (by kernel_rfl) (fun j hj => by
  rw [List.length_map] at hj
  have e := (h j hj).1
  have hx : l.getD j 0 < 256 := by
   rw [List.getD_eq_getElem?_getD, List.getElem?_eq_getElem hj]
   exact hl _ (List.getElem_mem hj)
  have ha : (⟨g, 0, none⟩ : Addr).add j = ⟨g, j, none⟩ := by unfold Addr.add; split <;> simp_all
  rw [ha, e, List.getElem_map]
  rw [List.getD_eq_getElem?_getD, List.getElem?_eq_getElem hj] at hx ⊢
  simp only [Option.getD_some] at hx ⊢
  rw [UInt8.toNat_ofNat', Nat.mod_eq_of_lt hx])
 rwa [List.length_map] at this
theorem val_bits {l : List Nat} (hw : Words l) : val l < 2 ^ (32 * l.length) := by
 have := val_lt hw
 rwa [show (2 : Nat) ^ (32 * l.length) = BB ^ l.length from by rw [Nat.pow_mul]]
theorem text1_ok (g1 g2 : Nat) (n1 : Bool) (b : Nat) (A1 : Option Addr) (c1 : Nat) (l1 : List Nat) (w : World) (h1 : IntBox w g1 n1 A1 c1 l1) (h2 : Blk w g2 #[.int .i64 (b : Int)] 3) (hdg : DigW w) (k1 : IsInt n1 l1) (hok : okI n1 l1 = true) (hb1 : 2 ≤ b) (hb2 : b ≤ 36) :
 Calls Tryz.prog 171 #[.pointer (some ⟨g1, 0, none⟩), .pointer (some ⟨g2, 0, none⟩)] w fun e w' => e = .returned (.string (strB (textL n1 b (val l1)))) ∧ Below w.heap.size w w' := by
 obtain ⟨i0, hi, hz0, hz1, hz2⟩ := info_parts info_u8
 have hbt := underl_bytes
 obtain ⟨x0, x1⟩ := cL2 h1.blk
 have y0 := cell_at h2.h 0 _ rfl
 have t1 := (Array.getElem?_eq_some_iff.1 h1.blk).1
 have t2 := (Array.getElem?_eq_some_iff.1 h2.h).1
 have hb0 : ∀ o, Below w.heap.size w (w.alloc o) := fun o => (Below.refl _ w).alloc (Nat.le_refl _) _
 have hf := formed_one w.heap.size n1 A1 c1 l1 _ (World.alloc_heap_new w (.cells #[.bool n1, .slice A1 l1.length c1] 24)) (h1.rd.on (hb0 _)) h1.cap
 have hch := fun W => chunk_calls b hb1 hb2 W
 obtain ⟨m1, m2, m3, m4⟩ := many_lt b hb1 hb2
 generalize many b = M at *
 obtain ⟨U, hU⟩ : ∃ U, b ^ M = U := ⟨_, rfl⟩
 rw [hU] at hch m1
 have HU := Lib.hid hU
 have hU2 : 2 ≤ U := by
  rw [← hU]
  have := Nat.pow_le_pow_right (show 0 < b by omega) m3
  rw [Nat.pow_one] at this
  omega
 obtain ⟨N, hN⟩ : ∃ N, val l1 = N := ⟨_, rfl⟩
 have hlN := lim_val k1.canon
 rw [hN] at hlN ⊢
 have HlN := Lib.hid hlN
 have hNb : Hid ((digs b N).length ≤ 9600) := Nat.le_trans (digs_length hb1 (32 * l1.length) N (by rw [← hN]; exact val_bits h1.rd.words)) (by have := k1.small; omega)
 have hNs : Hid (∀ x, x ≤ N → (lim x).length ≤ 300) := fun x hx => Nat.le_trans (length_mono hx) (by rw [hlN]; exact k1.small)
 have HN0 : Hid (textL n1 b 0 = [48]) := rfl
 have HN1 : Hid (∀ N, 0 < N → textL n1 b N = (if n1 then [45] else []) ++ ((digs b N).map chr).reverse) := fun N h => if_neg (by omega)
 have dm : decide ((2 : Int) ≤ (b : Int)) = true := decide_eq_true (by omega)
 have dm2 : decide (b ≤ 36) = true := decide_eq_true (by omega)
 have dm3 : decide (2 ≤ b) = true := decide_eq_true (by omega)
 have dm4 : decide ((b : Int) ≤ 36) = true := decide_eq_true (by omega)
 clear hU m2 hN hlN
 go_enter Tryz.func171, Tryz.ntmps171
 go_wp2_with first
  | (go_at_call 146; refine hf.mono ?_; rintro e w' ⟨hp, -, hblf⟩; cases hp hok; have hb3 := (hb0 _).trans (hblf.mono (hb0 _).size); obtain ⟨p0, p1⟩ := cL2 (h1.on hb3).blk; have p2 := cell_at (h2.on hb3).h 0 _ rfl)
  | (go_at_call 152; refine (must_ok 1 _).mono ?_; rintro e w4 ⟨rfl, rfl⟩)
  | (go_at_call 172; refine (hch _).mono ?_; rintro e w4 ⟨rfl, rfl⟩)
 go_loopw [5, 6] (fun ov xv W => ∃ (ds : List Nat) (x : Nat) (A : Option Addr) (c : Nat), xv = .slice A (lim x).length c ∧ (lim x).length ≤ c ∧ Rd W A (lim x) ∧ Hid (0 < x → Typd w.heap.size W A) ∧ x ≤ N ∧ W.ownsRow w.heap.size 5 1 ov ds.length (bvals ds) ∧ Below w.heap.size w W ∧ Hid (ds ++ (digs b x).map chr = (digs b N).map chr)) (fun _ xv W => slotVal xv W)
 case atStart =>
  refine ⟨[], N, A1, c1, ?_, ?_, ?_, ?_, Nat.le_refl _, World.ownsRow_nil _ _ _ _, hb3, List.nil_append _⟩
  · rw [HlN.out]
  · rw [HlN.out]; exact h1.cap
  · rw [HlN.out]; exact h1.rd.on hb3
  · intro h0 b' o' e
    have hl0 : 0 < l1.length := by rw [← HlN.out]; exact lim_length_pos h0
    obtain ⟨b'', o'', e', hc⟩ := h1.rd.cell 0 hl0
    rw [e] at e'
    cases e'
    exact .inl (World.block_lt_of_cell? w _ hc)
 case round =>
  obtain ⟨ds, x, A, c, rfl, hcap, hrd, hty, hxN, hown, hbl, hds⟩ := hrel
  have hdgr := (hdg.on (hbl.mono (Nat.le_refl _)))
  have q2 := cell_at (h2.on hbl).h 0 _ rfl
  by_cases hx : 0 < x
  · have hxl : 0 < (lim x).length := lim_length_pos hx
    have hsm := small_typed A c U (lim x) wr hrd hcap (by omega) m1 (by have := hNs.out x hxN; omega)
    rw [val_lim] at hsm
    obtain ⟨q, hq⟩ : ∃ q, x / U = q := ⟨_, rfl⟩
    obtain ⟨r, hr⟩ : ∃ r, x % U = r := ⟨_, rfl⟩
    have hxe : q * U + r = x := by rw [← hq, ← hr, Nat.mul_comm]; exact Nat.div_add_mod x U
    have hru : r < U := by rw [← hr]; exact Nat.mod_lt _ (by omega)
    have hqx : q < x := by rw [← hq]; exact Nat.div_lt_self hx hU2
    rw [hq, hr] at hsm
    have Hxe := Lib.hid hxe
    have Hqx := Lib.hid hqx
    have Hru := Lib.hid hru
    have hob := own_base8 hown
    have Hvx := Lib.hid (slotVal_eq hrd (d := c))
    clear hq hr hxe hqx
    go_wp2_with (go_at_call 173; refine hsm.mono ?_; rintro e w5 ⟨Aq, cq, rfl, nq, rq, tq, b5⟩; have hbl5 := hbl.trans (b5.mono hbl.size); have hown5 := own_on hown b5; have q5 := cell_at (h2.on hbl5).h 0 _ rfl)
    go_loopw [5, 8, 9] (fun ov rv kv W => ∃ (ds' : List Nat) (r' k : Nat), rv = .int .u32 (r' : Int) ∧ kv = .int .i64 (k : Int) ∧ k ≤ M ∧ Hid (r' < b ^ (M - k)) ∧ r' < 4294967296 ∧ Rd W Aq (lim q) ∧ Typd w.heap.size W Aq ∧ W.ownsRow w.heap.size 5 1 ov ds'.length (bvals ds') ∧ Below w.heap.size w W ∧ Hid (ds' ++ (digs b (q * b ^ (M - k) + r')).map chr = (digs b N).map chr)) (fun _ _ kv _ => M - (intOf kv).toNat)
    case atStart =>
     refine ⟨ds, r, 0, rfl, rfl, Nat.zero_le _, ?_, by have := Hru.out; omega, rq, tq.lower, hown5, hbl5, ?_⟩
     · show r < b ^ (M - 0)
       rw [Nat.sub_zero, HU.out]; exact Hru.out
     · show ds ++ (digs b (q * b ^ (M - 0) + r)).map chr = _
       rw [Nat.sub_zero, HU.out, Hxe.out]; exact hds.out
    case round =>
     obtain ⟨ds', r', k, rfl, rfl, hkM, hrm, hr32, hrq, htq, howi, hbi, hdd⟩ := hrel
     rcases (show (k < M ∧ 0 < r') ∨ (k < M ∧ r' = 0 ∧ 0 < q) ∨ (k < M ∧ r' = 0 ∧ q = 0) ∨ k = M by omega) with ⟨g1', g2'⟩ | ⟨g1', g2', g3'⟩ | ⟨g1', g2', rfl⟩ | rfl
     · have hkI : (k : Int) < (M : Int) := by omega
       have hda : r' % b < 36 := Nat.lt_of_lt_of_le (Nat.mod_lt _ (by omega)) hb2
       have hone := digs_one (b := b) (j := M - k - 1) (q := q) (r := r') hb1 (.inr g2')
       have hlt := hrm.out
       rw [show M - k = M - k - 1 + 1 by omega] at hlt
       have hlt2 : r' / b < b ^ (M - k - 1) := by
        rw [Nat.div_lt_iff_lt_mul (by omega), ← Nat.pow_succ]; exact hlt
       have hds2 := hdd.out
       rw [show M - k = M - k - 1 + 1 by omega, hone, List.map_cons] at hds2
       have hcell := (hdg.on hbi) (r' % b) hda
       obtain ⟨d, e1, e1'⟩ : ∃ d : Nat, (r' : Int) % (b : Int) = (d : Int) ∧ r' % b = d := ⟨r' % b, by simp, rfl⟩
       obtain ⟨r2, e2, e2'⟩ : ∃ r2 : Nat, (r' : Int) / (b : Int) = (r2 : Int) ∧ r' / b = r2 := ⟨r' / b, by simp, rfl⟩
       rw [e1'] at hcell hds2 hda
       rw [e2'] at hds2 hlt2
       have hr2 : r2 < 4294967296 := by rw [← e2']; exact Nat.lt_of_le_of_lt (Nat.div_le_self _ _) hr32
       obtain ⟨z, hz⟩ : ∃ z, chr d = z := ⟨_, rfl⟩
       rw [hz] at hcell hds2
       have hz256 : z < 256 := by have := chr_lt hda; omega
       have Hds2 := Lib.hid (show (ds' ++ [z]) ++ (digs b (q * b ^ (M - k - 1) + r2)).map chr = (digs b N).map chr by rw [List.append_assoc]; exact hds2)
       have Hlt2 := Lib.hid hlt2
       have hdl : ds'.length < 10000 := by
        have := congrArg List.length hds2
        rw [List.length_append, List.length_map] at this
        have h2 := hNb.out
        omega
       have hob2 := own_base8 howi
       have q9 := cell_at (h2.on hbi).h 0 _ rfl
       have hgrow := fun W' (hg : wr.grownBy W' _) => rd_grown hrq htq howi hg
       clear hone hlt hlt2 hds2 hz e1' e2' g1'
       go_wp2_with first
        | (at_builtin; (refine wpList_append_own2 _ rfl _ _ 124 124 rfl w.heap.size 5 5 i0 (.int .u8 0) 1 1 hbt hbt hi hz0 hz1 hz2 rfl (by decide) _ _ _ rfl (howi.alloc _) ⟨wr.heap.size, 0, none⟩ 1 1 [.int .u8 (z : Int)] rfl rfl (cell_one_new _ _ _) (by simp [Value.oneCell']) (by unfold maxLen; omega) (by omega) (by have := hbi.size; simp; omega) ?_); intro v' w6 hown' hg6 _; have hb6 := (hbi.alloc hbi.size _).grown hg6 (by have := hbi.size; simp; omega) (fun j e => hob2 j e); have q6 := cell_at (h2.on hb6).h 0 _ rfl; have hal := (Below.refl wr.heap.size wr).alloc (Nat.le_refl _) (.cells #[.int .u8 (z : Int)] 5); obtain ⟨r6, t6⟩ := rd_grown (hrq.on hal) (typd_on htq hal) (howi.alloc _) hg6)
       refine ⟨⟨ds' ++ [z], r2, k + 1, rfl, by simp, by omega, ?_, hr2, r6, t6, ?_, hb6, ?_⟩, by simp only [intOf]; omega⟩
       · rw [show M - (k + 1) = M - k - 1 by omega]; exact Hlt2
       · rw [bvals_append, List.length_append]; exact hown'
       · rw [show M - (k + 1) = M - k - 1 by omega]; exact Hds2
     · have hkI : (k : Int) < (M : Int) := by omega
       have hql : 0 < (lim q).length := lim_length_pos g3'
       have hnr : ¬ 0 < r' := by omega
       have hnI : ¬ (0 : Int) < (r' : Int) := by omega
       clear g2'
       have hda : r' % b < 36 := Nat.lt_of_lt_of_le (Nat.mod_lt _ (by omega)) hb2
       have hone := digs_one (b := b) (j := M - k - 1) (q := q) (r := r') hb1 (.inl g3')
       have hlt := hrm.out
       rw [show M - k = M - k - 1 + 1 by omega] at hlt
       have hlt2 : r' / b < b ^ (M - k - 1) := by
        rw [Nat.div_lt_iff_lt_mul (by omega), ← Nat.pow_succ]; exact hlt
       have hds2 := hdd.out
       rw [show M - k = M - k - 1 + 1 by omega, hone, List.map_cons] at hds2
       have hcell := (hdg.on hbi) (r' % b) hda
       obtain ⟨d, e1, e1'⟩ : ∃ d : Nat, (r' : Int) % (b : Int) = (d : Int) ∧ r' % b = d := ⟨r' % b, by simp, rfl⟩
       obtain ⟨r2, e2, e2'⟩ : ∃ r2 : Nat, (r' : Int) / (b : Int) = (r2 : Int) ∧ r' / b = r2 := ⟨r' / b, by simp, rfl⟩
       rw [e1'] at hcell hds2 hda
       rw [e2'] at hds2 hlt2
       have hr2 : r2 < 4294967296 := by rw [← e2']; exact Nat.lt_of_le_of_lt (Nat.div_le_self _ _) hr32
       obtain ⟨z, hz⟩ : ∃ z, chr d = z := ⟨_, rfl⟩
       rw [hz] at hcell hds2
       have hz256 : z < 256 := by have := chr_lt hda; omega
       have Hds2 := Lib.hid (show (ds' ++ [z]) ++ (digs b (q * b ^ (M - k - 1) + r2)).map chr = (digs b N).map chr by rw [List.append_assoc]; exact hds2)
       have Hlt2 := Lib.hid hlt2
       have hdl : ds'.length < 10000 := by
        have := congrArg List.length hds2
        rw [List.length_append, List.length_map] at this
        have h2 := hNb.out
        omega
       have hob2 := own_base8 howi
       have q9 := cell_at (h2.on hbi).h 0 _ rfl
       have hgrow := fun W' (hg : wr.grownBy W' _) => rd_grown hrq htq howi hg
       clear hone hlt hlt2 hds2 hz e1' e2' g1'
       go_wp2_with first
        | (at_builtin; (refine wpList_append_own2 _ rfl _ _ 124 124 rfl w.heap.size 5 5 i0 (.int .u8 0) 1 1 hbt hbt hi hz0 hz1 hz2 rfl (by decide) _ _ _ rfl (howi.alloc _) ⟨wr.heap.size, 0, none⟩ 1 1 [.int .u8 (z : Int)] rfl rfl (cell_one_new _ _ _) (by simp [Value.oneCell']) (by unfold maxLen; omega) (by omega) (by have := hbi.size; simp; omega) ?_); intro v' w6 hown' hg6 _; have hb6 := (hbi.alloc hbi.size _).grown hg6 (by have := hbi.size; simp; omega) (fun j e => hob2 j e); have q6 := cell_at (h2.on hb6).h 0 _ rfl; have hal := (Below.refl wr.heap.size wr).alloc (Nat.le_refl _) (.cells #[.int .u8 (z : Int)] 5); obtain ⟨r6, t6⟩ := rd_grown (hrq.on hal) (typd_on htq hal) (howi.alloc _) hg6)
       refine ⟨⟨ds' ++ [z], r2, k + 1, rfl, by simp, by omega, ?_, hr2, r6, t6, ?_, hb6, ?_⟩, by simp only [intOf]; omega⟩
       · rw [show M - (k + 1) = M - k - 1 by omega]; exact Hlt2
       · rw [bvals_append, List.length_append]; exact hown'
       · rw [show M - (k + 1) = M - k - 1 by omega]; exact Hds2
     · have hkI : (k : Int) < (M : Int) := by omega
       have hE := hdd.out
       rw [Nat.zero_mul, Nat.zero_add, g2', digs_zero] at hE
       have HE := Lib.hid (show ds' ++ (digs b 0).map chr = (digs b N).map chr by rw [digs_zero]; exact hE)
       have hnr : ¬ 0 < r' := by omega
       have hnI : ¬ (0 : Int) < (r' : Int) := by omega
       have hz0' : ¬ 0 < (lim 0).length := by rw [lim_zero]; exact Nat.lt_irrefl _
       have hzI' : ¬ (0 : Int) < ((lim 0).length : Int) := by omega
       have Hn := Lib.hid (slotVal_eq hrq (d := cq))
       obtain ⟨L0, hL0⟩ : ∃ L, (lim 0).length = L := ⟨_, rfl⟩
       rw [hL0] at Hn nq hz0' hzI' ⊢
       have HL0 := Lib.hid hL0
       clear hE g1' g2' hL0
       go_wp2_with fail
       refine ⟨⟨ds', 0, Aq, cq, ?_, ?_, hrq, fun _ => htq, Nat.zero_le _, howi, hbi, HE⟩, ?_⟩
       · rw [HL0.out]
       · rw [HL0.out]; exact nq
       · rw [Hvx.out, Hn.out, val_lim, val_lim]; exact hx
     · have hE := hdd.out
       have hr0 : r' = 0 := by have := hrm.out; rw [Nat.sub_self, Nat.pow_zero] at this; omega
       rw [Nat.sub_self, Nat.pow_zero, Nat.mul_one, hr0, Nat.add_zero] at hE
       have HE := Lib.hid hE
       have Hn := Lib.hid (slotVal_eq hrq (d := cq))
       clear hE hr0
       go_wp2_with fail
       refine ⟨⟨ds', q, Aq, cq, rfl, nq, hrq, fun _ => htq, by have := Hqx.out; omega, howi, hbi, HE⟩, ?_⟩
       rw [Hvx.out, Hn.out, val_lim, val_lim]
       exact Hqx.out
  · obtain rfl : x = 0 := by omega
    have hz0' : ¬ 0 < (lim 0).length := by rw [lim_zero]; exact Nat.lt_irrefl _
    have hzI' : ¬ (0 : Int) < ((lim 0).length : Int) := by omega
    obtain ⟨L0, hL0⟩ : ∃ L, (lim 0).length = L := ⟨_, rfl⟩
    rw [hL0] at hcap hz0' hzI' ⊢
    have hE := hds.out
    rw [digs_zero, List.map_nil, List.append_nil] at hE
    have HE := Lib.hid hE
    have hdl : ds.length < 10000 := by
     rw [hE, List.length_map]
     have h2 := hNb.out
     omega
    have p9 := cell_at (h1.on hbl).blk 0 _ rfl
    have hob := own_base8 hown
    by_cases hd0 : ds.length = 0
    · obtain ⟨Ao, co, rfl⟩ := own_slice hown
      have hN0 : N = 0 := by
       rcases Nat.eq_zero_or_pos N with h | h
       · exact h
       · rw [hE, List.length_map, digs_pos hb1 h] at hd0
         cases hd0
      have HN0' := Lib.hid hN0
      rw [hd0]
      clear hE hN0 hd0 hL0
      go_wp2_with fail
      go_ret
      exact ⟨by rw [HN0'.out, HN0.out]; rfl, hbl⟩
    · have hN0 : 0 < N := by
       rcases Nat.eq_zero_or_pos N with h | h
       · rw [hE, h, digs_zero] at hd0; exact absurd rfl hd0
       · exact h
      have htx := HN1.out N hN0
      rw [← hE] at htx
      have hlt36 : ∀ y ∈ ds, y < 256 := by
       intro y hy
       rw [hE, List.mem_map] at hy
       obtain ⟨d, hd, rfl⟩ := hy
       have := chr_lt (Nat.lt_of_lt_of_le (digs_lt hb1 N d hd) hb2)
       omega
      cases n1
      · have hE2 := Lib.hid (show textL false b N = ds.reverse by rw [htx]; rfl)
        obtain ⟨g, co, rfl, -, -, hbg, hgl, hRB⟩ := own_bytes hown (by omega)
        have hrev := rev_calls g co w.heap.size ds wr hRB hbg (by omega)
        have hcv := fun W (h : RdB W g ds.reverse) => by
         have := conv_bytes W g co ds.reverse h (fun y hy => hlt36 y (List.mem_reverse.1 hy))
         rwa [List.length_reverse] at this
        have hdI : ¬ (ds.length : Int) = 0 := by omega
        clear hE hN0 hd0 hL0 htx hlt36
        go_wp2_with first
         | (go_at_call 174; refine hrev.mono ?_; rintro e w7 ⟨rfl, hR7, hb7⟩; have hcv7 := hcv w7 hR7)
        go_ret
        exact ⟨by rw [hE2.out]; rfl, hbl.trans hb7⟩
      · have hE2 := Lib.hid (show textL true b N = (ds ++ [45]).reverse by rw [htx, List.reverse_append]; rfl)
        have hdI : ¬ (ds.length : Int) = 0 := by omega
        obtain ⟨Ao, co, rfl⟩ := own_slice hown
        have hlt36' : Hid (∀ y ∈ ds ++ [45], y < 256) := by
         intro y hy
         rcases List.mem_append.1 hy with h | h
         · exact hlt36 y h
         · simp at h; omega
        obtain ⟨es, hes⟩ : ∃ es, ds ++ [45] = es := ⟨_, rfl⟩
        have hel : Hid (es.length = ds.length + 1) := by show _ = _; rw [← hes, List.length_append]; rfl
        have hev : Hid (bvals es = bvals ds ++ [.int .u8 45]) := by show _ = _; rw [← hes, bvals_append]; rfl
        rw [hes] at hE2 hlt36'
        clear hE hN0 hd0 hL0 htx hlt36 hes
        go_wp2_with first
         | (at_builtin; (refine wpList_append_own2 _ rfl _ _ 124 124 rfl w.heap.size 5 5 i0 (.int .u8 0) 1 1 hbt hbt hi hz0 hz1 hz2 rfl (by decide) _ _ _ rfl (hown.alloc _) ⟨wr.heap.size, 0, none⟩ 1 1 [.int .u8 45] rfl rfl (cell_one_new _ _ _) (by simp [Value.oneCell']) (by unfold maxLen; omega) (by omega) (by have := hbl.size; simp; omega) ?_); intro v' w6 hown' hg6 _; have hb6 := (hbl.alloc hbl.size _).grown hg6 (by have := hbl.size; simp; omega) (fun j e => hob j e); rw [← hel.out, ← hev.out] at hown'; obtain ⟨g, co', rfl, -, -, hbg, hgl, hRB⟩ := own_bytes hown' (by rw [hel.out]; exact Nat.succ_pos _); have hsm' : es.length ≤ 1048576 := (by rw [hel.out]; omega))
         | (go_at_call 174; refine (rev_calls g co' w.heap.size es w6 hRB hbg hsm').mono ?_; rintro e w7 ⟨rfl, hR7, hb7⟩; have hcv7 := conv_bytes w7 g co' es.reverse hR7 (fun y hy => hlt36'.out y (List.mem_reverse.1 hy)); rw [List.length_reverse] at hcv7)
        go_ret
        exact ⟨by rw [hE2.out]; rfl, hb6.trans hb7⟩
structure But (g : Nat) (w w' : World) : Prop where
 low : Below g w w'
 high : ∀ k, g < k → k < w.heap.size → w'.heap[k]? = w.heap[k]?
theorem But.refl (g : Nat) (w : World) : But g w w := ⟨Below.refl _ _, fun _ _ _ => rfl⟩
theorem But.on {g : Nat} {w W W' : World} (h : But g w W) (hg : g < w.heap.size) (hb : Below W.heap.size W W') : But g w W' :=
 ⟨h.low.trans (hb.mono (by have := h.low.size; omega)), fun k h1 h2 => (hb.block k (by have := h.low.size; omega)).trans (h.high k h1 h2)⟩
theorem But.set {g : Nat} {w W : World} (h : But g w W) (i : Nat) (v : Value) : But g w (W.setCell ⟨g, i, none⟩ v) :=
 ⟨h.low.setCell (Nat.le_refl _) _, fun k h1 h2 => (Below.heap_setCell _ _ _ _ (by dsimp only; omega)).trans (h.high k h1 h2)⟩
theorem But.setNew {g : Nat} {w W : World} (h : But g w W) (hg : g < w.heap.size) {p : Addr} (hp : w.heap.size ≤ p.block) (v : Value) : But g w (W.setCell p v) :=
 ⟨h.low.setCell (by omega) _, fun k h1 h2 => (Below.heap_setCell _ _ _ _ (by omega)).trans (h.high k h1 h2)⟩
theorem But.size {g : Nat} {w W : World} (h : But g w W) : w.heap.size ≤ W.heap.size := h.low.size
theorem But.blk {g k : Nat} {w W : World} {cur : Array Value} {t : TypeId} (h : But g w W) (hk : k ≠ g) (hb : Blk w k cur t) : Blk W k cur t := by
 have hlt := (Array.getElem?_eq_some_iff.1 hb.h).1
 refine ⟨Eq.trans ?_ hb.h⟩
 rcases Nat.lt_or_gt_of_ne hk with h1 | h1
 · exact h.low.block k h1
 · exact h.high k h1 hlt
theorem But.trans {g : Nat} {a b c : World} (h : But g a b) (k : But g b c) : But g a c :=
 ⟨h.low.trans k.low, fun i h1 h2 => (k.high i h1 (Nat.lt_of_lt_of_le h2 h.low.size)).trans (h.high i h1 h2)⟩
theorem But.onLow {g : Nat} {w W W' : World} (h : But g w W) (hg : g < w.heap.size) (hb : Below w.heap.size W W') : But g w W' :=
 ⟨h.low.trans (hb.mono (by omega)), fun k h1 h2 => (hb.block k h2).trans (h.high k h1 h2)⟩
theorem try_low_ok (m : Nat) (G : Nat) (caps : Array Value) (hG : ∀ (args : Array Value) (w : World), (callFunc G args).run Tryz.prog w = .ok (.enter G args) w) (w : World) (hm : m < w.heap.size) (W2 : World)
 (hW2 : (w.alloc (.cells #[.bool false, .slice none 0 0] 24)).alloc (.cells #[.int .i64 0] 30) = W2) (R : Bool → Option Addr → Nat → Nat → World → Prop)
 (h : Calls Tryz.prog G caps W2 fun e w' => ∃ s A n c, e = .returned (.agg #[.bool s, .slice A n c]) ∧ R s A n c w' ∧ But m W2 w') :
 Calls Tryz.prog 144 #[.func (.func G) #[] caps] w fun e w' =>
  ∃ s A n c w1, R s A n c w1 ∧ But m w w' ∧ (∀ A l, Rd w1 A l → Rd w' A l) ∧ e = .returned (.tuple #[.agg #[.bool s, .slice A n c], .int .i64 0]) := by
 have hmf := mkf
 have hz1 : W2.heap[w.heap.size]? = some (.cells #[.bool false, .slice none 0 0] 24 (0, 0)) := by rw [← hW2]; exact (Below.heap_alloc _ _ _ (by simp)).trans (World.alloc_heap_new w _)
 have hz2 : W2.heap[w.heap.size + 1]? = some (.cells #[.int .i64 0] 30 (0, 0)) := by rw [← hW2]; have := World.alloc_heap_new (w.alloc (.cells #[.bool false, .slice none 0 0] 24)) (.cells #[.int .i64 0] 30); rwa [World.size_alloc] at this
 have hsz : W2.heap.size = w.heap.size + 2 := by rw [← hW2]; simp
 have hb2 : Below w.heap.size w W2 := by rw [← hW2]; exact ((Below.refl _ w).alloc (Nat.le_refl _) _).alloc (by simp) _
 have Hsz := Lib.hid hsz
 clear hsz
 go_enter_defers Tryz.func144, Tryz.ntmps144
 go_wp2_with first
  | (refine h.mono ?_; rintro e w' ⟨s, A, n, c, rfl, hR, hbl⟩; have hy1 := (hbl.high w.heap.size hm (by have := Hsz.out; omega)).trans hz1; have hy2 := (hbl.high (w.heap.size + 1) (by omega) (by have := Hsz.out; omega)).trans hz2; obtain ⟨x0, x1⟩ := cL2 hy1; have x2 := cell_at hy2 0 _ rfl; obtain ⟨y0, y1⟩ := fZ2 hy1; have y2 := frozen_at hy2 0)
 obtain ⟨X, hX⟩ : ∃ X, (((w'.setCell ⟨w.heap.size, 0, none⟩ (.bool s)).setCell ⟨w.heap.size, 1, none⟩ (.slice A n c)).setCell ⟨w.heap.size + 1, 0, none⟩ (.int .i64 0)) = X := ⟨_, rfl⟩
 have hx1 : X.heap[w.heap.size]? = some (.cells #[.bool s, .slice A n c] 24 (0, 0)) := by rw [← hX]; exact (Below.heap_setCell _ _ _ _ (by simp)).trans (set_blk (set_blk hy1 0 _) 1 _)
 have hx2 : X.heap[w.heap.size + 1]? = some (.cells #[.int .i64 0] 30 (0, 0)) := by rw [← hX]; exact set_blk ((Below.heap_setCell _ _ _ _ (by simp)).trans ((Below.heap_setCell _ _ _ _ (by simp)).trans hy2)) 0 _
 have hbX : But m w X := by rw [← hX]; exact (((((But.refl m w).on hm hb2).trans hbl).setNew hm (Nat.le_refl _) _).setNew hm (Nat.le_refl _) _).setNew hm (by simp) _
 have hRd : ∀ A l, Rd w' A l → Rd X A l := by
  intro A l hA
  rw [← hX]
  rcases Nat.eq_zero_or_pos l.length with h0 | h0
  · obtain rfl : l = [] := List.length_eq_zero_iff.1 h0
    exact Rd.nil _ _
  · obtain ⟨b, o, rfl⟩ := hA.head h0
    obtain ⟨b', o', e, hc⟩ := hA.cell 0 h0
    cases e
    have e1 : b ≠ w.heap.size := by
     rintro rfl
     simp only [World.cell?, hy1, Option.isSome_none, Bool.false_eq_true, if_false] at hc
     rcases Nat.lt_or_ge (o + 0) 2 with h | h
     · rcases (show o + 0 = 0 ∨ o + 0 = 1 by omega) with h | h <;> rw [h] at hc <;> simp at hc
     · rw [Array.getElem?_eq_none (by simpa using h)] at hc; cases hc
    have e2 : b ≠ w.heap.size + 1 := by
     rintro rfl
     simp only [World.cell?, hy2, Option.isSome_none, Bool.false_eq_true, if_false] at hc
     rcases Nat.lt_or_ge (o + 0) 1 with h | h
     · rw [show o + 0 = 0 by omega] at hc; simp at hc
     · rw [Array.getElem?_eq_none (by simpa using h)] at hc; cases hc
    exact grw_rd (grownBy_setCell_at _ _ _ _) (grw_rd (grownBy_setCell_at _ _ _ _) (grw_rd (grownBy_setCell_at _ _ _ _) hA (fun b o e => by cases e; exact e1)) (fun b o e => by cases e; exact e1)) (fun b o e => by cases e; exact e2)
 rw [hX]
 refine leaves_cons (f := 200) (args := #[.pointer (some ⟨w.heap.size, 0, none⟩), .pointer (some ⟨w.heap.size + 1, 0, none⟩)]) (by simp) (by simp [go_sem]) ?_
 refine (catch_idle_int ⟨w.heap.size, 0, none⟩ ⟨w.heap.size + 1, 0, none⟩ _).mono ?_
 rintro e u' w'' ⟨rfl, rfl, rfl⟩
 obtain ⟨v0, v1⟩ := cL2 hx1
 have v2 := cell_at hx2 0 _ rfl
 refine ⟨.tuple #[.agg #[.bool s, .slice A n c], .int .i64 0], ?_, s, A, n, c, w', hR, hbX, hRd, rfl⟩
 simp [results, Tryz.results144, go_sem, v0, v1, v2]
theorem try_low_wrong (m : Nat) (G : Nat) (caps : Array Value) (hG : ∀ (args : Array Value) (w : World), (callFunc G args).run Tryz.prog w = .ok (.enter G args) w) (w : World) (hm : m < w.heap.size) (W2 : World)
 (hW2 : (w.alloc (.cells #[.bool false, .slice none 0 0] 24)).alloc (.cells #[.int .i64 0] 30) = W2) (c : Int)
 (h : Calls Tryz.prog G caps W2 fun e w' => e = .panicked (wrong c) ∧ But m W2 w') :
 Calls Tryz.prog 144 #[.func (.func G) #[] caps] w fun e w' =>
  But m w w' ∧ e = .returned (.tuple #[.agg #[.bool false, .slice none 0 0], .int .i64 c]) := by
 have hmf := mkf
 have hz1 : W2.heap[w.heap.size]? = some (.cells #[.bool false, .slice none 0 0] 24 (0, 0)) := by rw [← hW2]; exact (Below.heap_alloc _ _ _ (by simp)).trans (World.alloc_heap_new w _)
 have hz2 : W2.heap[w.heap.size + 1]? = some (.cells #[.int .i64 0] 30 (0, 0)) := by rw [← hW2]; have := World.alloc_heap_new (w.alloc (.cells #[.bool false, .slice none 0 0] 24)) (.cells #[.int .i64 0] 30); rwa [World.size_alloc] at this
 have hsz : W2.heap.size = w.heap.size + 2 := by rw [← hW2]; simp
 have hb2 : Below w.heap.size w W2 := by rw [← hW2]; exact ((Below.refl _ w).alloc (Nat.le_refl _) _).alloc (by simp) _
 have Hsz := Lib.hid hsz
 clear hsz
 go_enter_defers Tryz.func144, Tryz.ntmps144
 go_wp2_with first
  | (refine h.mono ?_; rintro e w' ⟨rfl, hbl⟩)
 have hy1 := (hbl.high w.heap.size hm (by have := Hsz.out; omega)).trans hz1
 have hy2 := (hbl.high (w.heap.size + 1) (by omega) (by have := Hsz.out; omega)).trans hz2
 have hbw : But m w w' := ((But.refl m w).on hm hb2).trans hbl
 refine leaves_cons (f := 200) (args := #[.pointer (some ⟨w.heap.size, 0, none⟩), .pointer (some ⟨w.heap.size + 1, 0, none⟩)]) (by simp) (by simp [go_sem]) ?_
 refine (catch_wrong_int w.heap.size c [] _ _ _ _ hy1 hy2).mono ?_
 rintro e u' w'' ⟨rfl, rfl, hx1, hx2, hbx⟩
 obtain ⟨v0, v1⟩ := cL2 hx1
 have v2 := cell_at hx2 0 _ rfl
 refine ⟨.tuple #[.agg #[.bool false, .slice none 0 0], .int .i64 c], ?_, hbw.onLow hm hbx, rfl⟩
 simp [results, Tryz.results144, go_sem, v0, v1, v2]
def PostL (m : Nat) (z er : Int) (w : World) (e : Ending) (w' : World) : Prop :=
 (er = 0 → ∃ s A c l, e = .returned (iv s A l.length c) ∧ IsZ s l z ∧ l.length ≤ c ∧ Rd w' A l ∧ But m w w') ∧ (er ≠ 0 → e = .panicked (wrong er) ∧ z = 0 ∧ But m w w')
def RetZL (m : Nat) (z er : Int) (w : World) (e : Ending) (w' : World) : Prop :=
 ∃ s A c l, e = .returned (.tuple #[iv s A l.length c, .int .i64 er]) ∧ IsZ s l z ∧ l.length ≤ c ∧ Rd w' A l ∧ But m w w'
theorem try_low (m : Nat) (G : Nat) (caps : Array Value) (hG : ∀ (args : Array Value) (w : World), (callFunc G args).run Tryz.prog w = .ok (.enter G args) w) (w : World) (hm : m < w.heap.size) (z er : Int)
 (h : Calls Tryz.prog G caps ((w.alloc (.cells #[.bool false, .slice none 0 0] 24)).alloc (.cells #[.int .i64 0] 30)) (PostL m z er ((w.alloc (.cells #[.bool false, .slice none 0 0] 24)).alloc (.cells #[.int .i64 0] 30)))) (hz : er ≠ 0 → z = 0) :
 Calls Tryz.prog 144 #[.func (.func G) #[] caps] w (RetZL m z er w) := by
 by_cases h0 : er = 0
 · subst h0
   refine (try_low_ok m G caps hG w hm _ rfl (fun s A n c w1 => ∃ l, n = l.length ∧ IsZ s l z ∧ l.length ≤ c ∧ Rd w1 A l) (h.mono ?_)).mono ?_
   · rintro e w' ⟨h1, -⟩
     obtain ⟨s, A, c, l, rfl, h2, h3, h4, h5⟩ := h1 rfl
     exact ⟨s, A, l.length, c, rfl, ⟨l, rfl, h2, h3, h4⟩, h5⟩
   · rintro e w' ⟨s, A, n, c, w1, ⟨l, rfl, h2, h3, h4⟩, h5, h6, rfl⟩
     exact ⟨s, A, c, l, rfl, h2, h3, h6 _ _ h4, h5⟩
 · obtain rfl := hz h0
   refine (try_low_wrong m G caps hG w hm _ rfl er (h.mono ?_)).mono ?_
   · rintro e w' ⟨-, h1⟩
     obtain ⟨h2, -, h3⟩ := h1 h0
     exact ⟨h2, h3⟩
   · rintro e w' ⟨h1, rfl⟩
     exact ⟨false, none, 0, [], rfl, isZ_zero, Nat.le_refl _, Rd.nil _ _, h1⟩
def PostS (s : ByteArray) (er : Int) (w : World) (e : Ending) (w' : World) : Prop :=
 (er = 0 → e = .returned (.string s) ∧ Below w.heap.size w w') ∧ (er ≠ 0 → e = .panicked (wrong er) ∧ s = ⟨#[]⟩ ∧ Below w.heap.size w w')
def RetSE (s : ByteArray) (er : Int) (w : World) (e : Ending) (w' : World) : Prop :=
 e = .returned (.tuple #[.string s, .int .i64 er]) ∧ Below w.heap.size w w'
theorem try_str (G : Nat) (caps : Array Value) (hG : ∀ (args : Array Value) (w : World), (callFunc G args).run Tryz.prog w = .ok (.enter G args) w) (w : World) (s : ByteArray) (er : Int)
 (h : Calls Tryz.prog G caps ((w.alloc (.cells #[.string ⟨#[]⟩] 9)).alloc (.cells #[.int .i64 0] 30)) (PostS s er ((w.alloc (.cells #[.string ⟨#[]⟩] 9)).alloc (.cells #[.int .i64 0] 30)))) (hz : er ≠ 0 → s = ⟨#[]⟩) :
 Calls Tryz.prog 170 #[.func (.func G) #[] caps] w (RetSE s er w) := by
 by_cases h0 : er = 0
 · subst h0
   refine (try_str_ok G caps hG w _ rfl (fun x w1 => x = s) (h.mono ?_)).mono ?_
   · rintro e w' ⟨h1, -⟩
     exact ⟨s, (h1 rfl).1, rfl, (h1 rfl).2⟩
   · rintro e w' ⟨x, w1, rfl, h5, h6, rfl⟩
     exact ⟨rfl, h5⟩
 · obtain rfl := hz h0
   refine (try_str_wrong G caps hG w _ rfl er (h.mono ?_)).mono ?_
   · rintro e w' ⟨-, h1⟩
     obtain ⟨h2, -, h3⟩ := h1 h0
     exact ⟨h2, h3⟩
   · rintro e w' ⟨h1, rfl⟩
     exact ⟨rfl, h1⟩
theorem text1_bad (g1 g2 : Nat) (n1 : Bool) (n : Int) (A1 : Option Addr) (c1 : Nat) (l1 : List Nat) (w : World) (h1 : IntBox w g1 n1 A1 c1 l1) (h2 : Blk w g2 #[.int .i64 n] 3) (hbad : okI n1 l1 = false) :
 Calls Tryz.prog 171 #[.pointer (some ⟨g1, 0, none⟩), .pointer (some ⟨g2, 0, none⟩)] w fun e w' => e = .panicked (wrong 1) ∧ Below w.heap.size w w' := by
 obtain ⟨x0, x1⟩ := cL2 h1.blk
 have y0 := cell_at h2.h 0 _ rfl
 have hb0 : ∀ o, Below w.heap.size w (w.alloc o) := fun o => (Below.refl _ w).alloc (Nat.le_refl _) _
 have hf := formed_one w.heap.size n1 A1 c1 l1 _ (World.alloc_heap_new w (.cells #[.bool n1, .slice A1 l1.length c1] 24)) (h1.rd.on (hb0 _)) h1.cap
 go_enter Tryz.func171, Tryz.ntmps171
 go_wp2_with (go_at_call 146; refine hf.mono ?_; rintro e w' ⟨-, hp, hbl⟩; cases hp hbad)
 exact ⟨rfl, rfl, (hb0 _).trans (hbl.mono (hb0 _).size)⟩
theorem text1_range (g1 g2 : Nat) (n1 : Bool) (n : Int) (A1 : Option Addr) (c1 : Nat) (l1 : List Nat) (w : World) (h1 : IntBox w g1 n1 A1 c1 l1) (h2 : Blk w g2 #[.int .i64 n] 3) (hok : okI n1 l1 = true) (h0 : ¬ (2 ≤ n ∧ n ≤ 36)) :
 Calls Tryz.prog 171 #[.pointer (some ⟨g1, 0, none⟩), .pointer (some ⟨g2, 0, none⟩)] w fun e w' => e = .panicked (wrong 1) ∧ Below w.heap.size w w' := by
 obtain ⟨x0, x1⟩ := cL2 h1.blk
 have y0 := cell_at h2.h 0 _ rfl
 have hb0 : ∀ o, Below w.heap.size w (w.alloc o) := fun o => (Below.refl _ w).alloc (Nat.le_refl _) _
 have hf := formed_one w.heap.size n1 A1 c1 l1 _ (World.alloc_heap_new w (.cells #[.bool n1, .slice A1 l1.length c1] 24)) (h1.rd.on (hb0 _)) h1.cap
 by_cases hn : 2 ≤ n
 · have hn2 : decide (n ≤ 36) = false := decide_eq_false fun h => h0 ⟨hn, h⟩
   clear h0
   go_enter Tryz.func171, Tryz.ntmps171
   go_wp2_with first
    | (go_at_call 146; refine hf.mono ?_; rintro e w' ⟨hp, -, hbl⟩; cases hp hok; have hb3 := (hb0 _).trans (hbl.mono (hb0 _).size); obtain ⟨p0, p1⟩ := cL2 (h1.on hb3).blk; have p2 := cell_at (h2.on hb3).h 0 _ rfl)
    | (go_at_call 152; refine (must_no 1 _).mono ?_; rintro e w5 ⟨rfl, rfl⟩)
   exact ⟨rfl, rfl, hb3⟩
 · clear h0
   go_enter Tryz.func171, Tryz.ntmps171
   go_wp2_with first
    | (go_at_call 146; refine hf.mono ?_; rintro e w' ⟨hp, -, hbl⟩; cases hp hok; have hb3 := (hb0 _).trans (hbl.mono (hb0 _).size); obtain ⟨p0, p1⟩ := cL2 (h1.on hb3).blk; have p2 := cell_at (h2.on hb3).h 0 _ rfl)
    | (go_at_call 152; refine (must_no 1 _).mono ?_; rintro e w5 ⟨rfl, rfl⟩)
   exact ⟨rfl, rfl, hb3⟩
theorem textR_zero (n1 : Bool) (l1 : List Nat) (n : Int) : (textR n1 l1 n).2 ≠ 0 → strB (textR n1 l1 n).1 = ⟨#[]⟩ := by
 unfold textR
 split
 · intro h; exact absurd rfl h
 · intro _; rfl
theorem text1_calls (g1 g2 : Nat) (n1 : Bool) (n : Int) (A1 : Option Addr) (c1 : Nat) (l1 : List Nat) (w : World) (h1 : IntBox w g1 n1 A1 c1 l1) (h2 : Blk w g2 #[.int .i64 n] 3) (hd : DigW w) :
 Calls Tryz.prog 171 #[.pointer (some ⟨g1, 0, none⟩), .pointer (some ⟨g2, 0, none⟩)] w (PostS (strB (textR n1 l1 n).1) (textR n1 l1 n).2 w) := by
 unfold textR
 by_cases hok : okI n1 l1 = true
 · by_cases hn : 2 ≤ n ∧ n ≤ 36
   · have hc : (okI n1 l1 && (decide (2 ≤ n) && decide (n ≤ 36))) = true := by rw [hok, decide_eq_true hn.1, decide_eq_true hn.2]; rfl
     rw [if_pos hc]
     obtain ⟨m, rfl⟩ : ∃ m : Nat, n = (m : Int) := ⟨n.toNat, by omega⟩
     rw [Int.toNat_natCast]
     exact (text1_ok g1 g2 n1 m A1 c1 l1 w h1 h2 hd (okI_isInt h1.rd.words hok) hok (by omega) (by omega)).mono fun e w' h => ⟨fun _ => h, fun h => absurd rfl h⟩
   · have hc : ¬ (okI n1 l1 && (decide (2 ≤ n) && decide (n ≤ 36))) = true := by
      intro h
      rw [Bool.and_eq_true, Bool.and_eq_true, decide_eq_true_eq, decide_eq_true_eq] at h
      exact hn h.2
     rw [if_neg hc]
     exact (text1_range g1 g2 n1 n A1 c1 l1 w h1 h2 hok hn).mono fun e w' h => ⟨fun h => absurd h (by decide), fun _ => ⟨h.1, rfl, h.2⟩⟩
 · have hc : ¬ (okI n1 l1 && (decide (2 ≤ n) && decide (n ≤ 36))) = true := by
    intro h
    rw [Bool.and_eq_true] at h
    exact hok h.1
   rw [if_neg hc]
   exact (text1_bad g1 g2 n1 n A1 c1 l1 w h1 h2 (by simpa using hok)).mono fun e w' h => ⟨fun h => absurd h (by decide), fun _ => ⟨h.1, rfl, h.2⟩⟩
theorem Text_calls (n1 : Bool) (n : Int) (A1 : Option Addr) (c1 : Nat) (l1 : List Nat) (w : World) (h1 : Rd w A1 l1) (hc1 : l1.length ≤ c1) (hd : DigW w) :
 Calls Tryz.prog 100 #[iv n1 A1 l1.length c1, .int .i64 n] w (RetSE (strB (textR n1 l1 n).1) (textR n1 l1 n).2 w) := by
 have hmf := mkf
 obtain ⟨W2, hW2⟩ : ∃ W2, (w.alloc (.cells #[.bool n1, .slice A1 l1.length c1] 24)).alloc (.cells #[.int .i64 n] 3) = W2 := ⟨_, rfl⟩
 have hb2 : Below w.heap.size w W2 := by rw [← hW2]; exact ((Below.refl _ w).alloc (Nat.le_refl _) _).alloc (by simp) _
 have B1 : IntBox W2 w.heap.size n1 A1 c1 l1 := ⟨by rw [← hW2]; exact (two_old w _ _ rfl).h, h1.on hb2, hc1⟩
 have B2 : Blk W2 (w.heap.size + 1) #[.int .i64 n] 3 := ⟨by rw [← hW2]; exact two_blk w _ _⟩
 have hB4 : ∀ o o', Below W2.heap.size W2 ((W2.alloc o).alloc o') := fun o o' => ((Below.refl _ W2).alloc (Nat.le_refl _) _).alloc (by simp) _
 have ht := try_str 171 #[.pointer (some ⟨w.heap.size, 0, none⟩), .pointer (some ⟨w.heap.size + 1, 0, none⟩)] (enters_of Tryz.func171 (by kernel_rfl) rfl) W2 _ _ (text1_calls _ _ n1 n A1 c1 l1 _ (B1.on (hB4 _ _)) (B2.on (hB4 _ _)) ((hd.on hb2).on (hB4 _ _))) (textR_zero n1 l1 n)
 generalize strB (textR n1 l1 n).1 = z at *
 generalize (textR n1 l1 n).2 = er at *
 go_enter Tryz.func100, Tryz.ntmps100
 go_wp2_with (go_at_call 170; refine ht.mono ?_; rintro e w' ⟨rfl, hb⟩)
 go_ret2
 exact ⟨rfl, hb2.trans (hb.mono hb2.size)⟩
end Nm
end Go.Proofs.YtjghnghceeijeaaGreatDoor
