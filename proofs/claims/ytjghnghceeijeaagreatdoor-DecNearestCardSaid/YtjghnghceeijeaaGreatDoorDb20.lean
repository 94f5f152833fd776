/-
  Contracts of the walks below.
-/
import Derived.Test.YtjghnghceeijeaaGreatDoorDb19
set_option maxRecDepth 100000
set_option maxHeartbeats 4000000
set_option linter.unusedVariables false
set_option linter.unusedSimpArgs false
namespace Go.Proofs.YtjghnghceeijeaaGreatDoor
namespace Nm
open Go.RowKit Go.Shelf Go.BigFrame
attribute [local go_sem] Oper.semAt_some
theorem digV_good {b c : Nat} (hb : b ≤ 36) (h : digV 36 c < b) : digV 99 c = digV 36 c := by
 unfold digV at *
 split
 · rfl
 · rename_i h1
   rw [if_neg h1] at h
   split
   · rfl
   · rename_i h2
     rw [if_neg h2] at h
     split
     · rfl
     · rename_i h3
       rw [if_neg h3] at h
       omega
theorem getD_drop (cs : List Nat) (a k : Nat) : (cs.drop a).getD k 0 = cs.getD (a + k) 0 := by
 rw [List.getD_eq_getElem?_getD, List.getElem?_drop, List.getD_eq_getElem?_getD]
theorem parV_from {b a f : Nat} {cs : List Nat} (hf : f ≤ cs.length) (haf : a ≤ f) (h : ∀ k, a ≤ k → k < f → digV 36 (cs.getD k 0) = 0) : parV b (cs.drop f) = parV b (cs.drop a) := by
 have e : cs.drop f = (cs.drop a).drop (f - a) := by rw [List.drop_drop]; congr 1; omega
 rw [e]
 refine parV_drop b (cs.drop a) (f - a) (fun k hk => ?_) (by rw [List.length_drop]; omega)
 rw [getD_drop]
 exact h (a + k) (by omega) (by omega)
theorem parV_le {b : Nat} (hb : 1 ≤ b) (cs : List Nat) (k : Nat) : parV b (cs.take k) ≤ parV b cs := by
 have e : parV b cs = parV b (cs.take k) * b ^ ((cs.drop k).map (digV 36)).length + numOf b ((cs.drop k).map (digV 36)) := by
  conv => lhs; rw [← List.take_append_drop k cs]
  unfold parV
  rw [List.map_append]
  show List.foldl _ _ _ = _
  rw [List.foldl_append]
  exact numOf_from b _ _
 rw [e]
 have h1 := Nat.pow_pos (show 0 < b by omega) (n := ((cs.drop k).map (digV 36)).length)
 exact Nat.le_trans (Nat.le_mul_of_pos_right _ h1) (Nat.le_add_right _ _)
theorem parV_one {b f i c : Nat} {cs : List Nat} (hfi : f ≤ i) (hi : i < cs.length) (hc : cs.getD i 0 = c) : parV b ((cs.drop f).take (i + 1 - f)) = parV b ((cs.drop f).take (i - f)) * b + digV 36 c := by
 have h := parV_take (b := b) (cs := cs.drop f) (k := i - f) (c := c) (by rw [List.length_drop]; omega) (by rw [getD_drop]; rw [show f + (i - f) = i by omega]; exact hc)
 rwa [show i - f + 1 = i + 1 - f by omega] at h
theorem byte_lt (S : ByteArray) {i : Nat} (hi : i < S.size) : (bytesN S).getD i 0 < 256 := by
 rw [List.getD_eq_getElem?_getD, List.getElem?_eq_getElem (by rw [bytesN_length]; exact hi)]
 exact bytesN_lt _ _ (List.getElem_mem _)
set_option maxHeartbeats 16000000 in
theorem RParse_good_f (b : Nat) (S : ByteArray) (w : World) (hb1 : 2 ≤ b) (hb2 : b ≤ 36) (c0 : Nat) (hc0 : ∀ h, (S[0]'h).toNat = c0) (hneg : ((c0 : Int) == 45) = false) (hsm : S.size < 35184372088832) (hSz : 0 < S.size) (hall : ∀ k, 0 ≤ k → k < S.size → digV 36 ((bytesN S).getD k 0) < b) :
 Calls Tryz.prog 115 #[.string S, .int .i64 (b : Int)] w (RetGot (fitZ (((parV b ((bytesN S).drop 0) : Nat) : Nat) : Int)).1 (fitZ (((parV b ((bytesN S).drop 0) : Nat) : Nat) : Int)).2 w) := by
 obtain ⟨W1, hW1⟩ : ∃ W1, w.alloc (.cells #[.bool false, .slice none 0 0, .int .i64 0] 105) = W1 := ⟨_, rfl⟩
 have hb : Below w.heap.size w W1 := by rw [← hW1]; exact al1 _ _
 have hR : Blk W1 w.heap.size #[.bool false, .slice none 0 0, .int .i64 0] 105 := ⟨by rw [← hW1]; exact World.alloc_heap_new w _⟩
 obtain ⟨rz0, rz1, rz2⟩ := cL3 hR.h
 obtain ⟨ru0, ru1, ru2⟩ := fZ3 hR.h
 have dS : decide (0 < S.size) = true := decide_eq_true (by omega)
 have dz0 : ((0 : Int) == (S.size : Int)) = false := by rw [beq_eq_false_iff_ne]; omega
 have dz1 : (0 == S.size) = false := by rw [beq_eq_false_iff_ne]; omega
 have dz2 : (S.size == 0) = false := by rw [beq_eq_false_iff_ne]; omega
 have Hall := Lib.hid hall
 clear hall
 obtain ⟨F, hF⟩ : ∃ F, fitZ (((parV b ((bytesN S).drop 0) : Nat) : Nat) : Int) = F := ⟨_, rfl⟩
 rw [hF]
 have HF := Lib.hid hF
 clear hF
 go_enter Tryz.func115, Tryz.ntmps115
 go_wp2_with fail
 go_loop [6] (fun iv => ∃ i : Nat, iv = .int .i64 (i : Int) ∧ 0 ≤ i ∧ i ≤ S.size) (fun iv => S.size + 1 - (intOf iv).toNat)
 case atStart => exact ⟨0, rfl, Nat.le_refl _, by omega⟩
 case round =>
  obtain ⟨i, rfl, hAi, hiS⟩ := hrel
  by_cases ilt : i < S.size
  · have hget := getB ilt
    obtain ⟨c, hc⟩ : ∃ c, (bytesN S).getD i 0 = c := ⟨_, rfl⟩
    have hc256 : c < 256 := by rw [← hc]; exact byte_lt S ilt
    rw [hc] at hget
    have hgd := Hall.out i hAi ilt
    rw [hc] at hgd
    have hdg := Rdigit_calls c hc256 W1
    rw [digV_good hb2 hgd] at hdg
    obtain ⟨d, hd⟩ : ∃ d, digV 36 c = d := ⟨_, rfl⟩
    rw [hd] at hdg hgd
    have hiI : (i : Int) < (S.size : Int) := by omega
    have dI : ¬ (b : Int) ≤ (d : Int) := by omega
    clear hd hc hgd
    go_wp2_with (go_at_call 194; refine hdg.mono ?_; rintro e w6 ⟨rfl, rfl⟩)
    go_round
    case rel => exact ⟨i + 1, by simp, by omega, by omega⟩
    case measure => simp only [intOf]; omega
  · have hi0 : ¬ (i : Int) < (S.size : Int) := by omega
    go_wp2_with fail
    go_loop [5] (fun fv => ∃ f : Nat, fv = .int .i64 (f : Int) ∧ 0 ≤ f ∧ f ≤ S.size ∧ Hid (∀ k, 0 ≤ k → k < f → digV 36 ((bytesN S).getD k 0) = 0)) (fun fv => S.size + 1 - (intOf fv).toNat)
    case atStart => exact ⟨0, rfl, Nat.le_refl _, by omega, fun k h1 h2 => by omega⟩
    case round =>
     obtain ⟨f, rfl, hAf, hfS, hz⟩ := hrel
     clear hiS ilt hi0 hAi
     by_cases hgo : f < S.size ∧ (bytesN S).getD f 0 = 48
     · obtain ⟨flt, hc48⟩ := hgo
       have hget := getB flt
       rw [hc48] at hget
       have hfI : (f : Int) < (S.size : Int) := by omega
       have Hc := Lib.hid hc48
       clear hc48
       go_wp2_with fail
       go_round
       case rel =>
        refine ⟨f + 1, by simp, by omega, by omega, ?_⟩
        intro k h1 h2
        rcases Nat.lt_or_ge k f with h | h
        · exact hz.out k h1 h
        · obtain rfl : k = f := by omega
          rw [Hc.out]; rfl
       case measure => simp only [intOf]; omega
     · have hV := parV_from (b := b) (cs := bytesN S) (by rw [bytesN_length]; exact hfS) hAf hz.out
       have HV := Lib.hid hV
       clear hV
       have hfS' := hfS
       rcases (show (f < S.size ∧ ¬ (bytesN S).getD f 0 = 48) ∨ f = S.size by omega) with ⟨flt, hc48⟩ | hfe
       · have hget := getB flt
         obtain ⟨cf, hcf⟩ : ∃ c, (bytesN S).getD f 0 = c := ⟨_, rfl⟩
         rw [hcf] at hget hc48
         have hq0 : ((cf : Int) == 48) = false := by rw [beq_eq_false_iff_ne]; omega
         have hq1 : (cf == 48) = false := by rw [beq_eq_false_iff_ne]; omega
         have hfI : (f : Int) < (S.size : Int) := by omega
         clear hgo hcf hc48
         go_wp2_with fail
         have hzb : (bytesN S).length = S.size := bytesN_length S
         have HZB := Lib.hid hzb
         have bz := al1 W1 (.cells #[.bool false, .slice none 0 0] 24)
         have O1 : HoldsZ (W1.alloc (.cells #[.bool false, .slice none 0 0] 24)) W1.heap.size false none 0 [] ((0 : Nat) : Int) := ⟨⟨World.alloc_heap_new W1 _⟩, isZ_zero, Rd.nil _ _, Nat.le_refl _⟩
         have O1' := O1
         have ls1 : W1.heap.size < (W1.alloc (.cells #[.bool false, .slice none 0 0] 24)).heap.size := by rw [World.size_alloc]; omega
         clear hzb O1 hW1 rz0 rz1 rz2 ru0 ru1 ru2 hz
         go_loopw [8] (fun iv W => ∃ (i x : Nat) (s : Bool) (A' : Option Addr) (c' : Nat) (l' : List Nat), iv = .int .i64 (i : Int) ∧ f ≤ i ∧ i ≤ S.size ∧ HoldsZ W W1.heap.size s A' c' l' (x : Int) ∧ l'.length ≤ 300 ∧ Below W1.heap.size W1 W ∧ W1.heap.size < W.heap.size ∧ Hid (x = parV b (((bytesN S).drop f).take (i - f)))) (fun iv _ => S.size + 1 - (intOf iv).toNat)
         case atStart => exact ⟨f, 0, false, none, 0, [], rfl, Nat.le_refl _, hfS', O1', Nat.zero_le _, bz, ls1, by show _ = _; rw [Nat.sub_self, List.take_zero]; rfl⟩
         case round =>
          clear O1' bz ls1
          obtain ⟨i, x, s, A', c', l', rfl, hfi, hiS, hH, hl', hbl, hlt, hxv⟩ := hrel
          have hz' := hH.isz
          have Bx : IntBox wr W1.heap.size s A' c' l' := ⟨hH.blk.h, hH.rd, hH.cap⟩
          obtain ⟨x0, x1⟩ := cL2 Bx.blk
          have hVx : Hid (parV b (((bytesN S).drop f).take (i - f)) ≤ parV b ((bytesN S).drop 0)) := by show _ ≤ _; rw [← HV.out]; exact parV_le (by omega) _ _
          by_cases ilt : i < S.size
          · have hget := getB ilt
            obtain ⟨c, hc⟩ : ∃ c, (bytesN S).getD i 0 = c := ⟨_, rfl⟩
            have hc256 : c < 256 := by rw [← hc]; exact byte_lt S ilt
            rw [hc] at hget
            have hgd := Hall.out i (by omega) ilt
            rw [hc] at hgd
            have hdg := fun W => Rdigit_calls c hc256 W
            rw [digV_good hb2 hgd] at hdg
            have hone := parV_one (b := b) (cs := bytesN S) hfi (by rw [HZB.out]; exact ilt) hc
            have hV2 : parV b (((bytesN S).drop f).take (i + 1 - f)) ≤ parV b ((bytesN S).drop 0) := by rw [← HV.out]; exact parV_le (by omega) _ _
            obtain ⟨d, hd⟩ : ∃ d, digV 36 c = d := ⟨_, rfl⟩
            rw [hd] at hdg hgd hone
            rw [← hxv.out] at hone
            obtain ⟨y, hy⟩ : ∃ y, x * b + d = y := ⟨_, rfl⟩
            rw [hy] at hone
            rw [hone] at hV2
            have Hone := Lib.hid hone
            have HV2 := Lib.hid hV2
            have hyI : (x : Int) * (b : Int) + (d : Int) = (y : Int) := by rw [← hy]; simp
            have HyI := Lib.hid hyI
            have hiI : (i : Int) < (S.size : Int) := by omega
            have hb36 : (lim ((b : Int)).natAbs).length ≤ 65536 := Nat.le_trans (length_le_of_lt (k := 1) (by rw [Int.natAbs_natCast, Nat.pow_one]; show b < 4294967296; omega)) (by decide)
            have hd36 : (lim ((d : Int)).natAbs).length ≤ 65536 := Nat.le_trans (length_le_of_lt (k := 1) (by rw [Int.natAbs_natCast, Nat.pow_one]; show d < 4294967296; omega)) (by decide)
            have hlx : (lim ((x : Int) * (b : Int)).natAbs).length ≤ 301 := by
             refine len_mul2 (k := 300) (j := 1) ?_ ?_
             · rw [← hz'.abs]; exact hl'
             · exact length_le_of_lt (k := 1) (by rw [Int.natAbs_natCast, Nat.pow_one]; show b < 4294967296; omega)
            have Hlx := Lib.hid hlx
            clear hd hc hone hV2 hy hyI hlx hxv hVx hH
            go_wp2_with fail
            refine wp_region_T (S := (fun w'' => w''.cell? ⟨W1.heap.size, 0, none⟩ = some (.bool s) ∧ w''.cell? ⟨W1.heap.size, 1, none⟩ = some (.slice A' l'.length c'))) (k := 10) (by kernel_rfl) ?_
            refine wpAnyT_take (i := 0) (v := Value.agg #[.bool s, .slice A' l'.length c']) rfl (by kernel_rfl) (by kernel_rfl) (by kernel_rfl) (by kernel_rfl) (fun _ _ _ h => h) (Or.inl ⟨by rfl, fun w hSw => by (try dsimp only at hSw); go_simp⟩) ⟨x0, x1⟩ ?_
            try simp only [Act.put, List.setIfInBounds_toArray]
            refine wpAnyT_take (i := 1) (v := Value.int .i64 (b : Int)) rfl (by kernel_rfl) (by kernel_rfl) (by kernel_rfl) (by kernel_rfl) (fun _ _ _ h => h) (Or.inl ⟨by rfl, fun w hSw => by (try dsimp only at hSw); go_simp⟩) ⟨x0, x1⟩ ?_
            try simp only [Act.put]
            refine wpAnyT_take (i := 4) (v := Value.string S) rfl (by kernel_rfl) (by kernel_rfl) (by kernel_rfl) (by kernel_rfl) (fun _ _ _ h => h) (Or.inl ⟨by rfl, fun w hSw => by (try dsimp only at hSw); go_simp⟩) ⟨x0, x1⟩ ?_
            try simp only [Act.put]
            refine wpAnyT_take (i := 5) (v := Value.int .i64 (i : Int)) rfl (by kernel_rfl) (by kernel_rfl) (by kernel_rfl) (by kernel_rfl) (fun _ _ _ h => h) (Or.inl ⟨by rfl, fun w hSw => by (try dsimp only at hSw); go_simp⟩) ⟨x0, x1⟩ ?_
            try simp only [Act.put]
            refine wpAnyT_take (i := 6) (v := Value.int .u8 (c : Int)) rfl (by kernel_rfl) (by kernel_rfl) (by kernel_rfl) (by kernel_rfl) (fun _ _ _ h => h) (Or.inl ⟨by rfl, fun w hSw => by (try dsimp only at hSw); go_simp⟩) ⟨x0, x1⟩ ?_
            try simp only [Act.put]
            refine wpAnyT_one (i := 2) (by kernel_rfl) rfl (fun K hK => ?_)
            go_simp
            go_at_call 45; refine (ROf_calls (b : Int) _ (by omega) (by omega)).mono ?_; rintro e w30 ⟨s30, A30, c30, l30, rfl, z30, n30, r30, b30⟩; have q30 := (below_drew (Below.refl _ wr)).trans b30; have B30 := Bx.on q30; obtain ⟨k0, k1⟩ := cL2 B30.blk
            go_wp2_with fail
            refine hK.out _ _ (Or.inr ⟨k0, k1⟩) ?_
            clear hK K
            try simp only [Act.put, aQ, bQ, cQ]
            refine wpAnyT_one (i := 3) (by kernel_rfl) rfl (fun K hK => ?_)
            go_simp
            go_at_call 34; have hmark := q30; refine (Times_z s s30 A' A30 c' c30 l' l30 _ _ _ B30.rd r30 B30.cap n30 hz' z30 (by omega) (z30.len_le hb36)).mono ?_; rintro e w31 ⟨s31, A31, c31, l31, rfl, z31, n31, r31, b31⟩; have q31 := q30.trans (b31.mono q30.size); have B31 := Bx.on q31; obtain ⟨m0, m1⟩ := cL2 B31.blk
            go_wp2_with fail
            refine hK.out _ _ (Or.inr ⟨m0, m1⟩) ?_
            clear hK K
            try simp only [Act.put, aQ, bQ, cQ]
            refine wpAnyT_one (i := 7) (by kernel_rfl) rfl (fun K hK => ?_)
            go_simp
            go_at_call 194; have hmark := q31; refine (hdg _).mono ?_; rintro e w32 ⟨rfl, rfl⟩; have q32 := q31
            go_wp2_with fail
            refine hK.out _ _ (Or.inr ⟨m0, m1⟩) ?_
            clear hK K
            try simp only [Act.put, aQ, bQ, cQ]
            refine wpAnyT_one (i := 8) (by kernel_rfl) rfl (fun K hK => ?_)
            go_simp
            go_at_call 45; have hmark := q32; refine (ROf_calls (d : Int) _ (by omega) (by omega)).mono ?_; rintro e w33 ⟨s33, A33, c33, l33, rfl, z33, n33, r33, b33⟩; have q33 := q31.trans (b33.mono q31.size); have r31' := r31.on b33; have B33 := Bx.on q33; obtain ⟨o0, o1⟩ := cL2 B33.blk
            go_wp2_with fail
            refine hK.out _ _ (Or.inr ⟨o0, o1⟩) ?_
            clear hK K
            try simp only [Act.put, aQ, bQ, cQ]
            refine wpAnyT_one (i := 9) (by kernel_rfl) rfl (fun K hK => ?_)
            go_simp
            go_at_call 46; have hmark := q33; refine (Sum_calls s31 s33 A31 A33 c31 c33 l31 l33 _ _ _ r31' r33 n31 n33 z31 z33 (z31.len_le (Nat.le_trans Hlx.out (by decide))) (z33.len_le hd36)).mono ?_; rintro e w34 ⟨s34, A34, c34, l34, rfl, z34, n34, r34, b34⟩; have q34 := q33.trans (b34.mono q33.size); have B34 := Bx.on q34; obtain ⟨v0, v1⟩ := cL2 B34.blk; obtain ⟨v2, v3⟩ := fZ2 B34.blk
            go_wp2_with fail
            refine hK.out _ _ (Or.inr ⟨v0, v1⟩) ?_
            clear hK K
            try simp only [Act.put, aQ, bQ, cQ]
            refine wpAnyT_one (i := 10) (by kernel_rfl) rfl (fun K hK => ?_)
            go_simp
            refine hK.out _ _ (Or.inl rfl) ?_
            clear hK K
            try simp only [Act.put, aQ, bQ, cQ]
            refine wpAnyT_done (by kernel_rfl) ?_ _
            rw [HyI.out] at z34
            have hS := holds_set ⟨B34.blk⟩ (by simp) (by simp) z34 r34 n34
            have bw := (hbl.trans (q34.mono hbl.size)).setCell (p := ⟨W1.heap.size, 0, none⟩) (Nat.le_refl _) (.bool s34)
            have bw2 := bw.setCell (p := ⟨W1.heap.size, 1, none⟩) (Nat.le_refl _) (.slice A34 l34.length c34)
            have hlt2 : W1.heap.size < ((w34.setCell ⟨W1.heap.size, 0, none⟩ (.bool s34)).setCell ⟨W1.heap.size, 1, none⟩ (.slice A34 l34.length c34)).heap.size := by have := q34.size; simp [World.setCell]; omega
            obtain ⟨Y, hY⟩ : ∃ Y, (w34.setCell ⟨W1.heap.size, 0, none⟩ (.bool s34)).setCell ⟨W1.heap.size, 1, none⟩ (.slice A34 l34.length c34) = Y := ⟨_, rfl⟩
            rw [hY] at hS bw2 hlt2 ⊢
            clear hY v0 v1 v2 v3 x0 x1 k0 k1 m0 m1 o0 o1 bw
            obtain ⟨y0, y1⟩ := cL2 hS.blk.h
            have rq := hR.on bw2
            obtain ⟨rz0, rz1, rz2⟩ := cL3 rq.h
            obtain ⟨ru0, ru1, ru2⟩ := fZ3 rq.h
            by_cases hbig : 300 < l34.length
            · have hbI : (300 : Int) < (l34.length : Int) := by omega
              have hbz : 300 < (lim y).length := by have := hS.isz.abs; rw [Int.natAbs_natCast] at this; rw [← this]; exact hbig
              have hFF : F = (0, 3) := by rw [← HF.out]; exact fit_big (by (first | rw [Int.natAbs_neg, Int.natAbs_natCast] | rw [Int.natAbs_natCast]); exact Nat.lt_of_lt_of_le hbz (length_mono HV2.out))
              have HFF := Lib.hid hFF
              clear hFF hbz
              go_wp2_with fail
              rw [HFF.out]
              exact ret_cellT rfl Tryz.underlying105 got_size rfl rfl (set3 rq.h _ _ _) rfl ⟨false, none, 0, [], rfl, isZ_zero, Nat.le_refl _, Rd.nil _ _, ((((hb.trans (bw2.mono hb.size)).setCell (Nat.le_refl _) _).setCell (Nat.le_refl _) _).setCell (Nat.le_refl _) _)⟩
            · have hbI : ¬ (300 : Int) < (l34.length : Int) := by omega
              go_wp2_with fail
              refine ⟨⟨i + 1, y, s34, A34, c34, l34, by simp, by omega, by omega, hS, by omega, bw2, hlt2, Hone.out.symm⟩, by simp only [intOf]; omega⟩
          · obtain rfl : i = S.size := by omega
            have hxe : x = parV b ((bytesN S).drop 0) := by
             rw [hxv.out, ← HV.out, List.take_of_length_le (by rw [List.length_drop, HZB.out]; omega)]
            have hFF : F = ((x : Int), 0) := by
             rw [← HF.out, ← hxe]; unfold fitZ
             rw [if_pos (by (first | rw [Int.natAbs_neg, Int.natAbs_natCast] | rw [Int.natAbs_natCast]); have := hz'.abs; rw [Int.natAbs_natCast] at this; rw [← this]; exact hl')]
            have HFF := Lib.hid hFF
            have hm := fun W h => made_calls false A' c' l' W h hH.cap
            rw [hz'.val, Int.natAbs_natCast] at hm
            have hiI : ¬ (S.size : Int) < (S.size : Int) := by omega
            clear hxe hFF hxv hVx hH ilt hl'
            go_wp2_with fail
            go_region_with (go_at_call 118; refine (hm _ (Bx.rd.on (below_drew (Below.refl _ _)))).mono ?_; rintro e w40 ⟨s40, A40, c40, l40, rfl, z40, n40, r40, b40⟩; have q40 := (below_drew (Below.refl _ wr)).trans b40; have bw := hbl.trans (q40.mono hbl.size); have rq := hR.on bw; obtain ⟨rz0, rz1, rz2⟩ := cL3 rq.h; obtain ⟨ru0, ru1, ru2⟩ := fZ3 rq.h)
            all_goals
             go_wp2_with fail
             rw [HFF.out]
             have hne := r40.ne rq.h (by intro i x h; rcases i with _ | _ | _ | i <;> simp at h)
             exact ret_cellT rfl Tryz.underlying105 got_size rfl rfl (set3 rq.h _ _ _) rfl ⟨s40, A40, c40, l40, rfl, by simpa using z40, n40, ((r40.setNe hne).setNe hne).setNe hne, ((((hb.trans (bw.mono hb.size)).setCell (Nat.le_refl _) _).setCell (Nat.le_refl _) _).setCell (Nat.le_refl _) _)⟩
       · have hfI : ¬ (f : Int) < (S.size : Int) := by omega
         have hfI2 : ¬ f < S.size := by omega
         clear hgo hfe
         go_wp2_with fail
         have hzb : (bytesN S).length = S.size := bytesN_length S
         have HZB := Lib.hid hzb
         have bz := al1 W1 (.cells #[.bool false, .slice none 0 0] 24)
         have O1 : HoldsZ (W1.alloc (.cells #[.bool false, .slice none 0 0] 24)) W1.heap.size false none 0 [] ((0 : Nat) : Int) := ⟨⟨World.alloc_heap_new W1 _⟩, isZ_zero, Rd.nil _ _, Nat.le_refl _⟩
         have O1' := O1
         have ls1 : W1.heap.size < (W1.alloc (.cells #[.bool false, .slice none 0 0] 24)).heap.size := by rw [World.size_alloc]; omega
         clear hzb O1 hW1 rz0 rz1 rz2 ru0 ru1 ru2 hz
         go_loopw [8] (fun iv W => ∃ (i x : Nat) (s : Bool) (A' : Option Addr) (c' : Nat) (l' : List Nat), iv = .int .i64 (i : Int) ∧ f ≤ i ∧ i ≤ S.size ∧ HoldsZ W W1.heap.size s A' c' l' (x : Int) ∧ l'.length ≤ 300 ∧ Below W1.heap.size W1 W ∧ W1.heap.size < W.heap.size ∧ Hid (x = parV b (((bytesN S).drop f).take (i - f)))) (fun iv _ => S.size + 1 - (intOf iv).toNat)
         case atStart => exact ⟨f, 0, false, none, 0, [], rfl, Nat.le_refl _, hfS', O1', Nat.zero_le _, bz, ls1, by show _ = _; rw [Nat.sub_self, List.take_zero]; rfl⟩
         case round =>
          clear O1' bz ls1
          obtain ⟨i, x, s, A', c', l', rfl, hfi, hiS, hH, hl', hbl, hlt, hxv⟩ := hrel
          have hz' := hH.isz
          have Bx : IntBox wr W1.heap.size s A' c' l' := ⟨hH.blk.h, hH.rd, hH.cap⟩
          obtain ⟨x0, x1⟩ := cL2 Bx.blk
          have hVx : Hid (parV b (((bytesN S).drop f).take (i - f)) ≤ parV b ((bytesN S).drop 0)) := by show _ ≤ _; rw [← HV.out]; exact parV_le (by omega) _ _
          by_cases ilt : i < S.size
          · exfalso; omega
          · obtain rfl : i = S.size := by omega
            have hxe : x = parV b ((bytesN S).drop 0) := by
             rw [hxv.out, ← HV.out, List.take_of_length_le (by rw [List.length_drop, HZB.out]; omega)]
            have hFF : F = ((x : Int), 0) := by
             rw [← HF.out, ← hxe]; unfold fitZ
             rw [if_pos (by (first | rw [Int.natAbs_neg, Int.natAbs_natCast] | rw [Int.natAbs_natCast]); have := hz'.abs; rw [Int.natAbs_natCast] at this; rw [← this]; exact hl')]
            have HFF := Lib.hid hFF
            have hm := fun W h => made_calls false A' c' l' W h hH.cap
            rw [hz'.val, Int.natAbs_natCast] at hm
            have hiI : ¬ (S.size : Int) < (S.size : Int) := by omega
            clear hxe hFF hxv hVx hH ilt hl'
            go_wp2_with fail
            go_region_with (go_at_call 118; refine (hm _ (Bx.rd.on (below_drew (Below.refl _ _)))).mono ?_; rintro e w40 ⟨s40, A40, c40, l40, rfl, z40, n40, r40, b40⟩; have q40 := (below_drew (Below.refl _ wr)).trans b40; have bw := hbl.trans (q40.mono hbl.size); have rq := hR.on bw; obtain ⟨rz0, rz1, rz2⟩ := cL3 rq.h; obtain ⟨ru0, ru1, ru2⟩ := fZ3 rq.h)
            all_goals
             go_wp2_with fail
             rw [HFF.out]
             have hne := r40.ne rq.h (by intro i x h; rcases i with _ | _ | _ | i <;> simp at h)
             exact ret_cellT rfl Tryz.underlying105 got_size rfl rfl (set3 rq.h _ _ _) rfl ⟨s40, A40, c40, l40, rfl, by simpa using z40, n40, ((r40.setNe hne).setNe hne).setNe hne, ((((hb.trans (bw.mono hb.size)).setCell (Nat.le_refl _) _).setCell (Nat.le_refl _) _).setCell (Nat.le_refl _) _)⟩
end Nm
end Go.Proofs.YtjghnghceeijeaaGreatDoor
