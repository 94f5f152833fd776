/-
  Contracts of the walks below.
-/
import Derived.Test.YtjghnghceeijeaaGreatDoorDb20
import Derived.Test.YtjghnghceeijeaaGreatDoorDb29
set_option maxRecDepth 100000
set_option maxHeartbeats 4000000
set_option linter.unusedVariables false
set_option linter.unusedSimpArgs false
namespace Go.Proofs.YtjghnghceeijeaaGreatDoor
namespace Dc
open Go.RowKit Go.Shelf Go.BigFrame Go.Proofs.YtjghnghceeijeaaGreatDoor.Nm
attribute [local go_sem] Oper.semAt_some
def dgB (c : Nat) : Bool := decide (48 ≤ c) && decide (c ≤ 57)
def digL (l : List Nat) : List (Nat × Bool) := (List.range l.length).map fun i => (i, dgB (l.getD i 0))
def encD (x : Nat × Bool) : Array Value := #[.int .i64 (x.1 : Int), .bool x.2]
def numL (l : List Nat) : Bool := l.all dgB && !l.isEmpty
theorem digL_length (l : List Nat) : (digL l).length = l.length := by simp [digL]
theorem digL_take {l : List Nat} {k : Nat} (h : k < l.length) : (digL l).take k ++ [(k, dgB (l.getD k 0))] = (digL l).take (k + 1) := by
 have h1 : (digL l)[k]? = some (k, dgB (l.getD k 0)) := by simp [digL, h]
 rw [List.take_add_one, h1]
 rfl
theorem digL_all (l : List Nat) : (∀ y ∈ digL l, y.2 = true) ↔ l.all dgB = true := by
 rw [List.all_eq_true]
 constructor
 · intro h c hc
   obtain ⟨i, hi, rfl⟩ := List.getElem_of_mem hc
   have := h (i, dgB (l.getD i 0)) (by simp only [digL, List.mem_map, List.mem_range]; exact ⟨i, hi, rfl⟩)
   simpa [List.getD_eq_getElem?_getD, List.getElem?_eq_getElem hi] using this
 · intro h y hy
   simp only [digL, List.mem_map, List.mem_range] at hy
   obtain ⟨i, hi, rfl⟩ := hy
   exact h _ (by rw [List.getD_eq_getElem?_getD, List.getElem?_eq_getElem hi]; exact List.getElem_mem hi)
theorem digits1_stops (n : Nat) (B n₀ : Nat) (S : ByteArray) (w : World) (hB : w.cell? ⟨B, 0, none⟩ = some (.string S)) (hlt : B < n₀) (hsm : S.size < 4611686018427387904) :
 SeqStopsK Fence.wide n Tryz.prog 224 #[.pointer (some ⟨B, 0, none⟩)] encD (Below n₀) (fun xs => xs = digL (bytesN S)) (fun pre => pre <+: digL (bytesN S)) S.size w := by
 intro lp J Jx W hW hJ hJx hY h0
 have hB' : W.cell? ⟨B, 0, none⟩ = some (.string S) := (hW.cell (p := ⟨B, 0, none⟩) (World.block_lt_of_cell? w _ hB)).trans hB
 have hl := bytesN_length S
 have hdl := digL_length (bytesN S)
 clear hB hW
 refine callsIn_of_wp Tryz.func224 rfl trivial ?_ rfl
 simp only [Tryz.ntmps224, List.size_toArray, List.length_cons, List.length_nil, Nat.reduceAdd, Nat.reduceSub, Array.replicate_succ, Array.replicate_zero, List.push_toArray, List.append_toArray, List.nil_append, List.cons_append]
 gi_wp2
 gi_loopw [6] (fun i wr => ∃ k : Nat, k ≤ S.size ∧ i = .int .i64 k ∧ J ((digL (bytesN S)).take k) wr ∧ Below n₀ W wr)
  (fun i _ => S.size - (intOf i).toNat)
 case atStart => exact ⟨0, Nat.zero_le _, rfl, by simpa using h0, Below.refl _ _⟩
 case round =>
  obtain ⟨k, hk, rfl, hJs, hnx⟩ := hrel
  by_cases ilt : k < S.size
  · have hget := getB ilt
    have hBr : wr.cell? ⟨B, 0, none⟩ = some (.string S) := (hnx.cell (p := ⟨B, 0, none⟩) hlt).trans hB'
    obtain ⟨c, hc⟩ : ∃ c, (bytesN S).getD k 0 = c := ⟨_, rfl⟩
    have hc256 : c < 256 := by rw [← hc]; exact byte_lt S ilt
    have htk := digL_take (l := bytesN S) (k := k) (by omega)
    rw [hc] at hget htk
    obtain ⟨fn, tmps, assign, body, hy, hR⟩ := hY _ (k, dgB c) wr hJs (by rw [List.length_take, hdl]; omega)
    rw [htk] at hR
    unfold encD at hy
    dsimp only at hy
    have hkI : (k : Int) < (S.size : Int) := by omega
    have e1 : dgB c = (decide (48 ≤ c) && decide (c ≤ 57)) := rfl
    clear hJs hc htk hB'
    rcases (show (48 ≤ c ∧ c ≤ 57) ∨ (48 ≤ c ∧ ¬ c ≤ 57) ∨ ¬ 48 ≤ c by omega) with ⟨h1, h2⟩ | ⟨h1, h2⟩ | h1
    · rw [e1, decide_eq_true h1, decide_eq_true h2, Bool.and_true] at hy
      have i1 : (48 : Int) ≤ (c : Int) := by omega
      have i2 : (c : Int) ≤ 57 := by omega
      gi_wp2
      refine ⟨fun h => by simp [Fence.wide] at h, hR.mono ?_⟩
      rintro e W3 (⟨rfl, hJ3, hk3⟩ | ⟨rfl, hJx3⟩)
      · gi_wp2
        go_roundw
        case rel => exact ⟨k + 1, by omega, by simp, hJ3, hnx.trans hk3⟩
        case measure => simp [intOf]; omega
      · gi_wp2
        refine bodyPost_ret (results_none rfl _ _ _) rfl ?_
        exact ⟨⟨_, rfl⟩, .inr ⟨_, List.take_prefix _ _, hJx3⟩⟩
    · rw [e1, decide_eq_true h1, decide_eq_false h2, Bool.true_and] at hy
      have i1 : (48 : Int) ≤ (c : Int) := by omega
      have i2 : ¬ (c : Int) ≤ 57 := by omega
      gi_wp2
      refine ⟨fun h => by simp [Fence.wide] at h, hR.mono ?_⟩
      rintro e W3 (⟨rfl, hJ3, hk3⟩ | ⟨rfl, hJx3⟩)
      · gi_wp2
        go_roundw
        case rel => exact ⟨k + 1, by omega, by simp, hJ3, hnx.trans hk3⟩
        case measure => simp [intOf]; omega
      · gi_wp2
        refine bodyPost_ret (results_none rfl _ _ _) rfl ?_
        exact ⟨⟨_, rfl⟩, .inr ⟨_, List.take_prefix _ _, hJx3⟩⟩
    · rw [e1, decide_eq_false h1, Bool.false_and] at hy
      have i1 : ¬ (48 : Int) ≤ (c : Int) := by omega
      gi_wp2
      refine ⟨fun h => by simp [Fence.wide] at h, hR.mono ?_⟩
      rintro e W3 (⟨rfl, hJ3, hk3⟩ | ⟨rfl, hJx3⟩)
      · gi_wp2
        go_roundw
        case rel => exact ⟨k + 1, by omega, by simp, hJ3, hnx.trans hk3⟩
        case measure => simp [intOf]; omega
      · gi_wp2
        refine bodyPost_ret (results_none rfl _ _ _) rfl ?_
        exact ⟨⟨_, rfl⟩, .inr ⟨_, List.take_prefix _ _, hJx3⟩⟩
  · obtain rfl : k = S.size := by omega
    gi_wp2
    go_end0
    exact ⟨⟨_, rfl⟩, .inl ⟨_, rfl, by rw [List.take_of_length_le (by omega)] at hJs; exact hJs⟩⟩
theorem digits_calls (S : ByteArray) (w : World) :
 Calls Tryz.prog 186 #[.string S] w fun e w' => e = .returned (.func (.func 224) #[] #[.pointer (some ⟨w.heap.size, 0, none⟩)]) ∧ w' = w.alloc (.cells #[.string S] 9) := by
 go_enter Tryz.func186, Tryz.ntmps186
 go_wp2
 go_ret
 exact ⟨rfl, rfl⟩
theorem number_calls (S : ByteArray) (w : World) (hsm : S.size < 4611686018427387904) :
 Calls Tryz.prog 110 #[.string S] w fun e w' => e = .returned (.bool (numL (bytesN S))) ∧ Below w.heap.size w w' := by
 refine (callsIn_wide (n := 5)).1 ?_
 refine callsIn_of_wp_marks Tryz.func110 rfl trivial ?_ rfl
 simp only [Tryz.ntmps110, List.size_toArray, List.length_cons, List.length_nil, Nat.reduceAdd, Nat.reduceSub, Array.replicate_succ, Array.replicate_zero, List.push_toArray, List.append_toArray, List.nil_append, List.cons_append]
 gi_wp2_with (refine ⟨trivial, ?_⟩; gi_at_call 186; refine (callsIn_wide.2 (digits_calls _ _)).mono ?_; rintro e w' ⟨rfl, rfl⟩)
 obtain ⟨W0, hW0, hB0, K0, K1, hsz⟩ := box2 w #[.bool false] 4 #[.string S] 9
 rw [hW0]
 refine wpIn_rangeFunc_ownF rfl (by decide) (gf := 224) (lb := #[.pointer (some ⟨w.heap.size + 1, 0, none⟩)]) rfl trivial (enters_of Tryz.func224 (by kernel_rfl) rfl)
  (digits1_stops 4 (w.heap.size + 1) (w.heap.size + 2) S _ (cell_at K1.h 0 _ rfl) (by omega) hsm) belowK_t (belowK_b (by omega)) (Below.refl _ _) (fun _ => rfl)
  (fun pre W => ((∀ y ∈ pre, y.2 = true) ∧ W.cell? ⟨w.heap.size, 0, none⟩ = some (.bool false) ∧ W.frozen? ⟨w.heap.size, 0, none⟩ = false) ∧ Below w.heap.size w W)
  (fun c pre W => (c = .ret ∧ (∃ y ∈ pre, y.2 = false) ∧ W.cell? ⟨w.heap.size, 0, none⟩ = some (.bool false)) ∧ Below w.heap.size w W)
  (OwnFrom.and (Own.from (fun s A B row hs hg hr => ⟨hs.1, cell_kept hs.2.1 hg hr, (frozen_kept hs.2.1 hg hr).trans hs.2.2⟩) _) (ownFrom_below (Nat.le_refl _) (by omega)))
  (fun c => OwnFrom.and (Own.from (fun s A B row hs hg hr => ⟨hs.1, hs.2.1, cell_kept hs.2.2 hg hr⟩) _) (ownFrom_below (Nat.le_refl _) (by omega)))
  ⟨⟨by simp, cell_at K0.h 0 _ rfl, frozen_at K0.h 0⟩, hB0⟩
  (fun x => { tmps := #[.string S, undef, .pointer (some ⟨w.heap.size, 0, none⟩), undef, .bool x.2, .string S, .func (.func 224) #[] #[.pointer (some ⟨w.heap.size + 1, 0, none⟩)], .int .i64 (x.1 : Int), .bool x.2, undef, undef, undef, undef], defers := [] }) ?assign ?body ?done ?stop
 case assign =>
  intro l x W K hK
  unfold encD
  gi_wp2
  exact hK
 case body =>
  rintro l pre x W ⟨⟨hp, hcr, hfr⟩, hB⟩ _
  obtain ⟨i, b⟩ := x
  cases b
  · gi_wp2
    exact ⟨KeepsOthers.setCell _ _ _, ⟨rfl, ⟨(i, false), by simp, rfl⟩, World.cell?_setCell_same' _ _ _ (by rw [hcr]; rfl)⟩, hB.setCell (p := ⟨w.heap.size, 0, none⟩) (by simp) _⟩
  · gi_wp2
    exact ⟨KeepsOthers.refl _, Below.refl _ _, ⟨fun y hy => (List.mem_append.1 hy).elim (hp y) (fun e => by simp at e; rw [e]), hcr, hfr⟩, hB⟩
 case done =>
  rintro D ys W hD rfl ⟨⟨hne, hcr, hfr⟩, hB⟩ hK
  have hall := (digL_all (bytesN S)).1 hne
  obtain ⟨r, hr1, hr2⟩ : ∃ r, numL (bytesN S) = r ∧ (!S.toList.isEmpty) = r := by
   refine ⟨_, rfl, ?_⟩
   unfold numL bytesN
   rw [show (List.map UInt8.toNat S.data.toList).all dgB = true from hall, Bool.true_and, Lib.toList_data, List.isEmpty_map]
  gi_wp2
  have hK' := (KeepsOthers.setCell W ⟨w.heap.size, 0, none⟩ (.bool r)).same D _ hK rfl
  refine ⟨by simp, .inl ⟨_, _, rfl, run_takeDeferred hK', ?_⟩⟩
  have hc5 := cell_kept (World.cell?_setCell_same' W ⟨w.heap.size, 0, none⟩ (.bool r) (by rw [hcr]; rfl)) (grownBy_putObj' _ D (.deferred none)) (fun r e => by cases e; exact ⟨_, hK', rfl⟩)
  refine ⟨.bool r, ?_, by rw [hr1], (hB.setCell (p := ⟨w.heap.size, 0, none⟩) (by simp) _).trans (belowK_b (w := w) (Nat.le_refl _) _ D _ _ (by omega) hK' rfl rfl)⟩
  simp [results, Tryz.f110, go_sem, hc5]
 case stop =>
  rintro D c pre W hD hpre ⟨⟨rfl, ⟨y, hy, hy2⟩, hcr⟩, hB⟩ hK
  have hno : numL (bytesN S) = false := by
   cases h : (bytesN S).all dgB
   · unfold numL; rw [h]; rfl
   · have := (digL_all (bytesN S)).2 h y (hpre.subset hy)
     rw [hy2] at this; cases this
  gi_wp2
  refine ⟨by simp, .inl ⟨_, _, rfl, run_takeDeferred hK, ?_⟩⟩
  have hc5 := cell_kept hcr (grownBy_putObj' _ D (.deferred none)) (fun r e => by cases e; exact ⟨_, hK, rfl⟩)
  refine ⟨.bool false, ?_, by rw [hno], hB.trans (belowK_b (w := w) (Nat.le_refl _) W D _ _ (by omega) hK rfl rfl)⟩
  simp [results, Tryz.f110, go_sem, hc5]
structure Cutted (S : ByteArray) (neg : Bool) (f b k : ByteArray) (v : Nat) : Prop where
 size : S.size ≤ 2000
 cut : ∃ t : ByteArray, Lib.trimPrefix S.data.toList [45] = t.data.toList ∧ t.size ≤ 2000 ∧ Lib.cut t.data.toList [46] = (f.data.toList, b.data.toList, true)
 pre : Lib.hasPrefix S.data.toList [45] = neg
 front : numL (bytesN f) = true
 behind : numL (bytesN b) = true
 kept : Lib.trimRightB b.data.toList 48 = k.data.toList
 fsize : f.size ≤ 2000
 bsize : b.size ≤ 2000
 ksize : k.size ≤ 20
 ok : parOk 10 (bytesN (f ++ k)) = true
 pos : (bytesN (f ++ k)).getD 0 0 ≠ 45
 val : parV 10 (bytesN (f ++ k)) = v
 fit : fitZ (v : Int) = ((v : Int), 0)
 lz : Lz 300 (v : Int)
theorem list_back (s : ByteArray) : (⟨s.data.toList.toArray⟩ : ByteArray) = s := by
 cases s
 simp
theorem Parse_pos (S : ByteArray) (w : World) (hsm : S.size < 35184372088832) (hok : parOk 10 (bytesN S) = true) (hp : (bytesN S).getD 0 0 ≠ 45) (v : Nat) (hv : parV 10 (bytesN S) = v) (hf : fitZ (v : Int) = ((v : Int), 0)) :
 Calls Tryz.prog 112 #[.string S, .int .i64 10] w (RetZE (v : Int) 0 w) := by
 have hmf := mkf
 obtain ⟨W3, hW3, hb3, B1, B2, hR, hsz⟩ := box3 w #[.string S] 9 #[.int .i64 10] 3 #[.bool false, .slice none 0 0] 24
 have hB4 : ∀ o o', Below W3.heap.size W3 ((W3.alloc o).alloc o') := fun o o' => ((Below.refl _ W3).alloc (Nat.le_refl _) _).alloc (by simp) _
 obtain ⟨h0, hg⟩ := parOk_true hok
 rw [bytesN_length] at h0 hg
 have hcl := fun o o' => parse1_good_f (w.heap.size + 1) w.heap.size 10 S S ((W3.alloc o).alloc o') (B2.on (hB4 o o')) (B1.on (hB4 o o')) (by omega) (by decide) (by decide) h0 _ (getB h0) (by rw [beq_eq_false_iff_ne]; omega) rfl hsm h0 hg v hv
 rw [hf] at hcl
 have hlt : w.heap.size < W3.heap.size := by omega
 have ht := try_low w.heap.size 191 #[.pointer (some ⟨w.heap.size + 1, 0, none⟩), .pointer (some ⟨w.heap.size, 0, none⟩)] (enters_of Tryz.func191 (by kernel_rfl) rfl) W3 hlt (v : Int) 0 (hcl _ _) (fun h => absurd rfl h)
 clear hsz hcl
 go_enter Tryz.func112, Tryz.ntmps112
 go_wp2_with (go_at_call 144; refine ht.mono ?_; rintro e w' ⟨s, A, c, l, rfl, hz, hc, hr, hb⟩; have hq := hb.blk (by omega) hR; obtain ⟨z0, z1⟩ := cL2 hq.h; obtain ⟨u0, u1⟩ := fZ2 hq.h)
 exact ret_cell_tmp (x := .bool s) (y := .slice A l.length c) rfl rfl rfl (set_blk (set_blk hq.h 0 _) 1 _) ⟨s, A, c, l, rfl, hz, hc, rd_sets hr hq _ _, ((hb3.trans hb.low).setCell (by dsimp only; omega) _).setCell (by dsimp only; omega) _⟩
theorem parse1_good (S f b k : ByteArray) (neg : Bool) (v : Nat) (ga : Nat) (w : World) (m : Int) (hm : w.cell? ⟨1, 0, none⟩ = some (.int .i64 m)) (Ka : Blk w ga #[.string S] 9) (C : Cutted S neg f b k v) :
 Calls Tryz.prog 107 #[.pointer (some ⟨ga, 0, none⟩)] w (PostV (fun _ => False) (madeE (if neg = true then -(v : Int) else (v : Int)) k.size) w) := by
 obtain ⟨hS, ⟨t, ht, hts, hcu⟩, hpre, hnf, hnb, hk, hfs, hbs, hks, hok, hpos, hv, hfit, hlz⟩ := C
 obtain ⟨W, hW, hbW, K0, hszW⟩ := box1 w (vcells 0 0 false none 0 0 ⟨#[]⟩ none 0 0) 27
 have hcp : ∀ W', Calls Tryz.prog 108 #[.string S, .string ⟨#[45]⟩] W' fun e w' => e = .returned (.tuple #[.string t, .bool neg]) ∧ w' = W' := fun W' => by
  have h := Tryz.strings_CutPrefix S ⟨#[45]⟩ W'
  rw [show (⟨#[45]⟩ : ByteArray).data.toList = [45] from rfl, ht, hpre, list_back] at h
  exact h
 have hct : ∀ W', Below w.heap.size w W' → Calls Tryz.prog 109 #[.string t, .string ⟨#[46]⟩] W' fun e w' => e = .returned (.tuple #[.string f, .string b, .bool true]) ∧ Below W'.heap.size W' w' := fun W' hb => by
  have h := Tryz.strings_Cut t ⟨#[46]⟩ m W' (by omega) ((hb.cell (p := ⟨1, 0, none⟩) (World.block_lt_of_cell? w _ hm)).trans hm)
  rw [show (⟨#[46]⟩ : ByteArray).data.toList = [46] from rfl, hcu] at h
  dsimp only at h
  rw [list_back, list_back] at h
  exact h.mono fun e w' hh => ⟨hh.1, by obtain ⟨n, e⟩ := hh.2; rw [e]; exact below_drewN (Below.refl _ _) n⟩
 have hn1 : ∀ W', Calls Tryz.prog 110 #[.string f] W' fun e w' => e = .returned (.bool true) ∧ Below W'.heap.size W' w' := fun W' => by
  have h := number_calls f W' (by omega)
  rwa [hnf] at h
 have hn2 : ∀ W', Calls Tryz.prog 110 #[.string b] W' fun e w' => e = .returned (.bool true) ∧ Below W'.heap.size W' w' := fun W' => by
  have h := number_calls b W' (by omega)
  rwa [hnb] at h
 have htr : ∀ W', Calls Tryz.prog 111 #[.string b, .string ⟨#[48]⟩] W' fun e w' => e = .returned (.string k) ∧ w' = W' := fun W' => by
  have h := Tryz.strings_TrimRight_one b 48 (by decide) W' (by omega)
  rw [hk, list_back] at h
  exact h
 have hpa : ∀ W', Calls Tryz.prog 112 #[.string (f ++ k), .int .i64 10] W' (fun e w' => ∃ s A c l, e = .returned (.tuple #[iv s A (List.length l) c, .int .i64 0]) ∧ IV w' s A c l (v : Int) ∧ Below W'.heap.size W' w') := fun W' => by
  have h := Parse_pos (f ++ k) W' (by rw [ByteArray.size_append]; omega) hok hpos v hv hfit
  exact h.mono fun e w' ⟨s, A, c, l, h1, h2, h3, h4, h5⟩ => ⟨s, A, c, l, h1, ⟨h4, h3, h2⟩, h5⟩
 have hna : ¬ 9223372036854775807 < f.size + k.size := by omega
 have hS2 : ¬ (2000 : Int) < (S.size : Int) := by omega
 have hk2 : ¬ (20 : Int) < (k.size : Int) := by omega
 obtain ⟨z, hz⟩ : ∃ z, (if neg = true then -(v : Int) else (v : Int)) = z := ⟨_, rfl⟩
 rw [hz]
 have hz3 : Lz 300 z := by rw [← hz]; split; exact hlz.neg; exact hlz
 have U1 := fun W' s A c l (I : IV W' s A c l z) => made_z s A c l _ k.size hks W' I hz3
 obtain ⟨E, hE⟩ : ∃ E, madeE z k.size = E := ⟨_, rfl⟩
 rw [hE] at U1 ⊢
 clear hE
 have x0 := cell_at (Ka.on hbW).h 0 _ rfl
 clear hS ht hts hcu hpre hnf hnb hk hfs hbs hks hv hok hpos hfit
 replace hszW := Lib.hid hszW
 go_enter Tryz.func107, Tryz.ntmps107
 go_upto_region 10 with first
  | (go_at_call 108; refine (hcp _).mono ?_; rintro e w4 ⟨rfl, rfl⟩)
  | (go_at_call 109; refine (hct _ hbW).mono ?_; rintro e w5 ⟨rfl, b5⟩; have hmark := hbW)
  | (go_at_call 110; refine (hn1 _).mono ?_; clear hn1; rintro e w6 ⟨rfl, b6⟩; have q6 := b5.trans (b6.mono b5.size))
  | (go_at_call 110; refine (hn2 _).mono ?_; rintro e w7 ⟨rfl, b7⟩; have q7 := q6.trans (b7.mono q6.size))
  | (go_at_call 111; refine (htr _).mono ?_; rintro e w8 ⟨rfl, rfl⟩)
 go_upto_region 11 with first
  | (go_at_call 112; refine (hpa _).mono ?_; rintro e w9 ⟨s9, A9, c9, l9, rfl, I9, b9⟩; have q9 := q7.trans (b9.mono q7.size))
  | (go_at_call 81; refine (must_ok s9 A9 c9 l9 _ _ I9).mono ?_; rintro e w10 ⟨s10, A10, c10, l10, rfl, I10, b10⟩; have q10 := q9.trans (b10.mono q9.size))
 have KB := blk_new w10 #[.bool s10, .slice A10 l10.length c10] 24
 have IX := iv_up (o := .cells #[.bool s10, .slice A10 l10.length c10] 24) I10
 have qX := q10.trans ((al1 w10 (.cells #[.bool s10, .slice A10 l10.length c10] 24)).mono q10.size)
 have hlt := q10.size
 have hu := hbW.size
 obtain ⟨g, hg⟩ : ∃ g, w10.heap.size = g := ⟨_, rfl⟩
 rw [hg] at KB hlt ⊢
 obtain ⟨X, hX⟩ : ∃ X, w10.alloc (.cells #[.bool s10, .slice A10 l10.length c10] 24) = X := ⟨_, rfl⟩
 rw [hX] at KB IX qX ⊢
 clear hX hg q10 b10 I10 q9 b9 I9 q7 b7 q6 b6 b5 hn2 hcp hct htr hpa x0
 obtain ⟨y0, y1⟩ := cL2 KB.h
 by_cases h0 : E.2.2 = 0
 all_goals
  cases neg
  · obtain rfl : (v : Int) = z := hz
    go_wp2_with (go_at_call 85; refine (U1 _ _ _ _ _ IX).mono ?_; rintro e w13 ⟨o13, p13, p13'⟩; first | (obtain ⟨v, rfl, s13, A13, c13, l13, rfl, I13⟩ := p13 h0; rw [kd_ok h0]; have q13 := qX.trans (o13.full.mono qX.size); obtain ⟨u0, u1, u2, u3, u4, u5⟩ := cL6 (K0.on q13).h; obtain ⟨f0, f1, f2, f3, f4, f5⟩ := fZ6 (K0.on q13).h) | (obtain rfl := p13' h0; have q13 := qX.trans (o13.full.mono qX.size)))
    all_goals first
     | exact ⟨rfl, .of_below (hbW.trans (q13.mono hbW.size)), fun h => absurd h h0, fun _ => rfl⟩
     | (have hb13 := hbW.trans (q13.mono hbW.size)
        obtain ⟨Z, hZ, KZ, NZ, OZ⟩ := storeV (k' := 3) (p' := (E.2.1 : Int)) (s' := s13) (A' := A13) (n' := l13.length) (c' := c13) (S' := ⟨#[]⟩) (B' := none) (m' := 0) (d' := 0) (K0.on q13)
        rw [hZ]
        exact ret_cellT rfl Tryz.underlying27 val_size rfl rfl KZ.h rfl ⟨.of_below (hb13.trans (NZ.low.mono (by omega))), fun _ => ⟨_, rfl, s13, A13, c13, l13, by rw [kd_ok h0], I13.nudge NZ⟩, fun h => absurd h0 h⟩)
  · obtain rfl : -(v : Int) = z := hz
    go_upto_region 13 with (go_at_call 113; refine (negative_z s10 A10 c10 l10 _ _ IX hlz).mono ?_; rintro e w11 ⟨s11, A11, c11, l11, rfl, I11, b11⟩; obtain ⟨x0, x1⟩ := cL2 (KB.on b11).h; obtain ⟨f0, f1⟩ := fZ2 (KB.on b11).h)
    obtain ⟨Y, hY, KY, NY, OY⟩ := storeI (s' := s11) (A' := A11) (n' := l11.length) (c' := c11) (KB.on b11)
    rw [hY]
    clear y0 y1 x0 x1 f0 f1
    obtain ⟨y0, y1⟩ := cL2 KY.h
    replace qX := (qX.trans (b11.mono qX.size)).trans (NY.low.mono hlt)
    replace IX := I11.nudge NY
    go_wp2_with (go_at_call 85; refine (U1 _ _ _ _ _ IX).mono ?_; rintro e w13 ⟨o13, p13, p13'⟩; first | (obtain ⟨v, rfl, s13, A13, c13, l13, rfl, I13⟩ := p13 h0; rw [kd_ok h0]; have q13 := qX.trans (o13.full.mono qX.size); obtain ⟨u0, u1, u2, u3, u4, u5⟩ := cL6 (K0.on q13).h; obtain ⟨f0, f1, f2, f3, f4, f5⟩ := fZ6 (K0.on q13).h) | (obtain rfl := p13' h0; have q13 := qX.trans (o13.full.mono qX.size)))
    all_goals first
     | exact ⟨rfl, .of_below (hbW.trans (q13.mono hbW.size)), fun h => absurd h h0, fun _ => rfl⟩
     | (have hb13 := hbW.trans (q13.mono hbW.size)
        obtain ⟨Z, hZ, KZ, NZ, OZ⟩ := storeV (k' := 3) (p' := (E.2.1 : Int)) (s' := s13) (A' := A13) (n' := l13.length) (c' := c13) (S' := ⟨#[]⟩) (B' := none) (m' := 0) (d' := 0) (K0.on q13)
        rw [hZ]
        exact ret_cellT rfl Tryz.underlying27 val_size rfl rfl KZ.h rfl ⟨.of_below (hb13.trans (NZ.low.mono (by omega))), fun _ => ⟨_, rfl, s13, A13, c13, l13, by rw [kd_ok h0], I13.nudge NZ⟩, fun h => absurd h0 h⟩)
theorem DParse_calls (S f b k : ByteArray) (neg : Bool) (v : Nat) (w : World) (m : Int) (hm : w.cell? ⟨1, 0, none⟩ = some (.int .i64 m)) (C : Cutted S neg f b k v) :
 Calls Tryz.prog 25 #[.string S] w (RetV (madeE (if neg = true then -(v : Int) else (v : Int)) k.size) w) := by
 have hmf := mkf
 obtain ⟨W, hW, hbW, K0, K1, hszW⟩ := box2 w #[.string S] 9 (vcells 0 0 false none 0 0 ⟨#[]⟩ none 0 0) 27
 have hv := value_calls (fun _ => False) 107 #[.pointer (some ⟨w.heap.size, 0, none⟩)] (enters_of Tryz.func107 (by kernel_rfl) rfl) (madeE (if neg = true then -(v : Int) else (v : Int)) k.size) (bare_made _ _) W (fun _ h => h.elim) (fun _ => True) (fun W' h => Calls.mono ((parse1_good S f b k neg v _ W' m (((hbW.trans (h.mono hbW.size)).cell (p := ⟨1, 0, none⟩) (World.block_lt_of_cell? w _ hm)).trans hm) (K0.on h) C)) fun _ _ h => ⟨h, trivial⟩)
 obtain ⟨x, hx⟩ : ∃ x, madeE (if neg = true then -(v : Int) else (v : Int)) k.size = x := ⟨_, rfl⟩
 rw [hx] at hv ⊢
 obtain ⟨z, p, er⟩ := x
 dsimp only at hv
 clear hx
 replace hszW := Lib.hid hszW
 go_enter Tryz.func25, Tryz.ntmps25
 go_wp2_with (go_at_call 75; refine hv.mono ?_; rintro e w5 ⟨⟨v, rfl, s5, A5, c5, l5, rfl, I5⟩, o5, -⟩; have K5 := K1.on o5.full; obtain ⟨u0, u1, u2, u3, u4, u5⟩ := cL6 K5.h; obtain ⟨f0, f1, f2, f3, f4, f5⟩ := fZ6 K5.h)
 obtain ⟨X, hX, KX, NX, OX⟩ := storeV (k' := kd (z, p, er)) (p' := (p : Int)) (s' := s5) (A' := A5) (n' := l5.length) (c' := c5) (S' := ⟨#[]⟩) (B' := none) (m' := 0) (d' := 0) K5
 rw [hX]
 have hb5 := hbW.trans (o5.full.mono hbW.size)
 exact ret_cellT_tmp rfl Tryz.underlying27 val_size rfl rfl KX.h rfl ⟨_, rfl, ⟨s5, A5, c5, l5, rfl, I5.nudge NX⟩, hb5.trans (NX.low.mono (by omega))⟩
theorem dgB_true {c : Nat} (h : dgB c = true) : 48 ≤ c ∧ c ≤ 57 := by
 unfold dgB at h
 rw [Bool.and_eq_true, decide_eq_true_eq, decide_eq_true_eq] at h
 exact h
theorem dgB_false {c : Nat} (h : dgB c = false) : (48 ≤ c ∧ ¬ c ≤ 57) ∨ ¬ 48 ≤ c := by
 unfold dgB at h
 rw [Bool.and_eq_false_iff, decide_eq_false_iff_not, decide_eq_false_iff_not] at h
 omega
theorem rdigits_calls (S : ByteArray) (a n : Nat) (hn : a + n ≤ S.size) (hsm : S.size < 4611686018427387904) (hall : ∀ k, k < n → dgB ((bytesN S).getD (a + k) 0) = true) (hend : a + n = S.size ∨ dgB ((bytesN S).getD (a + n) 0) = false) (w : World) :
 Calls Tryz.prog 114 #[.string S, .int .i64 (a : Int)] w fun e w' => e = .returned (.int .i64 (n : Int)) ∧ w' = w := by
 replace hall := Lib.hid hall
 replace hend := Lib.hid hend
 go_enter Tryz.func114, Tryz.ntmps114
 go_wp2_with fail
 go_loop [5] (fun nv => ∃ i : Nat, nv = .int .i64 (i : Int) ∧ i ≤ n) (fun nv => n - (intOf nv).toNat)
 case atStart => exact ⟨0, rfl, Nat.zero_le _⟩
 case round =>
  obtain ⟨i, rfl, hi⟩ := hrel
  by_cases ilt : i < n
  · have qlt : a + i < S.size := by omega
    have hget := getB qlt
    obtain ⟨c, hc⟩ : ∃ c, (bytesN S).getD (a + i) 0 = c := ⟨_, rfl⟩
    have hd := hall.out i ilt
    rw [hc] at hd
    rw [hc] at hget
    obtain ⟨h1, h2⟩ := dgB_true hd
    have hqI : (a : Int) + (i : Int) < (S.size : Int) := by omega
    have i1 : (48 : Int) ≤ (c : Int) := by omega
    have i2 : (c : Int) ≤ 57 := by omega
    clear hc hd h1 h2
    go_wp2_with fail
    go_round
    case rel => exact ⟨i + 1, by simp, by omega⟩
    case measure => simp only [intOf]; omega
  · obtain rfl : i = n := by omega
    by_cases hlt : a + i < S.size
    · have hget := getB hlt
      obtain ⟨c, hc⟩ : ∃ c, (bytesN S).getD (a + i) 0 = c := ⟨_, rfl⟩
      have hd := hend.out.resolve_left (by omega)
      rw [hc] at hd
      rw [hc] at hget
      have hqI : (a : Int) + (i : Int) < (S.size : Int) := by omega
      rcases dgB_false hd with ⟨h1, h2⟩ | h1
      · have i1 : (48 : Int) ≤ (c : Int) := by omega
        have i2 : ¬ (c : Int) ≤ 57 := by omega
        clear hc hd h1 h2
        go_wp2_with fail
        go_ret
        exact ⟨rfl, rfl⟩
      · have i1 : ¬ (48 : Int) ≤ (c : Int) := by omega
        clear hc hd h1
        go_wp2_with fail
        go_ret
        exact ⟨rfl, rfl⟩
    · have hqI : ¬ (a : Int) + (i : Int) < (S.size : Int) := by omega
      go_wp2_with fail
      go_ret
      exact ⟨rfl, rfl⟩
structure RCut (S : ByteArray) (n m v : Nat) : Prop where
 size : S.size ≤ 2000
 npos : 0 < n
 mpos : 0 < m
 tot : n + 1 + m = S.size
 front : ∀ k, k < n → dgB ((bytesN S).getD (0 + k) 0) = true
 point : (bytesN S).getD n 0 = 46
 behind : ∀ k, k < m → dgB ((bytesN S).getD (n + 1 + k) 0) = true
 last : (bytesN S).getD (n + m) 0 ≠ 48
 m20 : m ≤ 20
 ok : parOk 10 (bytesN (S.extract 0 n ++ S.extract (n + 1) (n + 1 + m))) = true
 pos : (bytesN (S.extract 0 n ++ S.extract (n + 1) (n + 1 + m))).getD 0 0 ≠ 45
 val : parV 10 (bytesN (S.extract 0 n ++ S.extract (n + 1) (n + 1 + m))) = v
 fit : fitZ (v : Int) = ((v : Int), 0)
 lz : Lz 300 (v : Int)
theorem rparse_good (S : ByteArray) (n m v : Nat) (w : World) (C : RCut S n m v) :
 Calls Tryz.prog 26 #[.string S] w (RetG (madeE (v : Int) m) w) := by
 obtain ⟨hS, hn, hm, htot, hfr, hpt, hbe, hla, hm20, hok, hpos, hv, hfit, hlz⟩ := C
 obtain ⟨W, hW, hbW, K0, hszW⟩ := box1 w #[.int .i64 0, .int .i64 0, .bool false, .slice none 0 0, .string ⟨#[]⟩, .slice none 0 0, .int .i64 0] 36
 have hd1 : ∀ W', Calls Tryz.prog 114 #[.string S, .int .i64 0] W' fun e w' => e = .returned (.int .i64 (n : Int)) ∧ w' = W' := fun W' =>
  rdigits_calls S 0 n (by omega) (by omega) hfr (.inr (by rw [Nat.zero_add, hpt]; decide)) W'
 have hd2 : ∀ W', Calls Tryz.prog 114 #[.string S, .int .i64 ((n : Int) + 1)] W' fun e w' => e = .returned (.int .i64 (m : Int)) ∧ w' = W' := fun W' => by
  have h := rdigits_calls S (n + 1) m (by omega) (by omega) hbe (.inl htot) W'
  rwa [Int.natCast_add] at h
 have h0 : 0 < S.size := by omega
 have hp : n < S.size := by omega
 have hq : n + m < S.size := by omega
 have hg0 := getB h0
 have hg1 := getB hp
 have hg2 := getB hq
 rw [hpt] at hg1
 obtain ⟨c0, hc0⟩ : ∃ c, (bytesN S).getD 0 0 = c := ⟨_, rfl⟩
 obtain ⟨c2, hc2⟩ : ∃ c, (bytesN S).getD (n + m) 0 = c := ⟨_, rfl⟩
 rw [hc0] at hg0
 rw [hc2] at hg2
 have e0 : ((c0 : Int) == 45) = false := by
  have h := dgB_true (hfr 0 hn)
  rw [Nat.zero_add, hc0] at h
  rw [beq_eq_false_iff_ne]; omega
 have e2 : ((c2 : Int) == 48) = false := by rw [beq_eq_false_iff_ne]; omega
 have e3 : ((n : Int) == 0) = false := by rw [beq_eq_false_iff_ne]; omega
 have e4 : ((m : Int) == 0) = false := by rw [beq_eq_false_iff_ne]; omega
 have i1 : ¬ (2000 : Int) < (S.size : Int) := by omega
 have i2 : (0 : Int) < (S.size : Int) := by omega
 have i3 : ¬ (S.size : Int) ≤ (n : Int) := by omega
 have i4 : (0 : Int) < (m : Int) := by omega
 have i5 : ¬ (20 : Int) < (m : Int) := by omega
 have i6 : ((n : Int) + 1 + (m : Int)) = (S.size : Int) := by omega
 obtain ⟨Sa, hSa⟩ : ∃ Sa, S.extract 0 n = Sa := ⟨_, rfl⟩
 rw [htot] at hv hok hpos
 obtain ⟨Sb, hSb⟩ : ∃ Sb, S.extract (n + 1) S.size = Sb := ⟨_, rfl⟩
 have hna : ¬ 9223372036854775807 < Sa.size + Sb.size := by rw [← hSa, ← hSb, ByteArray.size_extract, ByteArray.size_extract]; omega
 have hss : (Sa ++ Sb).size ≤ 8000 := by rw [← hSa, ← hSb, ByteArray.size_append, ByteArray.size_extract, ByteArray.size_extract]; omega
 rw [hSa, hSb] at hv hok hpos
 obtain ⟨Sc, hSc⟩ : ∃ Sc, Sa ++ Sb = Sc := ⟨_, rfl⟩
 rw [hSc] at hv hok hpos hss
 obtain ⟨k0, kg⟩ := parOk_true hok
 rw [bytesN_length] at k0 kg
 have hpa : ∀ W', Calls Tryz.prog 115 #[.string Sc, .int .i64 10] W' (fun e w' => ∃ s A c l, e = .returned (.agg #[.bool s, .slice A (List.length l) c, .int .i64 0]) ∧ IV w' s A c l (v : Int) ∧ Below W'.heap.size W' w') := fun W' => by
  have h := RParse_good_f 10 Sc W' (by decide) (by decide) _ (getB k0) (by rw [beq_eq_false_iff_ne]; omega) (by omega) k0 (fun k _ h2 => kg k h2)
  rw [List.drop_zero, hv, hfit] at h
  exact h.mono fun e w' ⟨s, A, c, l, h1, h2, h3, h4, h5⟩ => ⟨s, A, c, l, h1, ⟨h4, h3, h2⟩, h5⟩
 have U1 := fun W' s A c l (I : IV W' s A c l (v : Int)) => Least_i s A c l _ m hm20 W' I hlz (by decide)
 obtain ⟨E, hE⟩ : ∃ E, madeE (v : Int) m = E := ⟨_, rfl⟩
 rw [hE] at U1 ⊢
 clear hE hv hss hok hpos hfit k0 kg hfr hpt hbe hla hm20 hlz hc0 hc2 hS
 replace htot := Lib.hid htot
 replace hszW := Lib.hid hszW
 go_enter Tryz.func26, Tryz.ntmps26
 go_wp2_with first
  | (go_at_call 114; refine (hd1 _).mono ?_; clear hd1; rintro e w4 ⟨rfl, rfl⟩)
  | (go_at_call 114; refine (hd2 _).mono ?_; clear hd2; rintro e w5 ⟨rfl, rfl⟩)
 go_loop [6] (fun mv => mv = .int .i64 (m : Int)) (fun _ => 0)
 case atStart => rfl
 case round =>
  obtain rfl := hrel
  go_upto_region 17 with fail
  have j1 : ¬ S.size < n := by omega
  have j2 : IntKind.i64.wrap ((n : Int) + 1) = (n : Int) + 1 := by rw [IntKind.wrap_i64]; omega
  have j3 : IntKind.i64.wrap (S.size : Int) = (S.size : Int) := by rw [IntKind.wrap_i64]; omega
  have j4 : (0 : Int) ≤ (n : Int) + 1 := by omega
  have j5 : ¬ (S.size : Int) < (n : Int) + 1 := by omega
  go_cut [7] from 72 to 84 (fun pv wx => ∃ G s' A' c' l', pv = .pointer (some ⟨G, 0, none⟩) ∧ Blk wx G #[.bool s', .slice A' (List.length l') c', .int .i64 0] 105 ∧ IV wx s' A' c' l' (v : Int) ∧ Below w5.heap.size w5 wx)
  case first =>
   refine wp_region_any (by kernel_rfl) ?_
   refine pT 0 (Value.string S) ?_
   try simp only [Act.put, aQ, bQ, cQ]
   refine pT 1 (Value.int .i64 (n : Int)) ?_
   try simp only [Act.put, aQ, bQ, cQ]
   refine pT 2 (Value.string Sa) ?_
   try simp only [Act.put, aQ, bQ, cQ]
   refine pT 3 (Value.string S) ?_
   try simp only [Act.put, aQ, bQ, cQ]
   refine pT 4 (Value.int .i64 (n : Int)) ?_
   try simp only [Act.put, aQ, bQ, cQ]
   refine pT 5 (Value.int .i64 ((n : Int) + 1)) ?_
   try simp only [Act.put, aQ, bQ, cQ]
   refine pT 6 (Value.int .i64 (n : Int)) ?_
   try simp only [Act.put, aQ, bQ, cQ]
   refine pT 7 (Value.int .i64 ((n : Int) + 1)) ?_
   try simp only [Act.put, aQ, bQ, cQ]
   refine pT 8 (Value.int .i64 (m : Int)) ?_
   try simp only [Act.put, aQ, bQ, cQ]
   refine pT 9 (Value.int .i64 (S.size : Int)) ?_
   try simp only [Act.put, aQ, bQ, cQ]
   refine pT 10 (Value.string Sb) ?_
   try simp only [Act.put, aQ, bQ, cQ]
   refine pT 11 (Value.string Sc) ?_
   try simp only [Act.put, aQ, bQ, cQ]
   refine wpAny_of_F (S := fun _ => True) (late := []) _ _ _ _ ?_
   refine wpAnyF_two (i := 12) (j := 13) (by kernel_rfl) rfl rfl (fun K hK => ?_) (fun K hK => ?_)
   · go_simp
     go_at_call 115; refine (hpa _).mono ?_; rintro e w9 ⟨s9, A9, c9, l9, rfl, I9, b9⟩
     have q9 : Below w5.heap.size w5 w9 := (below_drew (Below.refl w5.heap.size w5)).trans b9
     go_wp2_with fail
     refine hK.out _ _ (Or.inr trivial) ?_
     clear hK K
     try simp only [Act.put, aQ, bQ, cQ]
     refine wpAnyF_one (i := 13) (by kernel_rfl) rfl (fun K hK => ?_)
     go_simp
     refine hK.out _ _ (Or.inr trivial) ?_
     clear hK K
     try simp only [Act.put, aQ, bQ, cQ]
     refine wpAnyF_one (i := 14) (by kernel_rfl) rfl (fun K hK => ?_)
     go_simp
     refine hK.out _ _ (Or.inr trivial) ?_
     clear hK K
     try simp only [Act.put, aQ, bQ, cQ]
     refine wpAnyF_done (by kernel_rfl) ?_ _
     go_wp2_with fail
     go_meet
     exact ⟨_, s9, A9, c9, l9, rfl, blk_new _ _ _, iv_up I9, q9.trans ((al1 w9 _).mono q9.size)⟩
   · go_simp
     refine hK.out _ _ (Or.inr trivial) ?_
     clear hK K
     try simp only [Act.put, aQ, bQ, cQ]
     refine wpAnyF_one (i := 12) (by kernel_rfl) rfl (fun K hK => ?_)
     go_simp
     go_at_call 115; refine (hpa _).mono ?_; rintro e w9 ⟨s9, A9, c9, l9, rfl, I9, b9⟩
     have q9 : Below w5.heap.size w5 w9 := below_via (below_al (below_drew (Below.refl w5.heap.size w5)) _) b9
     have KT : Blk w9 w5.heap.size #[.bool false, .slice none 0 0, .int .i64 0] 105 := blk_al1d b9
     obtain ⟨t0, t1, t2⟩ := cL3 KT.h
     obtain ⟨f0, f1, f2⟩ := fZ3 KT.h
     go_wp2_with fail
     refine hK.out _ _ (Or.inr trivial) ?_
     clear hK K
     try simp only [Act.put, aQ, bQ, cQ]
     refine wpAnyF_one (i := 14) (by kernel_rfl) rfl (fun K hK => ?_)
     go_simp
     refine hK.out _ _ (Or.inr trivial) ?_
     clear hK K
     try simp only [Act.put, aQ, bQ, cQ]
     refine wpAnyF_done (by kernel_rfl) ?_ _
     go_wp2_with fail
     go_meet
     have K1 : Blk (w9.setCell ⟨w5.heap.size, 0, none⟩ (.bool s9)) w5.heap.size #[.bool s9, .slice none 0 0, .int .i64 0] 105 := ⟨set_blk KT.h 0 _⟩
     have K2 : Blk ((w9.setCell ⟨w5.heap.size, 0, none⟩ (.bool s9)).setCell ⟨w5.heap.size, 1, none⟩ (.slice A9 l9.length c9)) w5.heap.size #[.bool s9, .slice A9 l9.length c9, .int .i64 0] 105 := ⟨set_blk K1.h 1 _⟩
     have N := (((Nudge.of_below (.refl _ w9) q9.size).set (Nat.le_refl _) KT (by intro i x h; rcases i with _ | _ | _ | i <;> simp at h) 0 (.bool s9)).set (Nat.le_refl _) K1 (by intro i x h; rcases i with _ | _ | _ | i <;> simp at h) 1 (.slice A9 l9.length c9)).set (Nat.le_refl _) K2 (by intro i x h; rcases i with _ | _ | _ | i <;> simp at h) 2 (.int .i64 0)
     exact ⟨_, s9, A9, c9, l9, rfl, ⟨set_blk K2.h 2 _⟩, I9.nudge N, q9.trans N.low⟩
  case rest =>
   obtain ⟨G, s8, A8, c8, l8, rfl, KG, IG, bG⟩ := hcut
   obtain ⟨g0, g1⟩ := cL2 KG.h
   go_wp2_with (go_at_call 97; refine (U1 _ _ _ _ _ IG).mono ?_; rintro e w9 ⟨s9, A9, c9, l9, B9, d9, rfl, I9, b9⟩; have q9 := bG.trans (b9.mono bG.size); obtain ⟨e0, e1, e2, e3, e4, e5, e6⟩ := cL7 (K0.on q9).h; obtain ⟨f0, f1, f2, f3, f4, f5, f6⟩ := fZ7 (K0.on q9).h)
   obtain ⟨X, hX, KX, NX, OX⟩ := storeG (k' := kd E) (p' := (E.2.1 : Int)) (s' := s9) (A' := A9) (n' := l9.length) (c' := c9) (S' := ⟨#[]⟩) (B' := B9) (m' := 0) (d' := d9) (e' := E.2.2) (K0.on q9)
   rw [hX]
   exact ret_cellT rfl Tryz.underlying36 rgot_size rfl rfl KX.h rfl ⟨s9, A9, c9, l9, B9, d9, rfl, I9.nudge NX, (hbW.trans (q9.mono hbW.size)).trans (NX.low.mono (by omega))⟩
def RetA (z : Int) (p : Nat) (w : World) (e : Ending) (w' : World) : Prop := ∃ s A c l B d, e = .returned (vv 3 (p : Int) s A (List.length l) c ⟨#[]⟩ B 0 d) ∧ IV w' s A c l z ∧ Below w.heap.size w w'
theorem of_calls (n : Int) (k : Nat) (z : Int) (p : Nat) (hE : madeE n k = (z, p, 0)) (hk : k ≤ 20) (h1 : -9223372036854775808 ≤ n) (h2 : n < 9223372036854775808) (w : World) :
 Calls Tryz.prog 74 #[.int .i64 n, .int .i64 (k : Int)] w (RetA z p w) := by
 obtain ⟨W, hW, hbW, K0, hszW⟩ := box1 w (vcells 0 0 false none 0 0 ⟨#[]⟩ none 0 0) 27
 have hmk := fun s A c l W' (I : IV W' s A c l n) => RMake_i s A c l (k : Int) W' I.rd I.cap
 have hmx : ∀ s A c l W' (I : IV W' s A c l n), makeX s l (k : Int) = (z, p, 0) := fun s A c l W' I => by
  have f : Lz 300 n := (Lz.of (k := 2) (by have : BB ^ 2 = 18446744073709551616 := rfl; omega)).mono (by decide)
  have K := I.ok f (by decide)
  unfold makeX
  rw [if_pos K.ok, K.val, if_neg (by omega), Int.toNat_natCast, hE]
 replace hszW := Lib.hid hszW
 clear hE
 go_enter Tryz.func74, Tryz.ntmps74
 go_upto_region 2 with first
  | (go_at_call 62; have hmark := b5; have hm := hmk _ _ _ _ _ I5; rw [hmx _ _ _ _ _ I5] at hm; refine hm.mono ?_; clear hm; rintro e w6 ⟨s6, A6, c6, l6, B6, d6, rfl, I6, b6⟩; rw [kd_ok (x := (z, p, 0)) rfl]; have q6 := b5.trans (b6.mono b5.size))
  | (go_at_call 45; refine (ROf_calls n _ h1 h2).mono ?_; rintro e w5 ⟨s5, A5, c5, l5, rfl, z5, n5, r5, b5⟩; have I5 : IV w5 s5 A5 c5 l5 n := ⟨r5, n5, z5⟩)
 obtain ⟨W7, hW7, hb7, KG, hsz7⟩ := box1 w6 #[.int .i64 3, .int .i64 (p : Int), .bool s6, .slice A6 l6.length c6, .string ⟨#[]⟩, .slice B6 0 d6, .int .i64 0] 36
 rw [hW7]
 have I7 := I6.on hb7
 have q7 := (hbW.trans (q6.mono hbW.size)).trans (hb7.mono (by have := q6.size; have := hbW.size; omega))
 have K7 := K0.on (q6.trans (hb7.mono q6.size))
 clear hW7 hmk hmx
 obtain ⟨y0, y1, y2, y3, y4, y5⟩ := cL6 KG.h
 obtain ⟨u0, u1, u2, u3, u4, u5⟩ := cL6 K7.h
 obtain ⟨f0, f1, f2, f3, f4, f5⟩ := fZ6 K7.h
 go_wp2_with fail
 obtain ⟨X, hX, KX, NX, OX⟩ := storeV (k' := 3) (p' := (p : Int)) (s' := s6) (A' := A6) (n' := l6.length) (c' := c6) (S' := ⟨#[]⟩) (B' := B6) (m' := 0) (d' := d6) K7
 rw [hX]
 exact ret_cellT rfl Tryz.underlying27 val_size rfl rfl KX.h rfl ⟨s6, A6, c6, l6, B6, d6, rfl, I7.nudge NX, q7.trans (NX.low.mono (by have := q7.size; omega))⟩
def lightB (x : VA) : Bool := !(decide (60 < x.l.length) || decide (100 < x.m) || decide (3000 < x.S.size))
theorem light_not {xs : List VA} {k : Nat} {r : Bool} (hr : Hid (xs.all lightB = r)) (hlt : k < xs.length) (h : lightB xs[k] = false) : r = false := by
 have := hr.out
 cases r
 · rfl
 · have h2 := List.all_eq_true.1 this xs[k] (List.getElem_mem hlt)
   rw [h] at h2; cases h2
theorem light_c (g : Nat) (xs : List VA) (w : World) (hx : ValsAt w g xs) (hn : xs.length ≤ 8) :
 Calls Tryz.prog 17 #[.slice (some ⟨g, 0, none⟩) xs.length xs.length] w fun e w' => e = .returned (.bool (xs.all lightB)) ∧ w' = w := by
 obtain ⟨r, hr⟩ : ∃ r, xs.all lightB = r := ⟨_, rfl⟩
 rw [hr]
 replace hr := Lib.hid hr
 go_enter Tryz.func17, Tryz.ntmps17
 go_wp2_with fail
 go_loop [3] (fun i => ∃ k : Nat, i = .int .i64 (k : Int) ∧ k ≤ xs.length ∧ Hid ((xs.take k).all lightB = true)) (fun i => xs.length - (intOf i).toNat)
 case atStart => exact ⟨0, rfl, Nat.zero_le _, rfl⟩
 case round =>
  obtain ⟨k, rfl, hk, hall⟩ := hrel
  by_cases hlt : k < xs.length
  · have x3 := hx.c3 k hlt
    have x4 := hx.c4 k hlt
    have x5 := hx.c5 k hlt
    have hno := light_not hr hlt
    have hyes : lightB xs[k] = true → (xs.take (k + 1)).all lightB = true := fun h => by
     rw [List.take_succ_eq_append_getElem hlt, List.all_append, hall.out]
     simp [h]
    obtain ⟨x, hxk⟩ : ∃ x, xs[k] = x := ⟨_, rfl⟩
    rw [hxk] at x3 x4 x5 hno hyes
    have hlb : lightB x = !(decide (60 < x.l.length) || decide (100 < x.m) || decide (3000 < x.S.size)) := rfl
    clear hx hxk
    by_cases h1 : 60 < x.l.length
    · obtain rfl := hno (by rw [hlb, decide_eq_true h1]; rfl)
      have i1 : (60 : Int) < (x.l.length : Int) := by omega
      clear hno hyes hlb
      go_wp2_with fail
      go_ret
      exact ⟨rfl, rfl⟩
    · have i1 : ¬ (60 : Int) < (x.l.length : Int) := by omega
      by_cases h2 : 100 < x.m
      · obtain rfl := hno (by rw [hlb, decide_eq_true h2, Bool.or_true]; rfl)
        have i2 : (100 : Int) < (x.m : Int) := by omega
        clear hno hyes hlb
        go_wp2_with fail
        go_ret
        exact ⟨rfl, rfl⟩
      · have i2 : ¬ (100 : Int) < (x.m : Int) := by omega
        by_cases h3 : 3000 < x.S.size
        · obtain rfl := hno (by rw [hlb, decide_eq_true h3, Bool.or_true]; rfl)
          have i3 : (3000 : Int) < (x.S.size : Int) := by omega
          clear hno hyes hlb
          go_wp2_with fail
          go_ret
          exact ⟨rfl, rfl⟩
        · have i3 : ¬ (3000 : Int) < (x.S.size : Int) := by omega
          have hy := Lib.hid (hyes (by rw [hlb, decide_eq_false h1, decide_eq_false h2, decide_eq_false h3]; rfl))
          clear hno hyes hlb
          go_wp2_with fail
          go_round
          case rel => exact ⟨k + 1, by simp, by omega, hy⟩
          case measure => simp only [intOf]; omega
  · obtain rfl : r = true := by rw [← hr.out, ← hall.out, List.take_of_length_le (by omega)]
    go_wp2_with fail
    go_ret
    exact ⟨rfl, rfl⟩
theorem got_calls (x : DR) (n1 n2 : Bool) (A1 A2 : Option Addr) (c1 c2 : Nat) (l1 l2 : List Nat) (B2 : Option Addr) (d2 : Nat) (w : World) (I1 : IV w n1 A1 c1 l1 x.1) (I2 : IV w n2 A2 c2 l2 x.1) :
 Calls Tryz.prog 20 #[vv (kd x) (x.2.1 : Int) n1 A1 l1.length c1 ⟨#[]⟩ none 0 0, .int .i64 x.2.2, .agg #[.int .i64 (kd x), .int .i64 (x.2.1 : Int), .bool n2, .slice A2 l2.length c2, .string ⟨#[]⟩, .slice B2 0 d2, .int .i64 x.2.2]] w fun e w' => e = .returned (.bool true) ∧ Below w.heap.size w w' := by
 obtain ⟨z, p, er⟩ := x
 dsimp only at I1 I2 ⊢
 generalize kd (z, p, er) = k
 unfold vv
 obtain ⟨W, hW, hbW, K0, K1, hszW⟩ := box2 w #[.int .i64 k, .int .i64 (p : Int), .bool n1, .slice A1 l1.length c1, .string ⟨#[]⟩, .slice none 0 0] 27 #[.int .i64 k, .int .i64 (p : Int), .bool n2, .slice A2 l2.length c2, .string ⟨#[]⟩, .slice B2 0 d2, .int .i64 er] 36
 have hs := fun W' (h : Below W.heap.size W W') => same_c n1 n2 A1 A2 c1 c2 l1 l2 z z k p k p none B2 0 d2 W' ((I1.on hbW).on h) ((I2.on hbW).on h)
 simp only [decide_true, Bool.and_true] at hs
 obtain ⟨x0, x1, x2, x3, x4, x5⟩ := cL6 K0.h
 obtain ⟨y0, y1, y2, y3, y4, y5, y6⟩ := cL7 K1.h
 clear hszW
 go_enter Tryz.func20, Tryz.ntmps20
 go_wp2_with (go_at_call 27; refine (hs _ (Below.refl _ _)).mono ?_; rintro e w5 ⟨rfl, b5⟩)
 go_ret
 exact ⟨rfl, hbW.trans (b5.mono hbW.size)⟩
end Dc
end Go.Proofs.YtjghnghceeijeaaGreatDoor
