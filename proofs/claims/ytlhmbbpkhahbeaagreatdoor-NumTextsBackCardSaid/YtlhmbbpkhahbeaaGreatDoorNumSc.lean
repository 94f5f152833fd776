/-
  The law NumTextsBack: its plain facts, its walk.
-/
import Derived.Test.YtlhmbbpkhahbeaaGreatDoorNumSb3
import Derived.Test.YtlhmbbpkhahbeaaGreatDoorShelf
import Derived.Deep.CutRange
import Derived.Deep.RegionHeld3
import Derived.Deep.QuietTactic
import Derived.BigQuiet
namespace Go.Proofs.YtlhmbbpkhahbeaaGreatDoor
namespace Nm
open Go.RowKit Go.Shelf Go.BigFrame
attribute [local go_sem] Oper.semAt_some

theorem strB_size (l : List Nat) : (strB l).size = l.length := by
  show ((l.map UInt8.ofNat).toArray).size = _
  rw [List.size_toArray, List.length_map]
theorem bytesN_strB {l : List Nat} (h : ∀ c ∈ l, c < 256) : bytesN (strB l) = l := by
  simp only [bytesN, strB, List.map_map]
  conv => rhs; rw [← List.map_id l]
  refine List.map_congr_left fun c hc => ?_
  simp only [Function.comp, id, UInt8.toNat_ofNat']
  exact Nat.mod_eq_of_lt (h c hc)
theorem textL_lt {b : Nat} (hb : 2 ≤ b) (h36 : b ≤ 36) (neg : Bool) (n : Nat) : ∀ c ∈ textL neg b n, c < 256 := by
  have h0 : ∀ c ∈ textL false b n, c < 256 := by
    rw [text_hdigs]
    intro c hc
    rw [List.mem_map] at hc
    obtain ⟨d, hd, rfl⟩ := hc
    have := chr_lt (Nat.lt_of_lt_of_le (hdigs_lt hb n d hd) h36)
    omega
  cases neg
  · exact h0
  · by_cases hn : n = 0
    · subst hn; exact h0
    · rw [text_neg hn]
      intro c hc
      rcases List.mem_cons.1 hc with rfl | h
      · decide
      · exact h0 c h
theorem textL_length {b : Nat} (hb : 2 ≤ b) (neg : Bool) {n m : Nat} (h : n < 2 ^ m) : (textL neg b n).length ≤ m + 2 := by
  have h1 := digs_length hb m n h
  unfold textL
  split
  · simp
  · rw [List.length_append, List.length_reverse, List.length_map]
    cases neg
    · show 0 + _ ≤ _; omega
    · show 1 + _ ≤ _; omega
theorem text_small {s : Bool} {l : List Nat} {z : Int} (h : OkZ s l z) (hw : Words l) {b : Nat} (hb : 2 ≤ b) (neg : Bool) : (strB (textL neg b z.natAbs)).size < 35184372088832 := by
  have h1 : z.natAbs < 2 ^ (32 * l.length) := by
    rw [← h.nat, Nat.pow_mul]
    exact val_lt hw
  have := textL_length hb neg h1
  have := h.small
  rw [strB_size]; omega
theorem back_parse {s : Bool} {l : List Nat} {a : Int} (h : OkZ s l a) {k : Nat} (hk : 2 ≤ k) (h36 : k ≤ 36) : parR (k : Int) (bytesN (strB (textL (decide (a < 0)) k a.natAbs))) = (a, 0) := by
  rw [bytesN_strB (textL_lt hk h36 _ _), par_text hk h36 _ _ (fun h => by have := of_decide_eq_true h; omega)]
  have e : (if decide (a < 0) = true then -(a.natAbs : Int) else (a.natAbs : Int)) = a := by
    by_cases h : a < 0
    · rw [decide_eq_true h, if_pos rfl]; omega
    · rw [decide_eq_false h, if_neg (by decide)]; omega
  rw [e]
  unfold fitZ
  rw [if_pos]
  rw [← h.isZ.abs]; exact h.small
theorem strB_list (l : List Nat) : (strB l).data.toList = l.map UInt8.ofNat := rfl
theorem back_order {a b : Int} {k : Nat} (hk : 2 ≤ k) (h36 : k ≤ 36) (ha : decide (a < 0) = false) (hb : decide (b < 0) = false) (hl : (strB (textL (decide (a < 0)) k a.natAbs)).size = (strB (textL (decide (b < 0)) k b.natAbs)).size) :
    Lib.compareBytes (strB (textL (decide (a < 0)) k a.natAbs)).data.toList (strB (textL (decide (b < 0)) k b.natAbs)).data.toList = cmpZ a b := by
  rw [ha, hb, strB_size, strB_size, text_hdigs, text_hdigs, List.length_map, List.length_map] at hl
  rw [ha, hb, strB_list, strB_list, text_hdigs, text_hdigs, compare_digits h36 _ _ hl (hdigs_lt hk _) (hdigs_lt hk _), hdigs_num hk, hdigs_num hk]
  have ha' := of_decide_eq_false ha
  have hb' := of_decide_eq_false hb
  rw [show ((a.natAbs : Nat) : Int) = a by omega, show ((b.natAbs : Nat) : Int) = b by omega]
theorem toNat_back {l : List Nat} {dg : List UInt8} (h : l.map UInt8.ofNat = dg) : strB l = ⟨dg.toArray⟩ := by rw [← h]; rfl
theorem ba_list {D : ByteArray} {l : List UInt8} (h : D = ⟨l.toArray⟩) : D.data.toList = l := by rw [h]
theorem ba_empty {D : ByteArray} (h : D.data.toList = []) : D = ⟨#[]⟩ := by
  obtain ⟨⟨l⟩⟩ := D
  have : l = [] := h
  rw [this]
theorem back_again {k : Nat} (hk : 2 ≤ k) (h36 : k ≤ 36) (S : ByteArray) (hok : parOk k (pbody (bytesN S)) = true) (v : Int) (hv : v = if pneg (bytesN S) then -(parV k (pbody (bytesN S)) : Int) else (parV k (pbody (bytesN S)) : Int)) (D1 D2 D3 : ByteArray) (e1 : D1 = ⟨(Lib.toLowerA S.data.toList).toArray⟩) (e2 : D2 = ⟨(Lib.trimPrefix D1.data.toList [45]).toArray⟩) (e3 : D3 = ⟨(Lib.trimLeftB D2.data.toList 48).toArray⟩) :
    (D3 = ⟨#[]⟩ → strB (textL (decide (v < 0)) k v.natAbs) = ⟨#[48]⟩) ∧
    (D3 ≠ ⟨#[]⟩ → (⟨(Lib.trimPrefix (strB (textL (decide (v < 0)) k v.natAbs)).data.toList [45]).toArray⟩ : ByteArray) = D3 ∧ Lib.hasPrefix (strB (textL (decide (v < 0)) k v.natAbs)).data.toList [45] = pneg (bytesN S)) ∧
    Lib.hasPrefix S.data.toList [45] = pneg (bytesN S) ∧ (∀ (j : Nat) (b : UInt8), S.data.toList[j]? = some b → b.toNat < 128) := by
  have f1 := ba_list e1
  have f2 := ba_list e2
  have f3 := ba_list e3
  rw [f1] at f2
  rw [f2] at f3
  obtain ⟨g1, g2, g3, g4, g5⟩ := again_facts hk h36 S.data.toList hok D3.data.toList f3.symm
  have g6 : S.data.toList.map UInt8.toNat = bytesN S := rfl
  rw [g6] at g2 g3 g4
  have hD : D3 = ⟨D3.data.toList.toArray⟩ := by obtain ⟨⟨l⟩⟩ := D3; rfl
  refine ⟨fun h => ?_, fun h => ?_, g2, fun j b hb => g1 b (List.mem_of_getElem? hb)⟩
  · have h0 := g3 (by rw [h])
    rw [h0] at hv
    have : v = 0 := by rw [hv]; split <;> rfl
    rw [this]; rfl
  · obtain ⟨h1, h2⟩ := g4 (fun h' => h (ba_empty h'))
    generalize parV k (pbody (bytesN S)) = m at *
    cases hp : pneg (bytesN S)
    · rw [hp, if_neg (by decide)] at hv
      subst hv
      rw [decide_eq_false (by omega), Int.natAbs_natCast, strB_list, h2]
      rcases hd : D3.data.toList with _ | ⟨c, t⟩
      · exact absurd (ba_empty hd) h
      · have h45 := g5 c t hd
        have hq : Lib.hasPrefix (c :: t) [45] = false := by
          unfold Lib.hasPrefix
          simp [List.isPrefixOf]
          exact fun h => h45 h.symm
        refine ⟨?_, hq⟩
        unfold Lib.trimPrefix
        rw [if_neg (by rw [hq]; decide), ← hd]
    · rw [hp, if_pos rfl] at hv
      subst hv
      rw [decide_eq_true (by omega), Int.natAbs_neg, Int.natAbs_natCast, strB_list, text_neg h1, List.map_cons, h2]
      exact ⟨hD.symm, rfl⟩
theorem Compare_z (n1 n2 : Bool) (A1 A2 : Option Addr) (c1 c2 : Nat) (l1 l2 : List Nat) (z1 z2 : Int) (w : World) (h1 : Rd w A1 l1) (h2 : Rd w A2 l2) (hc1 : l1.length ≤ c1) (hc2 : l2.length ≤ c2) (k1 : OkZ n1 l1 z1) (k2 : OkZ n2 l2 z2) :
    Calls Tryz.prog 10 #[iv n1 A1 l1.length c1, iv n2 A2 l2.length c2] w fun e w' => e = .returned (.int .i64 (cmpZ z1 z2)) ∧ Below w.heap.size w w' := by
  have h := Compare_calls n1 n2 A1 A2 c1 c2 l1 l2 w h1 h2 hc1 hc2
  have e : cmpR n1 l1 n2 l2 = cmpZ z1 z2 := by unfold cmpR; rw [k1.ok, k2.ok, Bool.and_self, if_pos rfl, k1.val, k2.val]
  rw [e] at h
  exact h
theorem Same_d (n1 n2 : Bool) (A1 A2 : Option Addr) (c1 c2 : Nat) (l1 l2 : List Nat) (z1 z2 : Int) (w : World) (h1 : Rd w A1 l1) (h2 : Rd w A2 l2) (hc1 : l1.length ≤ c1) (hc2 : l2.length ≤ c2) (k1 : IsZ n1 l1 z1) (k2 : IsZ n2 l2 z2) (v : Bool) (e : decide (z1 = z2) = v) :
    Calls Tryz.prog 8 #[iv n1 A1 l1.length c1, iv n2 A2 l2.length c2] w fun e w' => e = .returned (.bool v) ∧ Below w.heap.size w w' := by
  have h := Same_calls n1 n2 A1 A2 c1 c2 l1 l2 w h1 h2 hc1 hc2
  rwa [sameI_z k1 k2, e] at h
theorem lformed_two (m : Nat) (g : Nat) (n1 n2 : Bool) (A1 A2 : Option Addr) (c1 c2 : Nat) (l1 l2 : List Nat) (w : World) (hg : w.heap[g]? = some (.cells #[.bool n1, .slice A1 l1.length c1, .bool n2, .slice A2 l2.length c2] 24 (0, 0))) (h1 : Rd w A1 l1) (h2 : Rd w A2 l2) (hc1 : l1.length ≤ c1) (hc2 : l2.length ≤ c2) (b : Bool) (hb : ((okI n1 l1 && decide (l1.length ≤ m)) && (okI n2 l2 && decide (l2.length ≤ m))) = b) :
    Calls Tryz.prog 4 #[.int .i64 (m : Int), .slice (some ⟨g, 0, none⟩) 2 2] w fun e w' => e = .returned (.bool b) ∧ Below w.heap.size w w' := by
  have := lformed_calls m g [⟨n1, A1, c1, l1⟩, ⟨n2, A2, c2, l2⟩] w (Array.getElem?_eq_some_iff.1 hg).1 ⟨?_, ?_, ?_⟩ (by simp)
  · rw [← hb]
    simpa [IntArg.ok] using this
  · intro k hk
    rcases (show k = 0 ∨ k = 1 by simp at hk; omega) with rfl | rfl
    · exact cell_at hg 0 _ rfl
    · exact cell_at hg 2 _ rfl
  · intro k hk
    rcases (show k = 0 ∨ k = 1 by simp at hk; omega) with rfl | rfl
    · exact cell_at hg 1 _ rfl
    · exact cell_at hg 3 _ rfl
  · intro k hk
    rcases (show k = 0 ∨ k = 1 by simp at hk; omega) with rfl | rfl
    · exact ⟨h1, hc1⟩
    · exact ⟨h2, hc2⟩
theorem text_v (n1 : Bool) (k : Nat) (A1 : Option Addr) (c1 : Nat) (l1 : List Nat) (z : Int) (h2 : 2 ≤ k) (h36 : k ≤ 36) (k1 : OkZ n1 l1 z) (T : ByteArray) (hT : strB (textL (decide (z < 0)) k z.natAbs) = T) (w : World) (h1 : Rd w A1 l1) (hc1 : l1.length ≤ c1) (hd : DigW w) :
    Calls Tryz.prog 6 #[iv n1 A1 l1.length c1, .int .i64 (k : Int)] w fun e w' => e = .returned (.tuple #[.string T, .int .i64 0]) ∧ Below w.heap.size w w' := by
  have h := Text_calls n1 (k : Int) A1 c1 l1 w h1 hc1 hd
  rw [textR_z k1, if_pos ⟨by omega, by omega⟩, Int.toNat_natCast] at h
  rw [← hT]; exact h
theorem parse_v (k : Nat) (S : ByteArray) (hsm : S.size < 35184372088832) (z er : Int) (hp : parR (k : Int) (bytesN S) = (z, er)) (w : World) :
    Calls Tryz.prog 7 #[.string S, .int .i64 (k : Int)] w (RetZE z er w) := by
  have h := Parse_calls (k : Int) S w hsm
  rwa [hp] at h

theorem scmp_v (S T : ByteArray) (v : Int) (h : Lib.compareBytes S.data.toList T.data.toList = v) (w : World) :
    Calls Tryz.prog 9 #[.string S, .string T] w fun e w' => e = .returned (.int .i64 v) ∧ Below w.heap.size w w' := by
  refine (Tryz.strings_Compare S T w).mono ?_
  rintro e w' ⟨rfl, rfl⟩
  exact ⟨by rw [h], Below.refl _ _⟩
theorem low_v (S D : ByteArray) (h : D = ⟨(Lib.toLowerA S.data.toList).toArray⟩) (hs : S.size ≤ 140737488355328) (ha : ∀ (j : Nat) (b : UInt8), S.data.toList[j]? = some b → b.toNat < 128) (w : World) :
    Calls Tryz.prog 13 #[.string S] w fun e w' => e = .returned (.string D) ∧ Below w.heap.size w w' := by
  rw [h]; exact Tryz.strings_ToLower_ascii S w hs ha
theorem tpre_v (D D' : ByteArray) (h : D' = ⟨(Lib.trimPrefix D.data.toList [45]).toArray⟩) (w : World) :
    Calls Tryz.prog 12 #[.string D, .string ⟨#[45]⟩] w fun e w' => e = .returned (.string D') ∧ Below w.heap.size w w' := by
  refine (Tryz.strings_TrimPrefix D ⟨#[45]⟩ w).mono ?_
  rintro e w' ⟨rfl, rfl⟩
  exact ⟨by rw [h], Below.refl _ _⟩
theorem tleft_v (D D' : ByteArray) (h : D' = ⟨(Lib.trimLeftB D.data.toList 48).toArray⟩) (w : World) :
    Calls Tryz.prog 11 #[.string D, .string ⟨#[48]⟩] w fun e w' => e = .returned (.string D') ∧ Below w.heap.size w w' := by
  refine (Tryz.strings_TrimLeft_one D 48 (by decide) w).mono ?_
  rintro e w' ⟨rfl, rfl⟩
  exact ⟨by rw [h], Below.refl _ _⟩
theorem hpre_v (D : ByteArray) (p : Bool) (h : Lib.hasPrefix D.data.toList [45] = p) (w : World) :
    Calls Tryz.prog 14 #[.string D, .string ⟨#[45]⟩] w fun e w' => e = .returned (.bool p) ∧ Below w.heap.size w w' := by
  refine (Tryz.strings_HasPrefix D ⟨#[45]⟩ w).mono ?_
  rintro e w' ⟨rfl, rfl⟩
  exact ⟨by rw [← h], Below.refl _ _⟩
theorem parR_k {k : Nat} (hk : 2 ≤ k) (h36 : k ≤ 36) (cs : List Nat) : parR (k : Int) cs = if parOk k (pbody cs) = true then fitZ (if pneg cs = true then -(parV k (pbody cs) : Int) else (parV k (pbody cs) : Int)) else (0, 2) := by
  unfold parR
  rw [if_pos ⟨by omega, by omega⟩, Int.toNat_natCast]
theorem isZ0_len {s : Bool} {l : List Nat} (h : IsZ s l 0) : l.length = 0 := by rw [h.abs]; exact congrArg List.length lim_zero

set_option maxRecDepth 100000 in
set_option maxHeartbeats 16000000 in
theorem NumTextsBack_calls (s1 s2 : Bool) (A1 A2 : Option Addr) (c1 c2 : Nat) (l1 l2 : List Nat) (bs : Nat) (S : ByteArray) (w : World) (h1 : Rd w A1 l1) (h2 : Rd w A2 l2) (hc1 : l1.length ≤ c1) (hc2 : l2.length ≤ c2) (hbs : bs < 256) (hd : DigW w) :
    Calls Tryz.prog 3 #[iv s1 A1 l1.length c1, iv s2 A2 l2.length c2, .int .u8 (bs : Int), .string S] w fun e w' => e = .returned (.bool true) ∧ Below w.heap.size w w' := by
  obtain ⟨hbw, B1, B2⟩ := two_boxes w s1 s2 A1 A2 c1 c2 l1 l2 h1 h2 hc1 hc2
  obtain ⟨W, hW⟩ : ∃ W, (w.alloc (.cells #[.bool s1, .slice A1 l1.length c1] 24)).alloc (.cells #[.bool s2, .slice A2 l2.length c2] 24) = W := ⟨_, rfl⟩
  rw [hW] at hbw B1 B2
  have hsz1 : w.heap.size + 1 < W.heap.size := by rw [← hW]; simp
  have hsz0 : w.heap.size < W.heap.size := by omega
  have x0 := cell_at B1.blk 0 _ rfl
  have x1 := cell_at B1.blk 1 _ rfl
  have x2 := cell_at B2.blk 0 _ rfl
  have x3 := cell_at B2.blk 1 _ rfl
  have hal : ∀ o, Below W.heap.size W (W.alloc o) := fun o => (Below.refl _ W).alloc (Nat.le_refl _) _
  obtain ⟨b8, h8⟩ : ∃ b, ((okI s1 l1 && decide (l1.length ≤ 60)) && (okI s2 l2 && decide (l2.length ≤ 60))) = b := ⟨_, rfl⟩
  have f8 := lformed_two 60 W.heap.size s1 s2 A1 A2 c1 c2 l1 l2 _ (args_blk W s1 s2 A1 A2 c1 c2 l1 l2) (B1.rd.on (hal _)) (B2.rd.on (hal _)) hc1 hc2 _ h8
  have hdW := hd.on hbw
  obtain ⟨k, hk⟩ : ∃ k : Nat, 2 + bs % 35 = k := ⟨_, rfl⟩
  have hk2 : 2 ≤ k := by omega
  have hk36 : k ≤ 36 := by omega
  have EK : (2 : Int) + (bs : Int) % 35 = (k : Int) := by omega
  have Hk := Lib.hid hk
  have Hk2 := Lib.hid hk2
  have Hk36 := Lib.hid hk36
  clear hk hk2 hk36
  cases b8
  · clear h8
    go_enter Tryz.func3, Tryz.ntmps3
    go_wp2_with first
      | (go_at_call 5; have hmark := by9; refine (sane_calls _ (hdW.on by9)).mono ?_; rintro e w10 ⟨rfl, b10⟩; have by10 := by9.trans (b10.mono by9.size); replace B1 := B1.on b10; replace B2 := B2.on b10; clear b10)
      | (go_at_call 4; refine f8.mono ?_; rintro e w4 ⟨rfl, b4⟩; have by9 := (hal (.cells #[.bool s1, .slice A1 l1.length c1, .bool s2, .slice A2 l2.length c2] 24)).trans (b4.mono (hal (.cells #[.bool s1, .slice A1 l1.length c1, .bool s2, .slice A2 l2.length c2] 24)).size); replace B1 := B1.on by9; replace B2 := B2.on by9)
    go_ret
    exact ⟨rfl, hbw.trans (by10.mono hbw.size)⟩
  · by_cases hS : 300 < S.size
    · have hSI : (300 : Int) < (S.size : Int) := by omega
      clear h8
      go_enter Tryz.func3, Tryz.ntmps3
      go_wp2_with first
        | (go_at_call 5; have hmark := by9; refine (sane_calls _ (hdW.on by9)).mono ?_; rintro e w10 ⟨rfl, b10⟩; have by10 := by9.trans (b10.mono by9.size); replace B1 := B1.on b10; replace B2 := B2.on b10; clear b10)
        | (go_at_call 4; refine f8.mono ?_; rintro e w4 ⟨rfl, b4⟩; have by9 := (hal (.cells #[.bool s1, .slice A1 l1.length c1, .bool s2, .slice A2 l2.length c2] 24)).trans (b4.mono (hal (.cells #[.bool s1, .slice A1 l1.length c1, .bool s2, .slice A2 l2.length c2] 24)).size); replace B1 := B1.on by9; replace B2 := B2.on by9)
      go_ret
      exact ⟨rfl, hbw.trans (by10.mono hbw.size)⟩
    · have hSI : ¬ (300 : Int) < (S.size : Int) := by omega
      have hsm : S.size < 35184372088832 := by omega
      have hlo : S.size ≤ 140737488355328 := by omega
      have hw1 := h1.words
      have hw2 := h2.words
      obtain ⟨p1, p2⟩ := Bool.and_eq_true_iff.1 h8
      obtain ⟨z1, e1⟩ := formed_ok hw1 p1
      obtain ⟨z2, e2⟩ := formed_ok hw2 p2
      clear h8 p1 p2 e1 e2
      obtain ⟨a, ha⟩ : ∃ a, toZ s1 l1 = a := ⟨_, rfl⟩
      obtain ⟨b, hb⟩ : ∃ b, toZ s2 l2 = b := ⟨_, rfl⟩
      rw [ha] at z1
      rw [hb] at z2
      clear ha hb
      have G1 := text_small z1 hw1 Hk2.out (decide (a < 0))
      have G3 := back_parse z1 Hk2.out Hk36.out
      have G4 := fun ha hb => back_order (a := a) (b := b) Hk2.out Hk36.out ha hb
      obtain ⟨T, hT⟩ : ∃ T, strB (textL (decide (a < 0)) k a.natAbs) = T := ⟨_, rfl⟩
      obtain ⟨U, hU⟩ : ∃ U, strB (textL (decide (b < 0)) k b.natAbs) = U := ⟨_, rfl⟩
      have K1 := fun W' => text_v s1 k A1 c1 l1 a Hk2.out Hk36.out z1 T hT W'
      have K2 := fun W' => text_v s2 k A2 c2 l2 b Hk2.out Hk36.out z2 U hU W'
      rw [hT] at G1 G3 G4
      rw [hU] at G4
      rw [← z1.isZ.sgn, ← z2.isZ.sgn] at G4
      have K3 := fun W' => parse_v k T G1 a 0 G3 W'
      have K4 := fun W' h1 h2 => Compare_z s1 s2 A1 A2 c1 c2 l1 l2 a b W' h1 h2 hc1 hc2 z1 z2
      obtain ⟨v, hv⟩ : ∃ v, cmpZ a b = v := ⟨_, rfl⟩
      rw [hv] at G4 K4
      clear G1 G3 hT hU hv
      go_enter Tryz.func3, Tryz.ntmps3
      go_upto_region 9 with first
        | (go_at_call 8; have hmark := by12; refine (Same_d s12 s1 A12 A1 c12 c1 l12 l1 a a _ B12.rd B1.rd B12.cap hc1 z12 z1.isZ true (decide_eq_true rfl)).mono ?_; rintro e w13 ⟨rfl, b13⟩; have by13 := by12.trans (b13.mono by12.size); replace B1 := B1.on b13; replace B2 := B2.on b13; replace B12 := B12.on b13; clear b13; clear u1a u1b; clear u12a u12b)
        | (go_at_call 6; have hmark := by11; refine (K2 _ B2.rd hc2 (hdW.on by11)).mono ?_; rintro e w12 ⟨rfl, b12⟩; have by12 := by11.trans (b12.mono by11.size); replace B1 := B1.on b12; replace B2 := B2.on b12; replace B12 := B12.on b12; clear b12; clear u2a u2b; have u1a := cell_at B1.blk 0 _ rfl; have u1b := cell_at B1.blk 1 _ rfl; have u12a := cell_at B12.blk 0 _ rfl; have u12b := cell_at B12.blk 1 _ rfl)
        | (go_at_call 7; have hmark := by10; refine (K3 _).mono ?_; rintro e w11 ⟨s12, A12, c12, l12, rfl, z12, n12, r12, b11⟩; obtain ⟨bx11, B12⟩ := one_box w11 s12 A12 c12 l12 r12 n12; have by11 := (by10.trans (b11.mono by10.size)).trans (bx11.mono (by10.trans (b11.mono by10.size)).size); replace B1 := (B1.on b11).on bx11; replace B2 := (B2.on b11).on bx11; clear bx11 b11; have u2a := cell_at B2.blk 0 _ rfl; have u2b := cell_at B2.blk 1 _ rfl)
        | (go_at_call 6; have hmark := by9; refine (K1 _ B1.rd hc1 (hdW.on by9)).mono ?_; rintro e w10 ⟨rfl, b10⟩; have by10 := by9.trans (b10.mono by9.size); replace B1 := B1.on b10; replace B2 := B2.on b10; clear b10; clear u1a u1b)
        | (go_at_call 4; refine f8.mono ?_; rintro e w4 ⟨rfl, b4⟩; have by9 := (hal (.cells #[.bool s1, .slice A1 l1.length c1, .bool s2, .slice A2 l2.length c2] 24)).trans (b4.mono (hal (.cells #[.bool s1, .slice A1 l1.length c1, .bool s2, .slice A2 l2.length c2] 24)).size); replace B1 := B1.on by9; replace B2 := B2.on by9; have u1a := cell_at B1.blk 0 _ rfl; have u1b := cell_at B1.blk 1 _ rfl)
      clear x0 x1 x2 x3
      have v1a := cell_at B1.blk 0 _ rfl
      have v1b := cell_at B1.blk 1 _ rfl
      have v2a := cell_at B2.blk 0 _ rfl
      have v2b := cell_at B2.blk 1 _ rfl
      go_cut [91] from 19 (fun g wx => g = .bool false ∧ Below W.heap.size W wx)
      case first =>
        cases s1
        · cases s2
          · replace G4 := G4 rfl rfl
            by_cases hTU : T.size = U.size
            · replace G4 := G4 hTU
              have hb1 : ((T.size : Int) == (U.size : Int)) = true := by rw [hTU]; exact beq_self_eq_true _
              clear hTU
              go_region_held3 (fun w'' => w''.cell? ⟨w.heap.size, 0, none⟩ = some (.bool false) ∧ w''.cell? ⟨w.heap.size, 1, none⟩ = some (.slice A1 l1.length c1) ∧ w''.cell? ⟨w.heap.size + 1, 0, none⟩ = some (.bool false) ∧ w''.cell? ⟨w.heap.size + 1, 1, none⟩ = some (.slice A2 l2.length c2)) ((first | (with_reducible exact ⟨v1a, v1b, v2a, v2b⟩) | exact ⟨v1a, v1b, v2a, v2b⟩))
                ((first
                  | (go_at_call 10; have hmark := q30; refine (K4 w30 (B1.rd.on q30) (B2.rd.on q30)).mono ?_; rintro e w31 ⟨rfl, b31⟩; clear v1a v1b v2a v2b; have q31 := q30.trans (b31.mono q30.size); have v1a : w31.cell? ⟨w.heap.size, 0, none⟩ = some (.bool false) := cell_at (B1.on q31).blk 0 _ rfl; have v1b : w31.cell? ⟨w.heap.size, 1, none⟩ = some (.slice A1 l1.length c1) := cell_at (B1.on q31).blk 1 _ rfl; have v2a : w31.cell? ⟨w.heap.size + 1, 0, none⟩ = some (.bool false) := cell_at (B2.on q31).blk 0 _ rfl; have v2b : w31.cell? ⟨w.heap.size + 1, 1, none⟩ = some (.slice A2 l2.length c2) := cell_at (B2.on q31).blk 1 _ rfl)
                  | (go_at_call 9; refine (scmp_v T U v G4 _).mono ?_; rintro e w30 ⟨rfl, b30⟩; clear v1a v1b v2a v2b; have q30 := (below_drew (Below.refl _ w13)).trans b30; have v1a : w30.cell? ⟨w.heap.size, 0, none⟩ = some (.bool false) := cell_at (B1.on q30).blk 0 _ rfl; have v1b : w30.cell? ⟨w.heap.size, 1, none⟩ = some (.slice A1 l1.length c1) := cell_at (B1.on q30).blk 1 _ rfl; have v2a : w30.cell? ⟨w.heap.size + 1, 0, none⟩ = some (.bool false) := cell_at (B2.on q30).blk 0 _ rfl; have v2b : w30.cell? ⟨w.heap.size + 1, 1, none⟩ = some (.slice A2 l2.length c2) := cell_at (B2.on q30).blk 1 _ rfl)))
              go_wp2_with fail
              go_meet
              exact ⟨rfl, by13.trans (q31.mono by13.size)⟩
            · have hb1 : ((T.size : Int) == (U.size : Int)) = false := by rw [beq_eq_false_iff_ne]; omega
              clear hTU
              go_quiet (fail)
              go_wp2
              go_meet
              exact ⟨rfl, below_drewN by13 _⟩
          · go_quiet (fail)
            go_wp2
            go_meet
            exact ⟨rfl, below_drewN by13 _⟩
        · go_quiet (fail)
          go_wp2
          go_meet
          exact ⟨rfl, below_drewN by13 _⟩
      case rest =>
        obtain ⟨rfl, hwc⟩ := hcut
        clear v1a v1b v2a v2b B1 B2 B12 G4 K1 K2 K3 K4 f8
        have PR := parR_k Hk2.out Hk36.out (bytesN S)
        by_cases hok : parOk k (pbody (bytesN S)) = true
        · rw [if_pos hok] at PR
          have hA := fun D1 D2 D3 e1 e2 e3 => back_again Hk2.out Hk36.out S hok _ rfl D1 D2 D3 e1 e2 e3
          obtain ⟨v, hv⟩ : ∃ v : Int, (if pneg (bytesN S) = true then -(parV k (pbody (bytesN S)) : Int) else (parV k (pbody (bytesN S)) : Int)) = v := ⟨_, rfl⟩
          rw [hv] at PR hA
          clear hv hok
          unfold fitZ at PR
          by_cases hf : (lim v.natAbs).length ≤ 300
          · rw [if_pos hf] at PR
            replace hf := Lib.hid hf
            obtain ⟨D1, F1⟩ : ∃ D, D = (⟨(Lib.toLowerA S.data.toList).toArray⟩ : ByteArray) := ⟨_, rfl⟩
            obtain ⟨D2, F2⟩ : ∃ D, D = (⟨(Lib.trimPrefix D1.data.toList [45]).toArray⟩ : ByteArray) := ⟨_, rfl⟩
            obtain ⟨D3, F3⟩ : ∃ D, D = (⟨(Lib.trimLeftB D2.data.toList 48).toArray⟩ : ByteArray) := ⟨_, rfl⟩
            obtain ⟨J0, J12, J3, F4⟩ := hA D1 D2 D3 F1 F2 F3
            obtain ⟨G, hG⟩ : ∃ G, strB (textL (decide (v < 0)) k v.natAbs) = G := ⟨_, rfl⟩
            rw [hG] at J0 J12
            obtain ⟨p, hp⟩ : ∃ p, pneg (bytesN S) = p := ⟨_, rfl⟩
            rw [hp] at J12 J3
            replace F1 := Lib.hid F1
            replace F2 := Lib.hid F2
            replace F4 := Lib.hid F4
            clear hA hp
            by_cases h0 : D3 = ⟨#[]⟩
            · obtain rfl : G = ⟨#[48]⟩ := J0 h0
              subst h0
              replace F3 := Lib.hid F3
              replace hG := Lib.hid hG
              clear J0 J12 J3
              go_wp2_with first
                | (go_at_call 5; have hmark := by24; refine (sane_calls _ (hdW.on by24)).mono ?_; rintro e w25 ⟨rfl, b25⟩; have by25 := by24.trans (b25.mono by24.size); replace B16 := B16.on b25; clear b25)
                | (go_at_call 11; have hmark := by23; refine (tleft_v D2 ⟨#[]⟩ F3.out _).mono ?_; rintro e w24 ⟨rfl, b24⟩; have by24 := by23.trans (b24.mono by23.size); replace B16 := B16.on b24; clear b24)
                | (go_at_call 12; have hmark := by22; refine (tpre_v D1 D2 F2.out _).mono ?_; rintro e w23 ⟨rfl, b23⟩; have by23 := by22.trans (b23.mono by22.size); replace B16 := B16.on b23; clear b23)
                | (go_at_call 13; have hmark := by21; refine (low_v S D1 F1.out hlo F4.out _).mono ?_; rintro e w22 ⟨rfl, b22⟩; have by22 := by21.trans (b22.mono by21.size); replace B16 := B16.on b22; clear b22)
                | (go_at_call 6; have hmark := by20; refine (text_v s16 k A16 c16 l16 v Hk2.out Hk36.out ⟨z16, by rw [z16.abs]; exact hf.out⟩ _ hG.out _ B16.rd B16.cap (hdW.on by20)).mono ?_; rintro e w21 ⟨rfl, b21⟩; have by21 := by20.trans (b21.mono by20.size); replace B16 := B16.on b21; clear b21; clear u16a u16b)
                | (go_at_call 7; have hmark := hwc; refine (parse_v k S hsm v 0 PR _).mono ?_; rintro e w20 ⟨s16, A16, c16, l16, rfl, z16, n16, r16, b20⟩; obtain ⟨bx20, B16⟩ := one_box w20 s16 A16 c16 l16 r16 n16; have by20 := (hwc.trans (b20.mono hwc.size)).trans (bx20.mono (hwc.trans (b20.mono hwc.size)).size); clear bx20 b20; have u16a := cell_at B16.blk 0 _ rfl; have u16b := cell_at B16.blk 1 _ rfl)
              go_ret
              exact ⟨rfl, hbw.trans (by25.mono hbw.size)⟩
            · obtain ⟨J1, J2⟩ := J12 h0
              replace J1 := J1.symm
              have hn2 : D3.toList ≠ [] := by rw [ByteArray.toList_eq]; exact fun h => h0 (ba_empty h)
              have hn0 : (D3.toList == ([] : List UInt8)) = false := beq_eq_false_iff_ne.2 hn2
              have hn1 : D3.toList.isEmpty = false := by rw [List.isEmpty_eq_false_iff]; exact hn2
              replace F3 := Lib.hid F3
              replace hG := Lib.hid hG
              replace J1 := Lib.hid J1
              replace J2 := Lib.hid J2
              replace J3 := Lib.hid J3
              clear J0 J12
              go_wp2_with first
                | (go_at_call 14; have hmark := by27; refine (hpre_v S p J3.out _).mono ?_; rintro e w28 ⟨rfl, b28⟩; have by28 := by27.trans (b28.mono by27.size); replace B16 := B16.on b28; clear b28)
                | (go_at_call 14; have hmark := by26; refine (hpre_v G p J2.out _).mono ?_; rintro e w27 ⟨rfl, b27⟩; have by27 := by26.trans (b27.mono by26.size); replace B16 := B16.on b27; clear b27)
                | (go_at_call 12; have hmark := by25; refine (tpre_v G D3 J1.out _).mono ?_; rintro e w26 ⟨rfl, b26⟩; have by26 := by25.trans (b26.mono by25.size); replace B16 := B16.on b26; clear b26)
                | (go_at_call 5; have hmark := by24; refine (sane_calls _ (hdW.on by24)).mono ?_; rintro e w25 ⟨rfl, b25⟩; have by25 := by24.trans (b25.mono by24.size); replace B16 := B16.on b25; clear b25)
                | (go_at_call 11; have hmark := by23; refine (tleft_v D2 D3 F3.out _).mono ?_; rintro e w24 ⟨rfl, b24⟩; have by24 := by23.trans (b24.mono by23.size); replace B16 := B16.on b24; clear b24)
                | (go_at_call 12; have hmark := by22; refine (tpre_v D1 D2 F2.out _).mono ?_; rintro e w23 ⟨rfl, b23⟩; have by23 := by22.trans (b23.mono by22.size); replace B16 := B16.on b23; clear b23)
                | (go_at_call 13; have hmark := by21; refine (low_v S D1 F1.out hlo F4.out _).mono ?_; rintro e w22 ⟨rfl, b22⟩; have by22 := by21.trans (b22.mono by21.size); replace B16 := B16.on b22; clear b22)
                | (go_at_call 6; have hmark := by20; refine (text_v s16 k A16 c16 l16 v Hk2.out Hk36.out ⟨z16, by rw [z16.abs]; exact hf.out⟩ _ hG.out _ B16.rd B16.cap (hdW.on by20)).mono ?_; rintro e w21 ⟨rfl, b21⟩; have by21 := by20.trans (b21.mono by20.size); replace B16 := B16.on b21; clear b21; clear u16a u16b)
                | (go_at_call 7; have hmark := hwc; refine (parse_v k S hsm v 0 PR _).mono ?_; rintro e w20 ⟨s16, A16, c16, l16, rfl, z16, n16, r16, b20⟩; obtain ⟨bx20, B16⟩ := one_box w20 s16 A16 c16 l16 r16 n16; have by20 := (hwc.trans (b20.mono hwc.size)).trans (bx20.mono (hwc.trans (b20.mono hwc.size)).size); clear bx20 b20; have u16a := cell_at B16.blk 0 _ rfl; have u16b := cell_at B16.blk 1 _ rfl)
              go_ret
              exact ⟨rfl, hbw.trans (by28.mono hbw.size)⟩
          · rw [if_neg hf] at PR
            go_wp2_with first
              | (go_at_call 5; have hmark := by20; refine (sane_calls _ (hdW.on by20)).mono ?_; rintro e w21 ⟨rfl, b21⟩; have by21 := by20.trans (b21.mono by20.size); replace B16 := B16.on b21; clear b21; have lz0 : ((l16.length : Int) == 0) = true := (by rw [isZ0_len z16]; rfl); have lz1 : (l16.length == 0) = true := (by rw [isZ0_len z16]; rfl); have u16a := cell_at B16.blk 0 _ rfl; have u16b := cell_at B16.blk 1 _ rfl)
              | (go_at_call 7; have hmark := hwc; refine (parse_v k S hsm 0 3 PR _).mono ?_; rintro e w20 ⟨s16, A16, c16, l16, rfl, z16, n16, r16, b20⟩; obtain ⟨bx20, B16⟩ := one_box w20 s16 A16 c16 l16 r16 n16; have by20 := (hwc.trans (b20.mono hwc.size)).trans (bx20.mono (hwc.trans (b20.mono hwc.size)).size); clear bx20 b20)
            go_ret
            exact ⟨rfl, hbw.trans (by21.mono hbw.size)⟩
        · rw [if_neg hok] at PR
          go_wp2_with first
            | (go_at_call 5; have hmark := by20; refine (sane_calls _ (hdW.on by20)).mono ?_; rintro e w21 ⟨rfl, b21⟩; have by21 := by20.trans (b21.mono by20.size); replace B16 := B16.on b21; clear b21; have lz0 : ((l16.length : Int) == 0) = true := (by rw [isZ0_len z16]; rfl); have lz1 : (l16.length == 0) = true := (by rw [isZ0_len z16]; rfl); have u16a := cell_at B16.blk 0 _ rfl; have u16b := cell_at B16.blk 1 _ rfl)
            | (go_at_call 7; have hmark := hwc; refine (parse_v k S hsm 0 2 PR _).mono ?_; rintro e w20 ⟨s16, A16, c16, l16, rfl, z16, n16, r16, b20⟩; obtain ⟨bx20, B16⟩ := one_box w20 s16 A16 c16 l16 r16 n16; have by20 := (hwc.trans (b20.mono hwc.size)).trans (bx20.mono (hwc.trans (b20.mono hwc.size)).size); clear bx20 b20)
          go_ret
          exact ⟨rfl, hbw.trans (by21.mono hbw.size)⟩

end Nm
end Go.Proofs.YtlhmbbpkhahbeaaGreatDoor
