/-
  Contracts of the walks below.
-/
import Derived.Test.YtjghnghceeijeaaGreatDoorDb10
set_option maxRecDepth 100000
set_option maxHeartbeats 4000000
set_option linter.unusedVariables false
set_option linter.unusedSimpArgs false
namespace Go.Proofs.YtjghnghceeijeaaGreatDoor
namespace Nm
open Go.RowKit Go.Shelf Go.BigFrame
attribute [local go_sem] Oper.semAt_some
theorem own_base {w : World} {base n : Nat} {v : Value} {xs : List Value} (h : w.ownsRow base 127 1 v n xs) : ∀ j, v.ownBlock = some j → base ≤ j := by
 intro j e
 rcases h.2 with ⟨rfl, rfl⟩ | ⟨g, cap, cur, rfl, hb, _⟩
 · cases e
 · cases e; exact hb
set_option maxHeartbeats 1000000 in
theorem limb_calls (A : Option Addr) (c i x : Nat) (l : List Nat) (w : World) (hA : Rd w A l) (_hc : l.length ≤ c) (hx : l.getD i 0 = x) :
 Calls Tryz.prog 183 #[.slice A l.length c, .int .i64 (i : Int)] w fun e w' => e = .returned (.int .u64 (x : Int)) ∧ w = w' := by
 have hs := hA.small
 by_cases h : i < l.length
 · obtain ⟨b, o, y, rfl, hcy, hy, hyb⟩ := hA.get i h
   obtain rfl : y = x := hy.out.symm.trans hx
   clear hx
   go_enter Tryz.func183, Tryz.ntmps183
   go_wp2
   go_ret
   exact ⟨rfl, rfl⟩
 · have h' : ((i : Int) < (l.length : Int)) ↔ False := by rw [iff_false]; omega
   obtain rfl : x = 0 := by rw [← hx, List.getD_eq_getElem?_getD, List.getElem?_eq_none (by omega)]; rfl
   clear hx
   go_enter Tryz.func183, Tryz.ntmps183
   go_wp2
   go_ret
   exact ⟨rfl, rfl⟩
def RetL (n m : Nat) (w : World) (e : Ending) (w' : World) : Prop :=
 ∃ A c l, e = .returned (.slice A l.length c) ∧ val l = n ∧ l.length ≤ m ∧ l.length ≤ c ∧ Rd w' A l ∧ Below w.heap.size w w'
theorem take_val {l : List Nat} {k : Nat} : val (l.take (k + 1)) = val (l.take k) + BB ^ k * l.getD k 0 := by
 by_cases h : k < l.length
 · rw [List.take_succ_eq_append_getElem h, val_snoc, List.length_take, Nat.min_eq_left (by omega), List.getD_eq_getElem?_getD, List.getElem?_eq_getElem h]; rfl
 · rw [List.take_of_length_le (by omega), List.take_of_length_le (by omega), List.getD_eq_getElem?_getD, List.getElem?_eq_none (by omega)]; simp
theorem sum_next {ds : List Nat} {k cr x y z c' : Nat} {a b X Y : Nat} (hl : ds.length = k) (h : val ds + BB ^ k * cr = a + b) (ha : X = a + BB ^ k * x) (hb : Y = b + BB ^ k * y)
 (hz : z = (x + y + cr) % BB) (hc : c' = (x + y + cr) / BB) : val (ds ++ [z]) + BB ^ (k + 1) * c' = X + Y := by
 have := Nat.div_add_mod (x + y + cr) BB
 rw [← hz, ← hc] at this
 rw [val_snoc, hl, ha, hb, Nat.pow_succ]
 have e : BB ^ k * BB * c' + BB ^ k * z = BB ^ k * (x + y + cr) := by rw [← this, Nat.mul_add, Nat.mul_assoc]
 rw [Nat.mul_add, Nat.mul_add] at e
 omega
theorem canon_of_pow {l : List Nat} (hw : Words l) (h : l.length = 0 ∨ BB ^ (l.length - 1) ≤ val l) : Canon l := by
 refine ⟨hw, fun hne hz => ?_⟩
 have e := List.dropLast_concat_getLast hne
 rw [hz] at e
 have h1 : val l = val l.dropLast := by
  conv => lhs; rw [← e]
  rw [val_snoc]; simp
 have h2 := val_lt (l := l.dropLast) (by rw [List.dropLast_eq_take]; exact words_take hw _)
 rw [List.length_dropLast] at h2
 rcases h with h | h
 · exact hne (List.length_eq_zero_iff.1 h)
 · omega
theorem pow_le_of_canon {l : List Nat} (h : Canon l) (hl : 0 < l.length) : BB ^ (l.length - 1) ≤ val l := by
 have : l.length - 1 < (lim (val l)).length := by rw [lim_val h]; omega
 exact pow_le_of_length this
theorem sum_calls (A1 A2 : Option Addr) (c1 c2 : Nat) (l1 l2 : List Nat) (w : World) (h1 : Rd w A1 l1) (h2 : Rd w A2 l2) (hc1 : l1.length ≤ c1) (hc2 : l2.length ≤ c2) (hs1 : l1.length ≤ 1048576) (hs2 : l2.length ≤ 1048576) (k1 : Canon l1) (k2 : Canon l2) :
 Calls Tryz.prog 122 #[.slice A1 l1.length c1, .slice A2 l2.length c2] w (RetNat (val l1 + val l2) w) := by
 obtain ⟨i0, hi, hz0, hz1, hz2⟩ := info_parts info_u32
 have hbt : Tryz.prog.underlying 22 = some (.slice 127) := by kernel_rfl
 obtain ⟨M, hM1, hM2, hM3, hM4⟩ : ∃ M, max l1.length l2.length = M ∧ l1.length ≤ M ∧ l2.length ≤ M ∧ M ≤ 1048576 := ⟨_, rfl, by omega, by omega, by omega⟩
 have K1 := Lib.hid k1
 have K2 := Lib.hid k2
 clear k1 k2
 have HM := Lib.hid hM1
 clear hM1
 go_enter Tryz.func122, Tryz.ntmps122
 go_wp2
 go_loopw [5, 6, 7] (fun v cv iv W => ∃ (k cr : Nat) (ds : List Nat), iv = .int .i64 (k : Int) ∧ cv = .int .u64 (cr : Int) ∧ cr ≤ 1 ∧ k ≤ M + 1 ∧ (k = M + 1 → cr = 0) ∧ Hid (k = M + 1 → BB ^ M ≤ val l1 + val l2) ∧ Hid (ds.length = k) ∧ Words ds ∧ W.ownsRow w.heap.size 127 1 v k (wvals ds) ∧ Below w.heap.size w W ∧ Hid (val ds + BB ^ k * cr = val (l1.take k) + val (l2.take k))) (fun _ _ i _ => M + 2 - (intOf i).toNat)
 case atStart => exact ⟨0, 0, [], rfl, rfl, by omega, by omega, fun _ => rfl, fun h => by omega, rfl, words_nil, World.ownsRow_nil _ _ _ _, Below.refl _ _, by simp [Hid, val]⟩
 case round =>
  obtain ⟨k, cr, ds, rfl, rfl, hcr, hkM, hend, hbig, hdl, hdw, hown, hbl, hval⟩ := hrel
  rename_i wr
  obtain ⟨x, hx, hxb⟩ : ∃ x : Nat, Hid (l1.getD k 0 = x) ∧ x < 4294967296 := ⟨_, rfl, words_getD h1.words k⟩
  obtain ⟨y, hy, hyb⟩ : ∃ y : Nat, Hid (l2.getD k 0 = y) ∧ y < 4294967296 := ⟨_, rfl, words_getD h2.words k⟩
  have f1 := limb_calls A1 c1 k x l1 wr (h1.on hbl) hc1 hx.out
  have f2 := limb_calls A2 c2 k y l2 wr (h2.on hbl) hc2 hy.out
  obtain ⟨s, s1, s2, s3⟩ : ∃ s : Nat, (x : Int) + (y : Int) + (cr : Int) = (s : Int) ∧ Hid (s = x + y + cr) ∧ s < 18446744073709551616 := ⟨x + y + cr, by omega, rfl, by omega⟩
  obtain ⟨z, z1, z2, z3⟩ : ∃ z : Nat, (s : Int) % 4294967296 = (z : Int) ∧ Hid (z = (x + y + cr) % BB) ∧ z < 4294967296 := ⟨s % 4294967296, by omega, by rw [s2.out]; rfl, by omega⟩
  obtain ⟨c', e1, e2, e3⟩ : ∃ c' : Nat, (s : Int) / 4294967296 = (c' : Int) ∧ Hid (c' = (x + y + cr) / BB) ∧ c' ≤ 1 := ⟨s / 4294967296, by omega, by rw [s2.out]; rfl, by have := s2.out; omega⟩
  have hvn := Lib.hid (sum_next (k := k) hdl.out hval.out ((take_val (l := l1) (k := k)).trans (by rw [hx.out])) ((take_val (l := l2) (k := k)).trans (by rw [hy.out])) z2.out e2.out)
  have hz1' : Hid (k = M → k < l1.length ∨ k < l2.length ∨ cr = 1 → cr = 1) := by
   intro h1 h2
   omega
  have hlast := Lib.hid (show k = M → c' = 0 from fun hk => by
   have hx0 : x = 0 := by rw [← hx.out, List.getD_eq_getElem?_getD, List.getElem?_eq_none (by omega)]; rfl
   have hy0 : y = 0 := by rw [← hy.out, List.getD_eq_getElem?_getD, List.getElem?_eq_none (by omega)]; rfl
   rw [e2.out, hx0, hy0]; exact Nat.div_eq_of_lt (show 0 + 0 + cr < 4294967296 by omega))
  have hob := own_base hown
  have hbig' : Hid (k = M → cr = 1 → BB ^ M ≤ val l1 + val l2) := by
   intro hk hc
   have := hval.out
   rw [List.take_of_length_le (by omega), List.take_of_length_le (by omega), hc, hk] at this
   omega
  by_cases hgo : k < l1.length ∨ k < l2.length ∨ cr = 1
  · have HG := Lib.hid hgo
    have hkM' : k ≤ M := by rcases hgo with h | h | h <;> first | omega | (have := hend; omega)
    have tail : True := trivial
    rcases (show (k < l1.length) ∨ (¬ k < l1.length ∧ k < l2.length) ∨ (¬ k < l1.length ∧ ¬ k < l2.length ∧ cr = 1) by omega) with q1 | ⟨q1, q2⟩ | ⟨q1, q2, q3⟩
    · have p1 : ((k : Int) < (l1.length : Int)) ↔ True := by rw [iff_true]; omega
      clear hgo hend q1
      go_wp2_with first
       | (go_at_call 183; have hmark := m1; refine f2.mono ?_; rintro e w2 ⟨rfl, rfl⟩)
       | (go_at_call 183; refine f1.mono ?_; rintro e w2 ⟨rfl, rfl⟩; have m1 : True := trivial)
       | (at_builtin; (refine wpList_append_own2 _ rfl _ _ 22 22 rfl w.heap.size 127 127 i0 (.int .u32 0) 1 4 hbt hbt hi hz0 hz1 hz2 rfl (by decide) _ _ _ rfl (hown.alloc _) ⟨wr.heap.size, 0, none⟩ 1 1 [.int .u32 (z : Int)] rfl rfl (cell_one_new _ _ _) (by simp [Value.oneCell']) (by unfold maxLen; omega) (by omega) (by have := hbl.size; simp; omega) ?_); intro v' w4 hown' hg4 _)
      have hcl : ds.length + 1 = k + 1 := by rw [hdl.out]
      refine ⟨⟨k + 1, c', ds ++ [z], rfl, rfl, e3, by omega, ?_, ?_, by show _ = _; rw [List.length_append, hdl.out]; rfl, words_append.2 ⟨hdw, fun u hu => by simp at hu; rw [hu]; exact z3⟩, ?_, (hbl.alloc hbl.size _).grown hg4 (by have := hbl.size; simp; omega) (fun j e => hob j e), hvn⟩, by simp only [intOf]; omega⟩
      · intro hk; exact hlast.out (by omega)
      · intro hk; exact hbig'.out (by omega) (hz1'.out (by omega) HG.out)
      · rw [show wvals (ds ++ [z]) = wvals ds ++ [.int .u32 (z : Int)] from List.map_append]; exact hown'
    · have p1 : ((k : Int) < (l1.length : Int)) ↔ False := by rw [iff_false]; omega
      have p2 : ((k : Int) < (l2.length : Int)) ↔ True := by rw [iff_true]; omega
      clear hgo hend q1 q2
      go_wp2_with first
       | (go_at_call 183; have hmark := m1; refine f2.mono ?_; rintro e w2 ⟨rfl, rfl⟩)
       | (go_at_call 183; refine f1.mono ?_; rintro e w2 ⟨rfl, rfl⟩; have m1 : True := trivial)
       | (at_builtin; (refine wpList_append_own2 _ rfl _ _ 22 22 rfl w.heap.size 127 127 i0 (.int .u32 0) 1 4 hbt hbt hi hz0 hz1 hz2 rfl (by decide) _ _ _ rfl (hown.alloc _) ⟨wr.heap.size, 0, none⟩ 1 1 [.int .u32 (z : Int)] rfl rfl (cell_one_new _ _ _) (by simp [Value.oneCell']) (by unfold maxLen; omega) (by omega) (by have := hbl.size; simp; omega) ?_); intro v' w4 hown' hg4 _)
      have hcl : ds.length + 1 = k + 1 := by rw [hdl.out]
      refine ⟨⟨k + 1, c', ds ++ [z], rfl, rfl, e3, by omega, ?_, ?_, by show _ = _; rw [List.length_append, hdl.out]; rfl, words_append.2 ⟨hdw, fun u hu => by simp at hu; rw [hu]; exact z3⟩, ?_, (hbl.alloc hbl.size _).grown hg4 (by have := hbl.size; simp; omega) (fun j e => hob j e), hvn⟩, by simp only [intOf]; omega⟩
      · intro hk; exact hlast.out (by omega)
      · intro hk; exact hbig'.out (by omega) (hz1'.out (by omega) HG.out)
      · rw [show wvals (ds ++ [z]) = wvals ds ++ [.int .u32 (z : Int)] from List.map_append]; exact hown'
    · have p1 : ((k : Int) < (l1.length : Int)) ↔ False := by rw [iff_false]; omega
      have p2 : ((k : Int) < (l2.length : Int)) ↔ False := by rw [iff_false]; omega
      have p3 : 0 < cr := by omega
      clear hgo hend q1 q2 q3
      go_wp2_with first
       | (go_at_call 183; have hmark := m1; refine f2.mono ?_; rintro e w2 ⟨rfl, rfl⟩)
       | (go_at_call 183; refine f1.mono ?_; rintro e w2 ⟨rfl, rfl⟩; have m1 : True := trivial)
       | (at_builtin; (refine wpList_append_own2 _ rfl _ _ 22 22 rfl w.heap.size 127 127 i0 (.int .u32 0) 1 4 hbt hbt hi hz0 hz1 hz2 rfl (by decide) _ _ _ rfl (hown.alloc _) ⟨wr.heap.size, 0, none⟩ 1 1 [.int .u32 (z : Int)] rfl rfl (cell_one_new _ _ _) (by simp [Value.oneCell']) (by unfold maxLen; omega) (by omega) (by have := hbl.size; simp; omega) ?_); intro v' w4 hown' hg4 _)
      have hcl : ds.length + 1 = k + 1 := by rw [hdl.out]
      refine ⟨⟨k + 1, c', ds ++ [z], rfl, rfl, e3, by omega, ?_, ?_, by show _ = _; rw [List.length_append, hdl.out]; rfl, words_append.2 ⟨hdw, fun u hu => by simp at hu; rw [hu]; exact z3⟩, ?_, (hbl.alloc hbl.size _).grown hg4 (by have := hbl.size; simp; omega) (fun j e => hob j e), hvn⟩, by simp only [intOf]; omega⟩
      · intro hk; exact hlast.out (by omega)
      · intro hk; exact hbig'.out (by omega) (hz1'.out (by omega) HG.out)
      · rw [show wvals (ds ++ [z]) = wvals ds ++ [.int .u32 (z : Int)] from List.map_append]; exact hown'
  · obtain rfl : cr = 0 := by omega
    have p1 : ((k : Int) < (l1.length : Int)) ↔ False := by rw [iff_false]; omega
    have p2 : ((k : Int) < (l2.length : Int)) ↔ False := by rw [iff_false]; omega
    have hv : val ds = val l1 + val l2 := by
     have := hval.out
     rw [List.take_of_length_le (by omega), List.take_of_length_le (by omega)] at this
     simpa using this
    have hcd : Canon ds := by
     refine canon_of_pow hdw ?_
     have h1 := hdl.out
     have hb := hbig.out
     have hM := HM.out
     rcases (show k = M + 1 ∨ k = M by omega) with e | e
     · right; rw [h1, e, hv]; exact hb e
     · rcases Nat.eq_zero_or_pos M with h0 | h0
       · left; omega
       · right
         rw [h1, e, hv]
         rcases (show l1.length = M ∨ l2.length = M by omega) with e1 | e1
         · have := pow_le_of_canon K1.out (by omega)
           rw [e1] at this
           omega
         · have := pow_le_of_canon K2.out (by omega)
           rw [e1] at this
           omega
    have hll := lim_val hcd
    rw [hv] at hll
    obtain ⟨A', cc, rfl, hn', hc', hrd', hab⟩ := own_rd (l := ds) hown hdw (by omega)
    have Hl := Lib.hid hll
    clear hgo hv hn' hll
    go_wp2_with fail
    go_ret
    refine ⟨A', cc, ?_, ?_, ?_, hbl⟩
    · rw [Hl.out, hdl.out]; rfl
    · rw [Hl.out, hdl.out]; exact hc'
    · rw [Hl.out]; exact hrd'
theorem less_next {ds : List Nat} {k br x y z b' : Nat} {a b X Y : Nat} (hl : ds.length = k) (h : val ds + b = a + BB ^ k * br) (ha : X = a + BB ^ k * x) (hb : Y = b + BB ^ k * y)
 (hz : z + y + br = x + BB * b') : val (ds ++ [z]) + Y = X + BB ^ (k + 1) * b' := by
 rw [val_snoc, hl, ha, hb, Nat.pow_succ]
 have e : BB ^ k * (z + y + br) = BB ^ k * (x + BB * b') := by rw [hz]
 rw [Nat.mul_add, Nat.mul_add, Nat.mul_add, ← Nat.mul_assoc] at e
 omega
theorem less_calls (A1 A2 : Option Addr) (c1 c2 : Nat) (l1 l2 : List Nat) (w : World) (h1 : Rd w A1 l1) (h2 : Rd w A2 l2) (hc1 : l1.length ≤ c1) (hc2 : l2.length ≤ c2) (hs1 : l1.length ≤ 1048576) (hll : l2.length ≤ l1.length) (hle : val l2 ≤ val l1) :
 Calls Tryz.prog 124 #[.slice A1 l1.length c1, .slice A2 l2.length c2] w (RetL (val l1 - val l2) l1.length w) := by
 obtain ⟨i0, hi, hz0, hz1, hz2⟩ := info_parts info_u32
 have hbt : Tryz.prog.underlying 22 = some (.slice 127) := by kernel_rfl
 have Hll := Lib.hid hll
 have Hle := Lib.hid hle
 clear hll hle
 go_enter Tryz.func124, Tryz.ntmps124
 go_wp2
 go_loopw [5, 6, 7] (fun v cv iv W => ∃ (k br : Nat) (ds : List Nat), iv = .int .i64 (k : Int) ∧ cv = .int .u64 (br : Int) ∧ br ≤ 1 ∧ k ≤ l1.length ∧ Hid (ds.length = k) ∧ Words ds ∧ W.ownsRow w.heap.size 127 1 v k (wvals ds) ∧ Below w.heap.size w W ∧ Hid (val ds + val (l2.take k) = val (l1.take k) + BB ^ k * br)) (fun _ _ i _ => l1.length - (intOf i).toNat)
 case atStart => exact ⟨0, 0, [], rfl, rfl, by omega, Nat.zero_le _, rfl, words_nil, World.ownsRow_nil _ _ _ _, Below.refl _ _, by simp [Hid, val]⟩
 case round =>
  obtain ⟨k, br, ds, rfl, rfl, hbr, hk, hdl, hdw, hown, hbl, hval⟩ := hrel
  rename_i wr
  obtain ⟨x, hx, hxb⟩ : ∃ x : Nat, Hid (l1.getD k 0 = x) ∧ x < 4294967296 := ⟨_, rfl, words_getD h1.words k⟩
  obtain ⟨y, hy, hyb⟩ : ∃ y : Nat, Hid (l2.getD k 0 = y) ∧ y < 4294967296 := ⟨_, rfl, words_getD h2.words k⟩
  have f1 := limb_calls A1 c1 k x l1 wr (h1.on hbl) hc1 hx.out
  have f2 := limb_calls A2 c2 k y l2 wr (h2.on hbl) hc2 hy.out
  obtain ⟨s, s1, s2, s3⟩ : ∃ s : Nat, (4294967296 : Int) + (x : Int) - (y : Int) - (br : Int) = (s : Int) ∧ Hid (s + y + br = 4294967296 + x) ∧ s < 8589934592 := ⟨4294967296 + x - y - br, by omega, by show _ = _; omega, by omega⟩
  obtain ⟨z, z1, z2, z3⟩ : ∃ z : Nat, (s : Int) % 4294967296 = (z : Int) ∧ Hid (z = s % 4294967296) ∧ z < 4294967296 := ⟨s % 4294967296, by omega, rfl, by omega⟩
  obtain ⟨q, e1, e2, e3⟩ : ∃ q : Nat, (s : Int) / 4294967296 = (q : Int) ∧ Hid (q = s / 4294967296) ∧ q ≤ 1 := ⟨s / 4294967296, by omega, rfl, by omega⟩
  obtain ⟨b', t1, t2, t3⟩ : ∃ b' : Nat, (1 : Int) - (q : Int) = (b' : Int) ∧ Hid (b' + q = 1) ∧ b' ≤ 1 := ⟨1 - q, by omega, by show _ = _; omega, by omega⟩
  have hvn := Lib.hid (less_next (k := k) (z := z) (b' := b') hdl.out hval.out ((take_val (l := l1) (k := k)).trans (by rw [hx.out])) ((take_val (l := l2) (k := k)).trans (by rw [hy.out])) (by
   have := s2.out; have := z2.out; have := e2.out; have := t2.out
   show z + y + br = x + 4294967296 * b'
   omega))
  have hob := own_base hown
  by_cases hgo : k < l1.length
  · have p1 : ((k : Int) < (l1.length : Int)) ↔ True := by rw [iff_true]; omega
    go_wp2_with first
     | (go_at_call 183; have hmark := m1; refine f2.mono ?_; rintro e w2 ⟨rfl, rfl⟩)
     | (go_at_call 183; refine f1.mono ?_; rintro e w2 ⟨rfl, rfl⟩; have m1 : True := trivial)
     | (at_builtin; (refine wpList_append_own2 _ rfl _ _ 22 22 rfl w.heap.size 127 127 i0 (.int .u32 0) 1 4 hbt hbt hi hz0 hz1 hz2 rfl (by decide) _ _ _ rfl (hown.alloc _) ⟨wr.heap.size, 0, none⟩ 1 1 [.int .u32 (z : Int)] rfl rfl (cell_one_new _ _ _) (by simp [Value.oneCell']) (by unfold maxLen; omega) (by omega) (by have := hbl.size; simp; omega) ?_); intro v' w4 hown' hg4 _)
    refine ⟨⟨k + 1, b', ds ++ [z], rfl, rfl, t3, by omega, by show _ = _; rw [List.length_append, hdl.out]; rfl, words_append.2 ⟨hdw, fun u hu => by simp at hu; rw [hu]; exact z3⟩, ?_, (hbl.alloc hbl.size _).grown hg4 (by have := hbl.size; simp; omega) (fun j e => hob j e), hvn⟩, by simp only [intOf]; omega⟩
    rw [show wvals (ds ++ [z]) = wvals ds ++ [.int .u32 (z : Int)] from List.map_append]; exact hown'
  · have p1 : ((k : Int) < (l1.length : Int)) ↔ False := by rw [iff_false]; omega
    have hv : val ds = val l1 - val l2 := by
     have hv := hval.out
     have hds := val_lt hdw
     rw [hdl.out] at hds
     rw [List.take_of_length_le (by have := Hll.out; omega), List.take_of_length_le (by omega)] at hv
     have hk' : k = l1.length := by omega
     have h1v := val_lt h1.words
     rw [← hk'] at h1v
     have hle := Hle.out
     rcases (show br = 0 ∨ br = 1 by omega) with rfl | rfl
     · omega
     · omega
    have Hv := Lib.hid hv
    obtain ⟨A', cc, rfl, hn', hc', hrd', hab⟩ := own_rd (l := ds) hown hdw (by omega)
    clear hgo hv hn'
    go_wp2_with fail
    go_ret
    refine ⟨A', cc, ds, ?_, Hv.out, ?_, ?_, hrd', hbl⟩
    · rw [hdl.out]; rfl
    · rw [hdl.out]; exact hk
    · rw [hdl.out]; exact hc'
theorem boxes3 (w : World) (n1 n2 : Bool) (A1 A2 : Option Addr) (c1 c2 : Nat) (l1 l2 : List Nat) (h1 : Rd w A1 l1) (h2 : Rd w A2 l2) (hc1 : l1.length ≤ c1) (hc2 : l2.length ≤ c2) (cur : Array Value) (t : TypeId) :
 ∃ W3, (((w.alloc (.cells #[.bool n1, .slice A1 l1.length c1] 24)).alloc (.cells #[.bool n2, .slice A2 l2.length c2] 24)).alloc (.cells cur t)) = W3 ∧ Below w.heap.size w W3 ∧
  IntBox W3 w.heap.size n1 A1 c1 l1 ∧ IntBox W3 (w.heap.size + 1) n2 A2 c2 l2 ∧ Blk W3 (w.heap.size + 1 + 1) cur t ∧ W3.heap.size = w.heap.size + 3 := by
 obtain ⟨W3, hW3⟩ : ∃ W3, (((w.alloc (.cells #[.bool n1, .slice A1 l1.length c1] 24)).alloc (.cells #[.bool n2, .slice A2 l2.length c2] 24)).alloc (.cells cur t)) = W3 := ⟨_, rfl⟩
 have hb3 : Below w.heap.size w W3 := by rw [← hW3]; exact (((Below.refl _ w).alloc (Nat.le_refl _) _).alloc (by simp) _).alloc (by simp; omega) _
 refine ⟨W3, hW3, hb3, ?_, ?_, ?_, ?_⟩
 · exact ⟨by rw [← hW3]; exact (Below.heap_alloc _ _ _ (by simp; omega)).trans ((Below.heap_alloc _ _ _ (by simp)).trans (World.alloc_heap_new w _)), h1.on hb3, hc1⟩
 · exact ⟨by rw [← hW3]; exact (Below.heap_alloc _ _ _ (by simp)).trans (two_blk w _ _), h2.on hb3, hc2⟩
 · exact ⟨by rw [← hW3]; have := World.alloc_heap_new ((w.alloc (.cells #[.bool n1, .slice A1 l1.length c1] 24)).alloc (.cells #[.bool n2, .slice A2 l2.length c2] 24)) (.cells cur t); rwa [World.size_alloc, World.size_alloc] at this⟩
 · rw [← hW3]; simp
theorem IsZ.of {s : Bool} {l : List Nat} {z z' : Int} (h : IsZ s l z) (e : z = z') : IsZ s l z' := e ▸ h
theorem Sum_calls (n1 n2 : Bool) (A1 A2 : Option Addr) (c1 c2 : Nat) (l1 l2 : List Nat) (y1 y2 : Int) (w : World) (h1 : Rd w A1 l1) (h2 : Rd w A2 l2) (hc1 : l1.length ≤ c1) (hc2 : l2.length ≤ c2) (k1 : IsZ n1 l1 y1) (k2 : IsZ n2 l2 y2) (hs1 : l1.length ≤ 65536) (hs2 : l2.length ≤ 65536) :
 Calls Tryz.prog 46 #[iv n1 A1 l1.length c1, iv n2 A2 l2.length c2] w (RetZ (y1 + y2) w) := by
 obtain ⟨W3, hW3, hb3, B1, B2, hR, hsz⟩ := boxes3 w n1 n2 A1 A2 c1 c2 l1 l2 h1 h2 hc1 hc2 #[.bool false, .slice none 0 0] 24
 have Hsz := Lib.hid hsz
 clear hsz
 have hsum := fun W (hW : Below W3.heap.size W3 W) => sum_calls A1 A2 c1 c2 l1 l2 W (B1.rd.on hW) (B2.rd.on hW) hc1 hc2 (by omega) (by omega) k1.canon k2.canon
 have hlar := larger_calls A1 A2 c1 c2 l1 l2 W3 B1.rd B2.rd hc1 hc2 k1.canon k2.canon
 have v1 := k1.toZ
 have v2 := k2.toZ
 unfold toZ at v1 v2
 have hlen : ∀ {a b : List Nat}, Canon a → Canon b → val a ≤ val b → a.length ≤ b.length := fun ka kb h => by have := length_mono h; rwa [lim_val ka, lim_val kb] at this
 have d1 : ¬ w.heap.size = w.heap.size + 1 + 1 := by omega
 have d2 : ¬ w.heap.size + 1 = w.heap.size + 1 + 1 := by omega
 have d3 : ¬ w.heap.size + 1 + 1 = w.heap.size := by omega
 have d4 : ¬ w.heap.size + 1 + 1 = w.heap.size + 1 := by omega
 obtain ⟨x0, x1⟩ := cL2 B1.blk
 obtain ⟨x2, x3⟩ := cL2 B2.blk
 by_cases hn : n1 = n2
 · subst hn
   have hbe : (n1 == n1) = true := by simp
   have hm := fun W A c (h : Rd W A (lim (val l1 + val l2))) (hc : (lim (val l1 + val l2)).length ≤ c) => made_calls n1 A c (lim (val l1 + val l2)) W h hc
   rw [val_lim] at hm
   have hfin : (if n1 = true then -((val l1 + val l2 : Nat) : Int) else ((val l1 + val l2 : Nat) : Int)) = y1 + y2 := by rw [← v1, ← v2]; split <;> omega
   rw [hfin] at hm
   have HV1 := Lib.hid v1
   clear v1 v2 hfin hlen hlar
   go_enter Tryz.func46, Tryz.ntmps46
   go_wp2_with fail
   clear hW3
   go_region_held3 (fun w'' => w''.cell? ⟨w.heap.size, 0, none⟩ = some (.bool n1) ∧ w''.cell? ⟨w.heap.size, 1, none⟩ = some (.slice A1 l1.length c1) ∧ w''.cell? ⟨w.heap.size + 1, 0, none⟩ = some (.bool n1) ∧ w''.cell? ⟨w.heap.size + 1, 1, none⟩ = some (.slice A2 l2.length c2)) ((first | assumption | go_keep))
    ((first
     | (go_at_call 122; refine (hsum _ (below_drew (Below.refl _ _))).mono ?_; rintro e w4 ⟨A4, c4, rfl, n4, r4, b4⟩; replace b4 := (below_drew (Below.refl _ W3)).trans b4; obtain ⟨i0, i1⟩ := cL2 (B1.on b4).blk; obtain ⟨i2, i3⟩ := cL2 (B2.on b4).blk)
     | (go_at_call 118; refine (hm _ A4 c4 r4 n4).mono ?_; rintro e w5 ⟨s5, A5, c5, l5, rfl, z5, n5, r5, b5⟩; have bb5 := b4.trans (b5.mono b4.size); obtain ⟨j0, j1⟩ := cL2 (B1.on bb5).blk; obtain ⟨j2, j3⟩ := cL2 (B2.on bb5).blk; have hq5 := hR.on bb5; obtain ⟨z0, z1⟩ := cL2 hq5.h; obtain ⟨u0, u1⟩ := fZ2 hq5.h)))
   go_wp2_with fail
   exact ret_cell rfl rfl rfl (set_blk (set_blk hq5.h 0 _) 1 _) ⟨s5, A5, c5, l5, rfl, z5, n5, rd_sets r5 hq5 _ _, ((hb3.trans (bb5.mono hb3.size)).setCell (by dsimp only; omega) _).setCell (by dsimp only; omega) _⟩
 · have hbe : (n1 == n2) = false := by rw [beq_eq_false_iff_ne]; exact hn
   by_cases hle : val l2 ≤ val l1
   · have hge : (0 : Int) ≤ cmpZ (val l1 : Int) (val l2 : Int) := by unfold cmpZ; split <;> (try split) <;> omega
     generalize cmpZ (val l1 : Int) (val l2 : Int) = cz at *
     have hless := fun W (hW : Below W3.heap.size W3 W) => less_calls A1 A2 c1 c2 l1 l2 W (B1.rd.on hW) (B2.rd.on hW) hc1 hc2 (by omega) (hlen k2.canon k1.canon hle) hle
     have hfin : (if n1 = true then -((val l1 - val l2 : Nat) : Int) else ((val l1 - val l2 : Nat) : Int)) = y1 + y2 := by
      rw [← v1, ← v2]
      cases n1 <;> cases n2 <;> simp_all <;> omega
     have hm := fun W A c l (h : Rd W A l) (hc : l.length ≤ c) (hv : val l = val l1 - val l2) => made_calls n1 A c l W h hc
     have Hfin := Lib.hid hfin
     clear v1 v2 hfin hlen hsum hn hle
     go_enter Tryz.func46, Tryz.ntmps46
     go_wp2_with (go_at_call 123; refine hlar.mono ?_; rintro e w3 ⟨rfl, nn, rfl⟩)
     clear hW3
     go_region_held3 (fun w'' => w''.cell? ⟨w.heap.size, 0, none⟩ = some (.bool n1) ∧ w''.cell? ⟨w.heap.size, 1, none⟩ = some (.slice A1 l1.length c1) ∧ w''.cell? ⟨w.heap.size + 1, 0, none⟩ = some (.bool n2) ∧ w''.cell? ⟨w.heap.size + 1, 1, none⟩ = some (.slice A2 l2.length c2)) ((first | assumption | go_keep))
     ((first
      | (go_at_call 124; refine (hless _ (below_drewN (Below.refl _ _) (nn + 1))).mono ?_; rintro e w4 ⟨A4, c4, l4, rfl, v4, -, n4, r4, b4⟩; replace b4 := (below_drewN (Below.refl _ W3) (nn + 1)).trans b4; have V4 := Lib.hid v4; clear v4; obtain ⟨i0, i1⟩ := cL2 (B1.on b4).blk; obtain ⟨i2, i3⟩ := cL2 (B2.on b4).blk)
      | (go_at_call 118; refine (hm _ A4 c4 l4 r4 n4 V4.out).mono ?_; rintro e w5 ⟨s5, A5, c5, l5, rfl, z5, n5, r5, b5⟩; have bb5 := b4.trans (b5.mono b4.size); obtain ⟨j0, j1⟩ := cL2 (B1.on bb5).blk; obtain ⟨j2, j3⟩ := cL2 (B2.on bb5).blk; have hq5 := hR.on bb5; obtain ⟨z0, z1⟩ := cL2 hq5.h; obtain ⟨u0, u1⟩ := fZ2 hq5.h)))
     go_wp2_with fail
     exact ret_cell rfl rfl rfl (set_blk (set_blk hq5.h 0 _) 1 _) ⟨s5, A5, c5, l5, rfl, (z5.of (by rw [V4.out]; exact Hfin.out)), n5, rd_sets r5 hq5 _ _, ((hb3.trans (bb5.mono hb3.size)).setCell (by dsimp only; omega) _).setCell (by dsimp only; omega) _⟩
   · have hge : cmpZ (val l1 : Int) (val l2 : Int) < 0 := by unfold cmpZ; split <;> (try split) <;> omega
     generalize cmpZ (val l1 : Int) (val l2 : Int) = cz at *
     have hless := fun W (hW : Below W3.heap.size W3 W) => less_calls A2 A1 c2 c1 l2 l1 W (B2.rd.on hW) (B1.rd.on hW) hc2 hc1 (by omega) (hlen k1.canon k2.canon (by omega)) (by omega)
     have hfin : (if n2 = true then -((val l2 - val l1 : Nat) : Int) else ((val l2 - val l1 : Nat) : Int)) = y1 + y2 := by
      rw [← v1, ← v2]
      cases n1 <;> cases n2 <;> simp_all <;> omega
     have hm := fun W A c l (h : Rd W A l) (hc : l.length ≤ c) (hv : val l = val l2 - val l1) => made_calls n2 A c l W h hc
     have Hfin := Lib.hid hfin
     have hge' : ¬ (0 : Int) ≤ cz := by omega
     clear v1 v2 hfin hlen hsum hn hle
     go_enter Tryz.func46, Tryz.ntmps46
     go_wp2_with (go_at_call 123; refine hlar.mono ?_; rintro e w3 ⟨rfl, nn, rfl⟩)
     clear hW3
     go_region_held3 (fun w'' => w''.cell? ⟨w.heap.size, 0, none⟩ = some (.bool n1) ∧ w''.cell? ⟨w.heap.size, 1, none⟩ = some (.slice A1 l1.length c1) ∧ w''.cell? ⟨w.heap.size + 1, 0, none⟩ = some (.bool n2) ∧ w''.cell? ⟨w.heap.size + 1, 1, none⟩ = some (.slice A2 l2.length c2)) ((first | assumption | go_keep))
     ((first
      | (go_at_call 124; refine (hless _ (below_drewN (Below.refl _ _) (nn + 1))).mono ?_; rintro e w4 ⟨A4, c4, l4, rfl, v4, -, n4, r4, b4⟩; replace b4 := (below_drewN (Below.refl _ W3) (nn + 1)).trans b4; have V4 := Lib.hid v4; clear v4; obtain ⟨i0, i1⟩ := cL2 (B1.on b4).blk; obtain ⟨i2, i3⟩ := cL2 (B2.on b4).blk)
      | (go_at_call 118; refine (hm _ A4 c4 l4 r4 n4 V4.out).mono ?_; rintro e w5 ⟨s5, A5, c5, l5, rfl, z5, n5, r5, b5⟩; have bb5 := b4.trans (b5.mono b4.size); obtain ⟨j0, j1⟩ := cL2 (B1.on bb5).blk; obtain ⟨j2, j3⟩ := cL2 (B2.on bb5).blk; have hq5 := hR.on bb5; obtain ⟨z0, z1⟩ := cL2 hq5.h; obtain ⟨u0, u1⟩ := fZ2 hq5.h)))
     go_wp2_with fail
     exact ret_cell rfl rfl rfl (set_blk (set_blk hq5.h 0 _) 1 _) ⟨s5, A5, c5, l5, rfl, (z5.of (by rw [V4.out]; exact Hfin.out)), n5, rd_sets r5 hq5 _ _, ((hb3.trans (bb5.mono hb3.size)).setCell (by dsimp only; omega) _).setCell (by dsimp only; omega) _⟩
theorem ret_cellT {fn : Func} {p : Tmp} {T : TypeId} {cur : Array Value} {n : Nat} {fs : Array Field} (h : fn.results = #[.cell p T]) (hu : Tryz.prog.underlying T = some (.struct fs)) (hi : (Tryz.prog.info? T).map (·.size) = some n)
 {a : Act} {w : World} {g : Nat} {R : Ending → World → Prop} (hd0 : a.defers = []) (hp : a.tmps.getD p undef = .pointer (some ⟨g, 0, none⟩))
 (hg : w.heap[g]? = some (.cells cur T (0, 0))) (hn : n = cur.size) (hR : R (.returned (.agg cur)) w) : bodyPost Tryz.prog fn R .ret a w :=
 bodyPost_ret (results_cell_row h _ _ g T cur (0, 0) _ hp hg hu rfl (hn ▸ hi)) hd0 hR
theorem IsZ.neg {s : Bool} {l : List Nat} {z : Int} (h : IsZ s l z) : IsZ (!s && decide ((0 : Int) < (l.length : Int))) l (-z) := by
 constructor
 · rw [h.sgn]
   by_cases hz : z = 0
   · have : l = [] := by rw [h.abs, hz]; exact lim_zero
     subst this; subst hz; rfl
   · have h1 : 0 < l.length := by rw [h.abs]; exact lim_length_pos (by omega)
     rw [decide_eq_true (show (0 : Int) < (l.length : Int) by omega), Bool.and_true]
     by_cases h2 : z < 0
     · rw [decide_eq_true h2, decide_eq_false (by omega)]; rfl
     · rw [decide_eq_false h2, decide_eq_true (by omega)]; rfl
 · rw [h.abs]; congr 1; omega
def RetGot (z er : Int) (w : World) (e : Ending) (w' : World) : Prop :=
 ∃ s A c l, e = .returned (.agg #[.bool s, .slice A l.length c, .int .i64 er]) ∧ IsZ s l z ∧ l.length ≤ c ∧ Rd w' A l ∧ Below w.heap.size w w'
theorem got_size : (Tryz.prog.info? 105).map (·.size) = some 3 := by kernel_rfl
theorem set3 {W : World} {B : Nat} {a0 a1 a2 : Value} {t : TypeId} (h : W.heap[B]? = some (.cells #[a0, a1, a2] t (0, 0))) (v0 v1 v2 : Value) :
 (((W.setCell ⟨B, 0, none⟩ v0).setCell ⟨B, 1, none⟩ v1).setCell ⟨B, 2, none⟩ v2).heap[B]? = some (.cells #[v0, v1, v2] t (0, 0)) := by
 have h0 : (W.setCell ⟨B, 0, none⟩ v0).heap[B]? = some (.cells #[v0, a1, a2] t (0, 0)) := set_blk h 0 v0
 generalize W.setCell ⟨B, 0, none⟩ v0 = W at *
 have h1 : (W.setCell ⟨B, 1, none⟩ v1).heap[B]? = some (.cells #[v0, v1, a2] t (0, 0)) := set_blk h0 1 v1
 generalize W.setCell ⟨B, 1, none⟩ v1 = W at *
 exact set_blk h1 2 v2
theorem ROf_calls (n : Int) (w : World) (h1 : -9223372036854775808 ≤ n) (h2 : n < 9223372036854775808) :
 Calls Tryz.prog 45 #[.int .i64 n] w (RetZ n w) := by
 obtain ⟨m, hm⟩ : ∃ m : Nat, n.natAbs = m := ⟨_, rfl⟩
 have hm1 : m ≤ 9223372036854775808 := by omega
 have hb2 : ∀ a b, Below w.heap.size w ((w.alloc a).alloc b) := fun a b => ((Below.refl _ w).alloc (Nat.le_refl _) _).alloc (by simp) _
 obtain ⟨z, z1, z2, z3⟩ : ∃ z : Nat, (m : Int) % 4294967296 = (z : Int) ∧ Hid (z = m % 4294967296) ∧ z < 4294967296 := ⟨m % 4294967296, by omega, rfl, by omega⟩
 obtain ⟨q, e1, e2, e3⟩ : ∃ q : Nat, (m : Int) / 4294967296 = (q : Int) ∧ Hid (q = m / 4294967296) ∧ q < 4294967296 := ⟨m / 4294967296, by omega, rfl, by omega⟩
 have hv : val [z, q] = m := by
  have := z2.out; have := e2.out
  show z + 4294967296 * (q + 4294967296 * 0) = m
  omega
 have hwd : Words [z, q] := words_cons.2 ⟨z3, words_cons.2 ⟨e3, words_nil⟩⟩
 have hrd : ∀ o, Rd ((w.alloc o).alloc (.cells #[.int .u32 (z : Int), .int .u32 (q : Int)] 127)) (some ⟨w.heap.size + 1, 0, none⟩) [z, q] := fun o => arr_rd (arr_of (two_blk w o _)) hwd (by simp)
 have hq0 : ∀ o, Blk ((w.alloc (.cells #[.bool false, .slice none 0 0] 24)).alloc o) w.heap.size #[.bool false, .slice none 0 0] 24 := fun o => two_old w _ o rfl
 have hmade : ∀ (s : Bool) W A c, Rd W A [z, q] → 2 ≤ c → Calls Tryz.prog 118 #[.bool s, .slice A 2 c] W (RetZ (if s = true then -(m : Int) else m) W) := fun s W A c h hc => by
  have := made_calls s A c [z, q] W h hc
  rwa [hv] at this
 by_cases hn : n < 0
 · obtain rfl : n = -(m : Int) := by omega
   obtain ⟨u, u1, u2, u3⟩ : ∃ u : Nat, (-(m : Int)) % 18446744073709551616 = (u : Int) ∧ Hid (u + m = 18446744073709551616) ∧ u < 18446744073709551616 := ⟨18446744073709551616 - m, by omega, by show _ = _; omega, by omega⟩
   have u4 : IntKind.u64.wrap (-(m : Int)) = (u : Int) := by rw [IntKind.wrap_u64]; have := u2.out; omega
   have u5 : IntKind.u64.wrap (-(u : Int)) = (m : Int) := by rw [IntKind.wrap_u64]; have := u2.out; omega
   have hdl : decide (-(m : Int) < 0) = true := decide_eq_true hn
   have hdl' : decide ((0 : Int) < (m : Int)) = true := decide_eq_true (by omega)
   have hm0 : 0 < m := by omega
   have hm2 : m < 18446744073709551616 := by omega
   have hmade := hmade true
   simp only [if_true] at hmade
   have Hv := Lib.hid hv
   clear hm hn h1 h2 hv hm1
   go_enter Tryz.func45, Tryz.ntmps45
   go_wp2_with first
    | (go_at_call 118; (refine (hmade _ _ _ (hrd _) (Nat.le_refl _)).mono ?_); rintro e w5 ⟨s5, A5, c5, l5, rfl, k5, n5, r5, b5⟩; have hq5 := (hq0 _).on b5; obtain ⟨x0, x1⟩ := cL2 hq5.h; obtain ⟨y0, y1⟩ := fZ2 hq5.h)
   exact ret_cell rfl rfl rfl (set_blk (set_blk hq5.h 0 _) 1 _) ⟨s5, A5, c5, l5, rfl, k5, n5, rd_sets r5 hq5 _ _, (((hb2 _ _).trans (b5.mono (hb2 _ _).size)).setCell (Nat.le_refl _) _).setCell (Nat.le_refl _) _⟩
 · obtain rfl : n = (m : Int) := by omega
   have hm2 : m < 9223372036854775808 := by omega
   have hdl : decide ((m : Int) < 0) = false := decide_eq_false hn
   have hmade := hmade false
   simp only [Bool.false_eq_true, if_false] at hmade
   have Hv := Lib.hid hv
   clear hm hn h1 h2 hm1 hv
   go_enter Tryz.func45, Tryz.ntmps45
   go_wp2_with first
    | (go_at_call 118; (refine (hmade _ _ _ (hrd _) (Nat.le_refl _)).mono ?_); rintro e w5 ⟨s5, A5, c5, l5, rfl, k5, n5, r5, b5⟩; have hq5 := (hq0 _).on b5; obtain ⟨x0, x1⟩ := cL2 hq5.h; obtain ⟨y0, y1⟩ := fZ2 hq5.h)
   exact ret_cell rfl rfl rfl (set_blk (set_blk hq5.h 0 _) 1 _) ⟨s5, A5, c5, l5, rfl, k5, n5, rd_sets r5 hq5 _ _, (((hb2 _ _).trans (b5.mono (hb2 _ _).size)).setCell (Nat.le_refl _) _).setCell (Nat.le_refl _) _⟩
theorem Of_calls (n : Int) (w : World) (h1 : -9223372036854775808 ≤ n) (h2 : n < 9223372036854775808) :
 Calls Tryz.prog 92 #[.int .i64 n] w (RetZ n w) := by
 obtain ⟨m, hm⟩ : ∃ m : Nat, n.natAbs = m := ⟨_, rfl⟩
 have hm1 : m ≤ 9223372036854775808 := by omega
 have hb2 : ∀ a b, Below w.heap.size w ((w.alloc a).alloc b) := fun a b => ((Below.refl _ w).alloc (Nat.le_refl _) _).alloc (by simp) _
 obtain ⟨z, z1, z2, z3⟩ : ∃ z : Nat, (m : Int) % 4294967296 = (z : Int) ∧ Hid (z = m % 4294967296) ∧ z < 4294967296 := ⟨m % 4294967296, by omega, rfl, by omega⟩
 obtain ⟨q, e1, e2, e3⟩ : ∃ q : Nat, (m : Int) / 4294967296 = (q : Int) ∧ Hid (q = m / 4294967296) ∧ q < 4294967296 := ⟨m / 4294967296, by omega, rfl, by omega⟩
 have hv : val [z, q] = m := by
  have := z2.out; have := e2.out
  show z + 4294967296 * (q + 4294967296 * 0) = m
  omega
 have hwd : Words [z, q] := words_cons.2 ⟨z3, words_cons.2 ⟨e3, words_nil⟩⟩
 have hrd : ∀ o, Rd ((w.alloc o).alloc (.cells #[.int .u32 (z : Int), .int .u32 (q : Int)] 127)) (some ⟨w.heap.size + 1, 0, none⟩) [z, q] := fun o => arr_rd (arr_of (two_blk w o _)) hwd (by simp)
 have hq0 : ∀ o, Blk ((w.alloc (.cells #[.bool false, .slice none 0 0] 24)).alloc o) w.heap.size #[.bool false, .slice none 0 0] 24 := fun o => two_old w _ o rfl
 have hq1 : ∀ o i, (((w.alloc (.cells #[.bool false, .slice none 0 0] 24)).alloc o)).frozen? ⟨w.heap.size, i, none⟩ = false := fun o i => frozen_at (hq0 o).h i
 have hq2 : ∀ o, (((w.alloc (.cells #[.bool false, .slice none 0 0] 24)).alloc o)).cell? ⟨w.heap.size, 0, none⟩ = some (.bool false) := fun o => cell_at (hq0 o).h 0 _ rfl
 have hq3 : ∀ o, (((w.alloc (.cells #[.bool false, .slice none 0 0] 24)).alloc o)).cell? ⟨w.heap.size, 1, none⟩ = some (.slice none 0 0) := fun o => cell_at (hq0 o).h 1 _ rfl
 have htr : ∀ W A c, Rd W A [z, q] → 2 ≤ c → Calls Tryz.prog 164 #[.slice A 2 c] W fun e w' => e = .returned (.slice A (lim m).length c) ∧ W = w' := fun W A c h hc => by
  have := trim_calls A c [z, q] W h hc
  unfold trim at this
  rwa [hv] at this
 have hlen : (lim m).length ≤ 2 := by have := trim_length_le hwd; unfold trim at this; rwa [hv] at this
 have hrt : ∀ o, Rd ((w.alloc o).alloc (.cells #[.int .u32 (z : Int), .int .u32 (q : Int)] 127)) (some ⟨w.heap.size + 1, 0, none⟩) (lim m) := fun o => by
  have := (hrd o).trim
  unfold trim at this
  rwa [hv] at this
 by_cases hn : n < 0
 · obtain rfl : n = -(m : Int) := by omega
   obtain ⟨u, u1, u2, u3⟩ : ∃ u : Nat, (-(m : Int)) % 18446744073709551616 = (u : Int) ∧ Hid (u + m = 18446744073709551616) ∧ u < 18446744073709551616 := ⟨18446744073709551616 - m, by omega, by show _ = _; omega, by omega⟩
   have u4 : IntKind.u64.wrap (-(m : Int)) = (u : Int) := by rw [IntKind.wrap_u64]; have := u2.out; omega
   have u5 : IntKind.u64.wrap (-(u : Int)) = (m : Int) := by rw [IntKind.wrap_u64]; have := u2.out; omega
   have hdl : decide (-(m : Int) < 0) = true := decide_eq_true hn
   have hdl' : decide ((0 : Int) < (m : Int)) = true := decide_eq_true (by omega)
   have hm0 : 0 < m := by omega
   have hm2 : m < 18446744073709551616 := by omega
   have hz : IsZ true (lim m) (-(m : Int)) := by have := isZ_of true m; rwa [show (true && m != 0) = true by simp; omega, if_pos rfl] at this
   have Hv := Lib.hid hv
   clear hm hn h1 h2 hv hm1
   go_enter Tryz.func92, Tryz.ntmps92
   go_wp2_with first
    | (go_at_call 164; (refine (htr _ _ _ (hrd _) (Nat.le_refl _)).mono ?_); rintro e w5 ⟨rfl, rfl⟩)
   exact ret_cell rfl rfl rfl (two_old w _ _ rfl).h ⟨_, _, _, lim m, rfl, hz, hlen, hrt _, hb2 _ _⟩
 · obtain rfl : n = (m : Int) := by omega
   have hm2 : m < 9223372036854775808 := by omega
   have hdl : decide ((m : Int) < 0) = false := decide_eq_false hn
   have hz : IsZ false (lim m) (m : Int) := isZ_nat m
   have Hv := Lib.hid hv
   clear hm hn h1 h2 hm1 hv
   go_enter Tryz.func92, Tryz.ntmps92
   go_wp2_with first
    | (go_at_call 164; (refine (htr _ _ _ (hrd _) (Nat.le_refl _)).mono ?_); rintro e w5 ⟨rfl, rfl⟩)
   exact ret_cell rfl rfl rfl (two_old w _ _ rfl).h ⟨_, _, _, lim m, rfl, hz, hlen, hrt _, hb2 _ _⟩
def cmpR (n1 : Bool) (l1 : List Nat) (n2 : Bool) (l2 : List Nat) : Int := if (okI n1 l1 && okI n2 l2) = true then cmpZ (toZ n1 l1) (toZ n2 l2) else 0
theorem Compare_calls (n1 n2 : Bool) (A1 A2 : Option Addr) (c1 c2 : Nat) (l1 l2 : List Nat) (w : World) (h1 : Rd w A1 l1) (h2 : Rd w A2 l2) (hc1 : l1.length ≤ c1) (hc2 : l2.length ≤ c2) :
 Calls Tryz.prog 89 #[iv n1 A1 l1.length c1, iv n2 A2 l2.length c2] w fun e w' => e = .returned (.int .i64 (cmpR n1 l1 n2 l2)) ∧ Below w.heap.size w w' := by
 have f1 := fun W (hW : Below w.heap.size w W) => Check_calls n1 A1 c1 l1 W (h1.on hW) hc1
 have f2 := fun W (hW : Below w.heap.size w W) => Check_calls n2 A2 c2 l2 W (h2.on hW) hc2
 have hb2 : ∀ a b, Below w.heap.size w ((w.alloc a).alloc b) := fun a b => ((Below.refl _ w).alloc (Nat.le_refl _) _).alloc (by simp) _
 have k1 := Blk.mk (two_blk w (.cells #[.bool n1, .slice A1 l1.length c1] 24) (.cells #[.bool n2, .slice A2 l2.length c2] 24))
 have k0 : Blk ((w.alloc (.cells #[.bool n1, .slice A1 l1.length c1] 24)).alloc (.cells #[.bool n2, .slice A2 l2.length c2] 24)) w.heap.size #[.bool n1, .slice A1 l1.length c1] 24 := two_old w _ _ rfl
 have hor : (okI n1 l1 && okI n2 l2) = true → ∀ W, Below w.heap.size w W → Calls Tryz.prog 162 #[iv n1 A1 l1.length c1, iv n2 A2 l2.length c2] W fun e w' => e = .returned (.int .i64 (cmpZ (toZ n1 l1) (toZ n2 l2))) ∧ Below W.heap.size W w' := fun hk W hW => by
  rw [Bool.and_eq_true] at hk
  exact order_calls n1 n2 A1 A2 c1 c2 l1 l2 W (h1.on hW) (h2.on hW) hc1 hc2 (okI_isInt h1.words hk.1) (okI_isInt h2.words hk.2)
 unfold cmpR
 generalize cmpZ (toZ n1 l1) (toZ n2 l2) = cz at *
 generalize okI n1 l1 = b1 at *
 generalize okI n2 l2 = b2 at *
 cases b1 <;> cases b2
 all_goals
  simp only [Bool.false_eq_true, if_false, if_true, Bool.and_true, Bool.and_false] at *
  go_enter Tryz.func89, Tryz.ntmps89
  go_wp2_with first
   | (go_at_call 162; refine (hor trivial _ hbb2).mono ?_; rintro e w5 ⟨rfl, hb''⟩; have hbb3 := hbb2.trans (hb''.mono hbb2.size))
   | (go_at_call 161; have hmark := m1; refine (f2 _ hbb).mono ?_; rintro e w4 ⟨rfl, hb'⟩; have hbb2 := hbb.trans (hb'.mono hbb.size); obtain ⟨x2, x3⟩ := cL2 ((k0.on hb).on hb').h; obtain ⟨x4, x5⟩ := cL2 ((k1.on hb).on hb').h)
   | (go_at_call 161; refine (f1 _ (hb2 _ _)).mono ?_; rintro e w3 ⟨rfl, hb⟩; have m1 : True := trivial; have hbb := (hb2 _ _).trans (hb.mono (hb2 _ _).size); obtain ⟨x0, x1⟩ := cL2 (k1.on hb).h)
  go_ret
  first | exact ⟨rfl, hbb3⟩ | exact ⟨rfl, hbb2⟩ | exact ⟨rfl, hbb⟩
end Nm
end Go.Proofs.YtjghnghceeijeaaGreatDoor
