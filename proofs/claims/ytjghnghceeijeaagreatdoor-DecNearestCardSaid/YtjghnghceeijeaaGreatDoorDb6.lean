/-
  Contracts of the walks below.
-/
import Derived.Test.YtjghnghceeijeaaGreatDoorDb5
set_option maxRecDepth 100000
set_option maxHeartbeats 4000000
set_option linter.unusedVariables false
set_option linter.unusedSimpArgs false
namespace Go.Proofs.YtjghnghceeijeaaGreatDoor
namespace Nm
theorem blen_pos {x : Nat} (h : x ≠ 0) : 0 < blen x := by unfold blen; rw [if_neg h]; omega
theorem shift_length {l : List Nat} (h : Canon l) (hl : 0 < l.length) : (lim (val l * 2 ^ (32 - blen (l.getD (l.length - 1) 0)))).length = l.length := by
 have hb := blen_val h hl
 have hw := blen_word (words_getD h.1 (l.length - 1))
 have h1 := blen_lt (val l)
 generalize l.getD (l.length - 1) 0 = x at *
 refine Nat.le_antisymm (length_le_of_lt ?_) ?_
 · rw [pow_BB, show 32 * l.length = blen (val l) + (32 - blen x) by omega, Nat.pow_add]
   exact Nat.mul_lt_mul_of_pos_right h1 (Nat.two_pow_pos _)
 · have := length_mono (show val l ≤ val l * 2 ^ (32 - blen x) from Nat.le_mul_of_pos_right _ (Nat.two_pow_pos _))
   rwa [lim_val h] at this
theorem shift_length_le {l : List Nat} (h : Canon l) {k : Nat} (hk : k < 32) : (lim (val l * 2 ^ k)).length ≤ l.length + 1 := by
 refine length_le_of_lt ?_
 rw [Nat.pow_succ]
 exact Nat.mul_lt_mul'' (val_lt h.1) (by
  have := Nat.pow_lt_pow_right (show 1 < 2 by decide) hk
  exact this)
theorem shift_length_ge {l : List Nat} (h : Canon l) (k : Nat) : l.length ≤ (lim (val l * 2 ^ k)).length := by
 have := length_mono (show val l ≤ val l * 2 ^ k from Nat.le_mul_of_pos_right _ (Nat.two_pow_pos _))
 rwa [lim_val h] at this
theorem val_pos_length {l : List Nat} (h : 0 < val l) : 0 < l.length := by
 rcases Nat.eq_zero_or_pos l.length with h0 | h0
 · obtain rfl : l = [] := List.length_eq_zero_iff.1 h0
   simp [val] at h
 · exact h0
theorem canon_top {l : List Nat} (h : Canon l) (hl : 0 < l.length) : l.getD (l.length - 1) 0 ≠ 0 := by
 have hne : l ≠ [] := by rintro rfl; simp at hl
 have ht : l.getD (l.length - 1) 0 = l.getLast hne := by rw [List.getLast_eq_getElem, List.getD_eq_getElem?_getD, List.getElem?_eq_getElem (by omega)]; rfl
 rw [ht]; exact h.2 hne
theorem div_start {a b ul : List Nat} {k n m : Nat} (ha : Words a) (hb : Canon b) (hn : b.length = n) (hm : a.length = m) (h0 : 0 < n) (hnm : n ≤ m) (hu : val ul = val a * 2 ^ k) (hul : ul.length = m + 1) :
 val (ul.drop (m + 1 - n)) < val b * 2 ^ k := by
 have e := List.take_append_drop (m + 1 - n) ul
 have h1 : val ul = val (ul.take (m + 1 - n)) + BB ^ (m + 1 - n) * val (ul.drop (m + 1 - n)) := by
  conv => lhs; rw [← e]
  rw [val_append, List.length_take, Nat.min_eq_left (by omega)]
 have h2 : BB ^ (n - 1) ≤ val b := by
  have := pow_le_of_length (n := val b) (k := n - 1) (by rw [lim_val hb]; omega)
  exact this
 have h3 := val_lt ha
 rw [hm] at h3
 have h4 : BB ^ m = BB ^ (m + 1 - n) * BB ^ (n - 1) := by rw [← Nat.pow_add]; congr 1; omega
 have h5 : BB ^ (m + 1 - n) * val (ul.drop (m + 1 - n)) < BB ^ (m + 1 - n) * (val b * 2 ^ k) := by
  have h6 : val a * 2 ^ k < BB ^ m * 2 ^ k := Nat.mul_lt_mul_of_pos_right h3 (Nat.two_pow_pos _)
  have h7 : BB ^ m * 2 ^ k ≤ BB ^ (m + 1 - n) * (val b * 2 ^ k) := by
   rw [h4, Nat.mul_assoc]
   exact Nat.mul_le_mul (Nat.le_refl _) (Nat.mul_le_mul h2 (Nat.le_refl _))
  rw [hu] at h1
  generalize val (ul.take (m + 1 - n)) = X at *
  generalize BB ^ (m + 1 - n) * val (ul.drop (m + 1 - n)) = Y at *
  generalize val a * 2 ^ k = Z at *
  omega
 exact Nat.lt_of_mul_lt_mul_left h5
structure DivAt (ul pre seg post : List Nat) (k n V : Nat) : Prop where
 parts : ul = pre ++ seg ++ post
 hpre : pre.length = k
 hseg : seg.length = n + 1
 hpost : val post = 0
 hval : val seg = ul.getD k 0 + BB * val (ul.drop (k + 1))
 hlt : val seg < BB * V
 hpre' : pre = ul.take k
theorem div_at {ul : List Nat} {k n V : Nat} (hw : Words ul) (hl : k + n + 1 ≤ ul.length) (hlt : val (ul.drop (k + 1)) < V) (hV : V ≤ BB ^ n) :
 DivAt ul (ul.take k) ((ul.drop k).take (n + 1)) ((ul.drop k).drop (n + 1)) k n V := by
 have hcons : ul.drop k = ul.getD k 0 :: ul.drop (k + 1) := by
  rw [List.drop_eq_getElem_cons (by omega), List.getD_eq_getElem?_getD, List.getElem?_eq_getElem (by omega)]; rfl
 have hp : val ((ul.drop (k + 1)).drop n) = 0 := by
  have e := List.take_append_drop n (ul.drop (k + 1))
  have h1 : val (ul.drop (k + 1)) = val ((ul.drop (k + 1)).take n) + BB ^ n * val ((ul.drop (k + 1)).drop n) := by
   conv => lhs; rw [← e]
   rw [val_append, List.length_take, Nat.min_eq_left (by simp; omega)]
  rcases Nat.eq_zero_or_pos (val ((ul.drop (k + 1)).drop n)) with h0 | h0
  · exact h0
  · have := Nat.mul_le_mul (Nat.le_refl (BB ^ n)) h0
    rw [Nat.mul_one] at this
    generalize val ((ul.drop (k + 1)).drop n) = X at *
    generalize val ((ul.drop (k + 1)).take n) = Y at *
    generalize val (ul.drop (k + 1)) = Z at *
    generalize BB ^ n * X = W at *
    omega
 have hs : val ((ul.drop k).take (n + 1)) = ul.getD k 0 + BB * val (ul.drop (k + 1)) := by
  rw [hcons, List.take_succ_cons]
  show _ + BB * _ = _
  have e := List.take_append_drop n (ul.drop (k + 1))
  have h1 : val (ul.drop (k + 1)) = val ((ul.drop (k + 1)).take n) + BB ^ n * val ((ul.drop (k + 1)).drop n) := by
   conv => lhs; rw [← e]
   rw [val_append, List.length_take, Nat.min_eq_left (by simp; omega)]
  rw [h1, hp, Nat.mul_zero]
  rfl
 refine ⟨?_, by simp; omega, by simp; omega, ?_, hs, ?_, rfl⟩
 · rw [List.append_assoc, List.take_append_drop, List.take_append_drop]
 · rw [hcons, List.drop_succ_cons]; exact hp
 · rw [hs]
   have h1 := words_getD hw k
   have h2 := Nat.mul_le_mul (Nat.le_refl BB) hlt
   rw [Nat.mul_succ] at h2
   generalize val (ul.drop (k + 1)) = Z at *
   generalize ul.getD k 0 = X at *
   omega
theorem DivAt.after {ul pre seg post seg' : List Nat} {k n V : Nat} (h : DivAt ul pre seg post k n V) (_hl : seg'.length = n + 1) : val ((pre ++ seg' ++ post).drop k) = val seg' := by
 rw [List.append_assoc, List.drop_append_of_le_length (by rw [h.hpre]; exact Nat.le_refl _), List.drop_of_length_le (by rw [h.hpre]; exact Nat.le_refl _), List.nil_append, val_append, h.hpost, Nat.mul_zero, Nat.add_zero]
theorem DivAt.take {ul pre seg post seg' : List Nat} {k n V : Nat} (h : DivAt ul pre seg post k n V) : (pre ++ seg' ++ post).take k = ul.take k := by
 rw [List.append_assoc, List.take_append_of_le_length (by rw [h.hpre]; exact Nat.le_refl _), h.hpre', List.take_take, Nat.min_self]
theorem div_step {u0 ul pre seg post qs : List Nat} {k n V r : Nat} (h : DivAt ul pre seg post k n V) (hd : val (u0.drop (k + 1)) = V * val qs + val (ul.drop (k + 1))) (hx : u0.getD k 0 = ul.getD k 0) (hk : k < u0.length) (hr : r = val seg % V) :
 val (u0.drop k) = V * val ((val seg / V) :: qs) + r := by
 have hcons : u0.drop k = u0.getD k 0 :: u0.drop (k + 1) := by
  rw [List.drop_eq_getElem_cons (by omega), List.getD_eq_getElem?_getD, List.getElem?_eq_getElem (by omega)]; rfl
 have h1 := h.hval
 have h2 := Nat.div_add_mod (val seg) V
 rw [hcons]
 show u0.getD k 0 + BB * val (u0.drop (k + 1)) = V * (val seg / V + BB * val qs) + r
 rw [hx, hd, Nat.mul_add, Nat.mul_add, Nat.mul_left_comm V BB, hr]
 generalize val seg / V = q at *
 generalize val seg % V = s at *
 generalize V * q = p at *
 generalize BB * (V * val qs) = p2 at *
 generalize BB * val (ul.drop (k + 1)) = p3 at *
 omega
theorem div_end {a b U V Q R k : Nat} (hU : U = a * 2 ^ k) (hV : V = b * 2 ^ k) (_hb : 0 < b) (h : U = V * Q + R) (hR : R < V) : Q = a / b ∧ R / 2 ^ k = a % b ∧ R < V := by
 have hp := Nat.two_pow_pos k
 have hq : Q = a / b := by
  have : Q = U / V := by rw [h, Nat.add_comm, Nat.add_mul_div_left _ _ (by omega), Nat.div_eq_of_lt hR, Nat.zero_add]
  rw [this, hU, hV, Nat.mul_div_mul_right _ _ hp]
 refine ⟨hq, ?_, hR⟩
 have hr : R = U % V := by rw [h, Nat.mul_add_mod, Nat.mod_eq_of_lt hR]
 rw [hr, hU, hV, Nat.mul_mod_mul_right, Nat.mul_div_cancel _ hp]
end Nm
end Go.Proofs.YtjghnghceeijeaaGreatDoor
namespace Go.Proofs.YtjghnghceeijeaaGreatDoor
namespace Nm
open Go.RowKit Go.Shelf Go.BigFrame
attribute [local go_sem] Oper.semAt_some
def RetDiv (q r : Nat) (w : World) (e : Ending) (w' : World) : Prop :=
 ∃ A c B d, e = .returned (.tuple #[.slice A (lim q).length c, .slice B (lim r).length d]) ∧ (lim q).length ≤ c ∧ (lim r).length ≤ d ∧ Rd w' A (lim q) ∧ Rd w' B (lim r) ∧ Below w.heap.size w w'
theorem RetNat.out {n : Nat} {w : World} {e : Ending} {w' : World} {l : List Nat} {k : Nat} (h : RetNat n w e w') (hl : lim n = l) (hk : l.length = k) :
 ∃ A c, e = .returned (.slice A k c) ∧ k ≤ c ∧ Rd w' A l ∧ Below w.heap.size w w' := by
 subst hl hk; exact h
def slen : Value → Nat
 | .slice _ n _ => n
 | _ => 0
theorem div_less (A1 A2 : Option Addr) (c1 c2 : Nat) (l1 l2 : List Nat) (w : World) (h1 : Rd w A1 l1) (h2 : Rd w A2 l2) (hc1 : l1.length ≤ c1) (hc2 : l2.length ≤ c2) (k1 : Canon l1) (k2 : Canon l2)
 (hlt : val l1 < val l2) :
 Calls Tryz.prog 206 #[.slice A1 l1.length c1, .slice A2 l2.length c2] w (RetDiv (val l1 / val l2) (val l1 % val l2) w) := by
 have hc := compare_calls A1 A2 c1 c2 l1 l2 w h1 h2 hc1 hc2 k1 k2
 rw [show cmpZ (val l1 : Int) (val l2 : Int) = -1 from by unfold cmpZ; rw [if_pos (by omega)]] at hc
 have e1 : lim (val l1 / val l2) = [] := by rw [Nat.div_eq_of_lt hlt, lim_zero]
 have e2 : lim (val l1 % val l2) = l1 := by rw [Nat.mod_eq_of_lt hlt, lim_val k1]
 go_enter Tryz.func206, Tryz.ntmps206
 go_wp2_with (go_at_call 159; refine hc.mono ?_; rintro e w' ⟨rfl, nn, rfl⟩)
 go_ret2
 unfold RetDiv
 rw [e1, e2]
 exact ⟨none, 0, A1, c1, rfl, by simp, hc1, Rd.nil _ _, h1.below (below_drewN (Below.refl _ _) nn) rfl, below_drewN (Below.refl _ _) nn⟩
theorem div_one (A1 A2 : Option Addr) (c1 c2 : Nat) (l1 : List Nat) (b : Nat) (w : World) (h1 : Rd w A1 l1) (h2 : Rd w A2 [b]) (hc1 : l1.length ≤ c1) (hc2 : 1 ≤ c2) (k1 : Canon l1) (k2 : Canon [b])
 (hge : val [b] ≤ val l1) (hsm : l1.length ≤ 1048576) :
 Calls Tryz.prog 206 #[.slice A1 l1.length c1, .slice A2 1 c2] w (RetDiv (val l1 / val [b]) (val l1 % val [b]) w) := by
 have hc := compare_calls A1 A2 c1 c2 l1 [b] w h1 h2 hc1 hc2 k1 k2
 obtain ⟨z, hz⟩ : ∃ z : Nat, cmpZ (val l1 : Int) (val [b] : Int) = (z : Int) := by
  unfold cmpZ; rw [if_neg (by omega)]; split
  · exact ⟨1, rfl⟩
  · exact ⟨0, rfl⟩
 rw [hz] at hc
 have hb : 0 < b := by have := canon_top k2 (by simp); simpa using Nat.pos_of_ne_zero this
 have hbb : b < 4294967296 := k2.1 b (by simp)
 have hvb : val [b] = b := by show b + BB * 0 = b; rw [Nat.mul_zero, Nat.add_zero]
 rw [hvb]
 rw [hvb] at hge
 have hz0 : ((z : Int) < 0) ↔ False := by rw [iff_false]; omega
 obtain ⟨bb, o, x, rfl, hcx, hx, hxb⟩ := h2.get 0 (by simp)
 have hxx : x = b := hx.out.symm
 subst hxx
 have hcx' : ∀ nn, (w.drewN nn).cell? ⟨bb, o, none⟩ = some (.int .u32 (x : Int)) := fun nn => hcx
 have hs : ∀ nn, Calls Tryz.prog 173 #[.slice A1 l1.length c1, .int .u32 (x : Int)] (w.drewN nn) (Ret2 (val l1 / x) (val l1 % x) (w.drewN nn)) := fun nn =>
  small_calls A1 c1 x l1 (w.drewN nn) (h1.below (below_drewN (Below.refl _ _) nn) rfl) hc1 hb hbb hsm
 have hr : val l1 % x < 4294967296 := Nat.lt_trans (Nat.mod_lt _ hb) hbb
 obtain ⟨r, hrr⟩ : ∃ r, val l1 % x = r := ⟨_, rfl⟩
 obtain ⟨q, hqq⟩ : ∃ q, val l1 / x = q := ⟨_, rfl⟩
 rw [hrr] at hr
 rw [hrr, hqq]
 simp only [hrr, hqq] at hs
 have hvr : lim r = trim [r] := by unfold trim; show _ = lim (r + BB * 0); rw [Nat.mul_zero, Nat.add_zero]
 go_enter Tryz.func206, Tryz.ntmps206
 go_wp2_with first
  | (go_at_call 159; refine hc.mono ?_; rintro e w' ⟨rfl, nn, rfl⟩)
  | (go_at_call 173; refine (hs _).mono ?_; rintro e w' ⟨Aq, cq, rfl, hq1, hq2, hq3⟩)
  | (go_at_call 164; refine (trim_calls (some ⟨w'.heap.size, 0, none⟩) 1 [r] _ (arr_rd (arr_new w' [r]) (by intro u hu; simp at hu; rw [hu]; exact hr) (by simp)) (by simp)).mono ?_; rintro e w2 ⟨rfl, rfl⟩)
 go_ret2
 have hrd := arr_rd (arr_new w' [r]) (by intro u hu; simp at hu; rw [hu]; exact hr) (by simp)
 have htl := trim_length_le (l := [r]) (by intro u hu; simp at hu; rw [hu]; exact hr)
 unfold RetDiv
 rw [hvr]
 have hb0 := (below_drewN (Below.refl w.heap.size w) nn).trans hq3
 exact ⟨_, _, _, _, rfl, hq1, by simpa using htl, hq2.below ((Below.refl w'.heap.size w').alloc (Nat.le_refl _) _) rfl, hrd.trim, hb0.alloc hb0.size _⟩
theorem own_empty (w : World) (base g : Nat) (h : w.heap[g]? = some (.cells #[] 127 (0, 0))) (hb : base ≤ g) : w.ownsRow base 127 1 (.slice (some ⟨g, 0, none⟩) 0 0) 0 (wvals []) :=
 ⟨rfl, .inr ⟨g, 0, #[], rfl, hb, h, Nat.le_refl _, by decide, rfl, rfl⟩⟩
theorem div_long (A1 A2 : Option Addr) (c1 c2 : Nat) (l1 l2 : List Nat) (w : World) (h1 : Rd w A1 l1) (h2 : Rd w A2 l2) (hc1 : l1.length ≤ c1) (hc2 : l2.length ≤ c2) (k1 : Canon l1) (k2 : Canon l2)
 (hge : val l2 ≤ val l1) (hn2 : 2 ≤ l2.length) (hsm : l1.length ≤ 65536) :
 Calls Tryz.prog 206 #[.slice A1 l1.length c1, .slice A2 l2.length c2] w (RetDiv (val l1 / val l2) (val l1 % val l2) w) := by
 have hc := compare_calls A1 A2 c1 c2 l1 l2 w h1 h2 hc1 hc2 k1 k2
 obtain ⟨z, hz⟩ : ∃ z : Nat, cmpZ (val l1 : Int) (val l2 : Int) = (z : Int) := by
  unfold cmpZ; rw [if_neg (by omega)]; split
  · exact ⟨1, rfl⟩
  · exact ⟨0, rfl⟩
 rw [hz] at hc
 have hz0 : ((z : Int) < 0) ↔ False := by rw [iff_false]; omega
 have hnm : l2.length ≤ l1.length := by
  have := length_mono hge
  rwa [lim_val k1, lim_val k2] at this
 have hpos : 0 < val l2 := val_pos_of_canon k2 (by rintro rfl; simp at hn2)
 obtain ⟨n, hn⟩ : ∃ n, l2.length = n := ⟨_, rfl⟩
 obtain ⟨m, hm⟩ : ∃ m, l1.length = m := ⟨_, rfl⟩
 obtain ⟨bb, o, x, rfl, hcx, hx, hxb⟩ := h2.get (l2.length - 1) (by omega)
 have hx0 : x ≠ 0 := by rw [← hx.out]; exact canon_top k2 (by omega)
 have hbp := blen_pos hx0
 have hbw := blen_word hxb
 obtain ⟨k, hk, hk32, hkk⟩ : ∃ k : Nat, (32 : Int) - (blen x : Int) = (k : Int) ∧ k < 32 ∧ Hid (k = 32 - blen x) := ⟨32 - blen x, by omega, by omega, rfl⟩
 have hvl := shift_length k2 (by omega)
 rw [hx.out, ← hkk.out, hn] at hvl
 have hul1 := shift_length_le k1 hk32
 have hul2 := shift_length_ge k1 k
 obtain ⟨V, hV⟩ : ∃ V, val l2 * 2 ^ k = V := ⟨_, rfl⟩
 obtain ⟨U, hU⟩ : ∃ U, val l1 * 2 ^ k = U := ⟨_, rfl⟩
 have hVp : 0 < V := by rw [← hV]; exact Nat.mul_pos hpos (Nat.two_pow_pos _)
 rw [hV] at hvl
 rw [hU, hm] at hul1 hul2
 obtain ⟨vl, hvv⟩ : ∃ vl, lim V = vl := ⟨_, rfl⟩
 obtain ⟨ul0, huu⟩ : ∃ ul, lim U = ul := ⟨_, rfl⟩
 obtain ⟨mu, hmu⟩ : ∃ mu, ul0.length = mu := ⟨_, rfl⟩
 rw [hvv] at hvl
 rw [huu, hmu] at hul1 hul2
 have hs2 : ∀ w', Below w.heap.size w w' → Calls Tryz.prog 204 #[.slice (some ⟨bb, o, none⟩) n c2, .int .i64 (k : Int)] w' fun e w'' => ∃ A c, e = .returned (.slice A n c) ∧ n ≤ c ∧ Rd w'' A vl ∧ Below w'.heap.size w' w'' := by
  intro w' hw'
  have := shift_calls (some ⟨bb, o, none⟩) c2 k l2 w' (h2.below hw' rfl) hc2 (by omega) (by omega)
  rw [hV, hn] at this
  exact this.mono fun e w'' h => h.out hvv hvl
 have hs1 : ∀ w', Below w.heap.size w w' → Calls Tryz.prog 204 #[.slice A1 m c1, .int .i64 (k : Int)] w' fun e w'' => ∃ A c, e = .returned (.slice A mu c) ∧ mu ≤ c ∧ Rd w'' A ul0 ∧ Below w'.heap.size w' w'' := by
  intro w' hw'
  have := shift_calls A1 c1 k l1 w' (h1.below hw' rfl) hc1 (by omega) (by omega)
  rw [hU, hm] at this
  exact this.mono fun e w'' h => h.out huu hmu
 have hlead : ∀ w', Calls Tryz.prog 231 #[.int .u32 (x : Int)] w' fun e w'' => e = .returned (.int .i64 (k : Int)) ∧ w'' = w' := by
  intro w'; have := lead32_calls x w' hxb; rwa [hk] at this
 rw [hn] at hc hn2 hnm hcx hc2 ⊢
 rw [hm] at hc hnm hsm hc1 ⊢
 have hcx' : ∀ nn, (w.drewN nn).cell? ⟨bb, o + (n - 1), none⟩ = some (.int .u32 (x : Int)) := fun nn => hcx
 have hn1 : (((n : Nat) : Int) == 1) = false := by rw [beq_eq_false_iff_ne]; omega
 obtain ⟨i0, hi, hz0', hz1, hz2⟩ := info_parts info_u32
 have hmup : 0 < mu := by omega
 have HV := Lib.hid hV
 have HU := Lib.hid hU
 have HVL := Lib.hid hvv
 have HUL := Lib.hid huu
 have HL := Lib.hid hvl
 have HMU := Lib.hid hmu
 have HN := Lib.hid hn
 have HM := Lib.hid hm
 clear hV hU hvv huu hvl hmu hn hm hbp hbw hcx
 have hwide : ∀ f, Fence.wide.fn f := fun _ => trivial
 refine (callsIn_wide (n := 5)).1 ?_
 refine callsIn_of_wp Tryz.func206 rfl trivial ?_ rfl
 simp only [Tryz.ntmps206, List.size_toArray, List.length_cons, List.length_nil, Nat.reduceAdd, Nat.reduceSub, Array.replicate_succ, Array.replicate_zero, List.push_toArray, List.append_toArray, List.nil_append, List.cons_append]
 gi_wp2_with first
  | (gi_at_call 159; refine (callsIn_wide.2 hc).mono ?_; rintro e w' ⟨rfl, nn, rfl⟩)
  | (gi_at_call 231; refine (callsIn_wide.2 (hlead _)).mono ?_; rintro e w' ⟨rfl, rfl⟩)
  | (gi_at_call 204; refine (callsIn_wide.2 (hs1 (w1.alloc (.cells #[] 127)) (hb1.alloc hb1.size _))).mono ?_; rintro e w2 ⟨Au, cu', rfl, hu1, hu2, hu3⟩; obtain ⟨bu, ou, rfl⟩ := hu2.head (by have := HMU.out; omega); have hown := own_empty w2 w1.heap.size w1.heap.size ((hu3.block w1.heap.size (by simp)).trans (World.alloc_heap_new w1 _)) (Nat.le_refl _); have hnews := rd_news hu2; have hb2 : Below w1.heap.size w1 w2 := ((Below.refl w1.heap.size w1).alloc (Nat.le_refl _) _).trans (hu3.mono (by simp)))
  | (gi_at_call 204; refine (callsIn_wide.2 (hs2 _ (below_drewN (Below.refl _ _) _))).mono ?_; rintro e w1 ⟨Av, cv, rfl, hv1, hv2, hv3⟩; have hb1 : Below w.heap.size w w1 := (below_drewN (Below.refl _ _) nn).trans hv3)
  | (gi_at_builtin; (refine wpListIn_append_own _ rfl _ _ 144 rfl w1.heap.size 127 i0 (.int .u32 0) 1 4 Tryz.underlying144 hi hz0' hz1 hz2 rfl (by decide) _ _ _ rfl hown ⟨bu, ou, none⟩ mu cu' (wvals ul0) rfl (by have := HMU.out; simp; omega) hnews (wvals_one ul0) (by unfold maxLen; omega) (by omega) (by have := hb2.size; omega) ?_); intro v' w3 hown' hg3 _)
 have hwu : Words ul0 := by rw [← HUL.out]; exact words_lim U
 have hvu : val ul0 = U := by rw [← HUL.out]; exact val_lim U
 have hb3 : Below w1.heap.size w1 w3 := hb2.grown hg3 hb2.size (fun j e => by cases e; exact Nat.le_refl _)
 have Hvu := Lib.hid hvu
 clear hvu hnews hown hg3
 gi_loopw [10] (fun s W => ∃ ul : List Nat, W.ownsRow w1.heap.size 127 1 s ul.length (wvals ul) ∧ Words ul ∧ Hid (val ul = U) ∧ mu ≤ ul.length ∧ ul.length ≤ m + 1 ∧ Below w1.heap.size w1 W) (fun s _ => m + 1 - slen s)
 case atStart =>
  refine ⟨ul0, ?_, hwu, Hvu, Nat.le_of_eq HMU.out.symm, by rw [HMU.out]; exact hul1, hb3⟩
  rw [HMU.out]
  rw [Nat.zero_add] at hown'
  exact hown'
 case round =>
  clear hown' hwu Hvu hb3
  obtain ⟨ul, hown, how, hov, hm1, hm2, hbl⟩ := hrel
  obtain ⟨gu, cu, rfl, _, hcu1, hcu2, harr, hgu⟩ := own_arr hown (by omega)
  by_cases hlt : ul.length ≤ m
  · gi_wp2_with first
     | (gi_at_builtin; (refine wpListIn_append_own _ rfl _ _ 144 rfl w1.heap.size 127 i0 (.int .u32 0) 1 4 Tryz.underlying144 hi hz0' hz1 hz2 rfl (by decide) _ _ _ rfl (hown.alloc _) ⟨wr.heap.size, 0, none⟩ 1 1 [.int .u32 0] rfl rfl (cell_one_new _ _ _) (by simp [Value.oneCell']) (by unfold maxLen; omega) (by omega) (by have := hbl.size; simp; omega) ?_); intro v' w4 hown' hg4 _)
    obtain ⟨gu', cu', rfl, _, _, _, harr', _⟩ := own_arr (l := ul ++ [0]) (by rw [show wvals (ul ++ [0]) = wvals ul ++ [.int .u32 0] from List.map_append]; exact hown') (by simp)
    refine ⟨⟨ul ++ [0], ?_, ?_, ?_, by simp; omega, by simp; omega, ?_⟩, by simp only [slen]; omega⟩
    · rw [show wvals (ul ++ [0]) = wvals ul ++ [.int .u32 0] from List.map_append, List.length_append]; exact hown'
    · exact words_append.2 ⟨how, fun u hu => by simp at hu; rw [hu]; decide⟩
    · show val (ul ++ [0]) = U
      rw [val_snoc, Nat.mul_zero, Nat.add_zero]; exact hov.out
    · exact (hbl.alloc hbl.size _).grown hg4 (by have := hbl.size; simp; omega) (fun j e => by cases e; exact hgu)
  · have hL : ul.length = m + 1 := by omega
    obtain ⟨L, hLL⟩ : ∃ L, ul.length = L := ⟨_, rfl⟩
    obtain ⟨sz, hsz, hsz'⟩ : ∃ sz : Nat, (L : Int) - (n : Int) = (sz : Int) ∧ Hid (sz = m + 1 - n) := ⟨m + 1 - n, by omega, rfl⟩
    have hLm : ((L : Int) ≤ (m : Int)) ↔ False := by rw [iff_false]; omega
    have hst := div_start (ul := ul) (k := k) k1.1 k2 HN.out HM.out (by omega) hnm (by rw [HU.out]; exact hov.out) hL
    rw [HV.out, ← hsz'.out] at hst
    have hszb : sz ≤ 65537 := by have := hsz'.out; omega
    have hmk := make_nat (sz : Int) (sz : Int) sz sz rfl rfl (Nat.le_refl _) (by omega)
    have Hst := Lib.hid hst
    have HLL := Lib.hid hLL
    rw [hLL] at hcu1 ⊢
    clear hst hown hLL hL hlt hm1 hm2
    obtain ⟨W0, hW0⟩ : ∃ W0, W0 = wr := ⟨wr, rfl⟩
    subst hW0
    gi_wp2
    clear hmk
    gi_loopw [13] (fun i W => ∃ (j : Nat) (qs ul' : List Nat), j ≤ sz ∧ i = .int .i64 ((j : Int) - 1) ∧ Arr W W0.heap.size (List.replicate j 0 ++ qs) ∧ Arr W gu ul' ∧ Hid (qs.length + j = sz) ∧ Words qs ∧ Words ul' ∧ Hid (ul'.length = L) ∧
     Hid (val (ul.drop j) = V * val qs + val (ul'.drop j)) ∧ Hid (val (ul'.drop j) < V) ∧ Hid (ul'.take j = ul.take j) ∧ Below w1.heap.size w1 W) (fun i _ => (intOf i + 1).toNat)
    case atStart => 
     exact ⟨sz, [], ul, Nat.le_refl _, rfl, by rw [List.append_nil]; exact arr_new _ _, arr_alloc harr _, Nat.zero_add _, words_nil, how, HLL, by simp [Hid, val], Hst, rfl, hbl.alloc hbl.size _⟩
    case round =>
     obtain ⟨j, qs, ul', hj, rfl, hqa, hua, hql, hqw, huw, hull, hval, hlt, htk, hbl'⟩ := hrel
     have hgu0 := arr_lt harr
     have hVn : Hid (V ≤ BB ^ n) := by
      have := lt_pow_length V
      rw [HVL.out, HL.out] at this
      exact Nat.le_of_lt this
     have hvv : Hid (val vl = V) := by show _ = _; rw [← HVL.out]; exact val_lim V
     by_cases h0 : 0 < j
     · obtain ⟨j, rfl⟩ : ∃ i, j = i + 1 := ⟨j - 1, by omega⟩
       have hjn : j + n + 1 ≤ L := by have := hsz'.out; omega
       obtain ⟨pre, seg, post, hat⟩ : ∃ pre seg post, DivAt ul' pre seg post j n V := ⟨_, _, _, div_at huw (by rw [hull.out]; exact hjn) hlt.out hVn.out⟩
       have hdig := digit_calls gu (cu - j) n pre seg post vl Av cv wr (by rw [← hat.parts]; exact hua) hat.hseg HL.out hn2 (by rw [← hat.parts]; exact huw) (by omega) (hv2.below hbl' rfl) hv1
        (fun b o e => Nat.lt_of_lt_of_le (rd_block hv2 b o e (by rw [HL.out]; omega)) hgu) (by have := canon_top (canon_lim V) (by rw [HVL.out, HL.out]; omega); rwa [HVL.out, HL.out] at this) (by rw [hvv.out]; exact hat.hlt) (by omega) (by rw [hat.hpre]; omega)
       obtain ⟨qd, hqd⟩ : ∃ qd, val seg / V = qd := ⟨_, rfl⟩
       rw [hat.hpre, hvv.out, hqd, show n + 1 = j + n + 1 - j by omega] at hdig
       rw [show ((j + 1 : Nat) : Int) - 1 = (j : Int) by omega]
       clear h0
       gi_wp2_with first
        | (gi_at_call 232; (refine (callsIn_wide.2 hdig).mono ?_); rintro e w5 ⟨seg', rfl, hd1, hd2, hd3, hd4, hd5⟩; have hqa5 := arr_kept hqa hd5 (by simp; omega); have gq5 := arr_cell hqa5 j (by simp; omega); have fq5 := arr_frozen hqa5 j)
       have hdv : val ((pre ++ seg' ++ post).drop j) = val seg % V := by rw [hat.after (by omega)]; exact hd4
       have hqdb : qd < 4294967296 := by
        rw [← hqd]; show _ < BB
        rw [Nat.div_lt_iff_lt_mul hVp]; exact hat.hlt
       have hparts := hat.parts
       have huw' := huw
       rw [hparts] at huw'
       have hwp := words_append.1 huw'
       have hlp := hull.out
       rw [hparts] at hlp
       simp only [List.length_append] at hlp
       have hls := hat.hseg
       refine ⟨⟨j, qd :: qs, pre ++ seg' ++ post, by omega, rfl, ?_, arr_other hd1 (by omega) _, ?_, words_cons.2 ⟨hqdb, hqw⟩, words_append.2 ⟨words_append.2 ⟨(words_append.1 hwp.1).1, hd3⟩, hwp.2⟩, ?_, ?_, ?_, ?_, (hbl'.grown hd5 hbl'.size (fun j e => by cases e; exact hgu)).setCell (by have := hbl.size; dsimp only; omega) _⟩, by simp only [intOf]; omega⟩
       · rw [← set_front]
         exact arr_set hqa5 j qd
       · show (qd :: qs).length + j = sz
         have := hql.out; simp; omega
       · show (pre ++ seg' ++ post).length = L
         simp only [List.length_append]; omega
       · show val (ul.drop j) = V * val (qd :: qs) + val ((pre ++ seg' ++ post).drop j)
         rw [← hqd]
         have htk' := congrArg (fun (l : List Nat) => l.getD j 0) htk.out
         simp only [List.getD_eq_getElem?_getD, List.getElem?_take_of_lt (show j < j + 1 by omega)] at htk'
         exact div_step hat hval.out (by rw [List.getD_eq_getElem?_getD, List.getD_eq_getElem?_getD]; exact htk'.symm) (by rw [HLL.out]; omega) hdv
       · show _ < V
         rw [hdv]; exact Nat.mod_lt _ hVp
       · show (pre ++ seg' ++ post).take j = ul.take j
         rw [hat.take]
         have htk' := congrArg (fun (l : List Nat) => l.take j) htk.out
         simpa [List.take_take] using htk'
     · obtain rfl : j = 0 := by omega
       have hqs : qs.length = sz := by have := hql.out; omega
       rw [List.replicate_zero, List.nil_append] at hqa
       have hend := div_end (Q := val qs) (R := val ul') HU.out.symm HV.out.symm hpos (by have := hval.out; rw [List.drop_zero, List.drop_zero] at this; rw [← hov.out]; exact this) (by have := hlt.out; rwa [List.drop_zero] at this)
       have hrq := arr_rd hqa hqw (by omega)
       have hru := (arr_rd hua huw (by rw [hull.out]; omega)).take n
       have htq : trim qs = lim (val l1 / val l2) := by unfold trim; rw [hend.1]
       have hun : (ul'.take n).length = n := by rw [List.length_take, hull.out]; omega
       have huv : val (ul'.take n) = val ul' := by
        have h1 : val ul' = val (ul'.take n) + BB ^ n * val (ul'.drop n) := by
         conv => lhs; rw [← List.take_append_drop n ul']
         rw [val_append, hun]
        have h2 := hend.2.2
        have h3 := hVn.out
        rcases Nat.eq_zero_or_pos (val (ul'.drop n)) with h0 | h0
        · rw [h0, Nat.mul_zero] at h1; exact h1.symm
        · have := Nat.mul_le_mul (Nat.le_refl (BB ^ n)) h0
          rw [Nat.mul_one] at this
          generalize val (ul'.drop n) = X at *
          generalize BB ^ n * X = Y at *
          generalize BB ^ n = Z at *
          omega
       have htu : trim (ul'.take n) = lim (val ul') := by unfold trim; rw [huv]
       obtain ⟨R, hR⟩ : ∃ R, val ul' = R := ⟨_, rfl⟩
       rw [hR] at htu hend
       have hlen1 : (lim (val l1 / val l2)).length ≤ sz := by rw [← htq, ← hqs]; exact trim_length_le hqw
       have hlen2 : (lim R).length ≤ cu := by rw [← htu]; have := trim_length_le (words_take huw n); rw [hun] at this; omega
       have hq : ∀ nn mm, CallsIn Fence.wide nn Tryz.prog 164 #[.slice (some ⟨W0.heap.size, 0, none⟩) sz sz] (wr.drewN mm) fun e w'' => e = .returned (.slice (some ⟨W0.heap.size, 0, none⟩) (lim (val l1 / val l2)).length sz) ∧ w'' = wr.drewN mm := by
        intro nn mm
        have := trim_in nn (some ⟨W0.heap.size, 0, none⟩) sz qs (wr.drewN mm) (hrq.below (below_drewN (Below.refl wr.heap.size wr) mm) rfl) (by omega)
        rw [hqs, htq] at this
        exact this.mono fun e w'' h => ⟨h.1, h.2.symm⟩
       have hu : ∀ nn mm, CallsIn Fence.wide nn Tryz.prog 164 #[.slice (some ⟨gu, 0, none⟩) n cu] (wr.drewN mm) fun e w'' => e = .returned (.slice (some ⟨gu, 0, none⟩) (lim R).length cu) ∧ w'' = wr.drewN mm := by
        intro nn mm
        have := trim_in nn (some ⟨gu, 0, none⟩) cu (ul'.take n) (wr.drewN mm) (hru.below (below_drewN (Below.refl wr.heap.size wr) mm) rfl) (by rw [hun]; omega)
        rw [hun, htu] at this
        exact this.mono fun e w'' h => ⟨h.1, h.2.symm⟩
       have hrt := hru.trim
       rw [htu] at hrt
       have hrqt := hrq.trim
       rw [htq] at hrqt
       have hlow : ∀ mm, Calls Tryz.prog 233 #[.slice (some ⟨gu, 0, none⟩) (lim R).length cu, .int .i64 (k : Int)] (wr.drewN mm) (RetNat (val l1 % val l2) (wr.drewN mm)) := by
        intro mm
        have h3 : (lim R).length ≤ n := by rw [← htu]; have := trim_length_le (words_take huw n); rwa [hun] at this
        have := low_calls (some ⟨gu, 0, none⟩) cu k (lim R) (wr.drewN mm) (hrt.below (below_drewN (Below.refl wr.heap.size wr) mm) rfl) hlen2 hk32 (by omega)
        rwa [val_lim, hend.2.1] at this
       clear h0 hend huv htu htq hqs hun hlt hval hql htk hR hVn
       generalize hqq : val l1 / val l2 = QQ at *
       generalize hrr : val l1 % val l2 = RR at *
       clear hqq hrr
       gi_wp2
       have hq' := fun (r x : Nat) => CallsIn.quiet_of_same (hq r x)
       have hu' := fun (r x : Nat) => CallsIn.quiet_of_same (hu r x)
       clear hq hu
       refine wpIn_region_tail 7 (by kernel_rfl) (by kernel_rfl) (by kernel_rfl) ?_
       simp only [List.take_succ_cons, List.take_zero, List.drop_succ_cons, List.drop_zero]
       repeat (gi_big_quiet_step ((gi_at_call 164; first | with_reducible exact hq' _ _ | with_reducible exact hu' _ _)))
       refine wpQuietIn_nil ?_
       intro mm
       gi_wp2_with first
        | (gi_at_call 233; refine (callsIn_wide.2 (hlow mm)).mono ?_; rintro e w6 ⟨Ar, cr, rfl, hr1, hr2, hr3⟩)
       go_ret2
       exact ⟨_, _, _, _, rfl, hlen1, hr1, hrqt.below ((below_drewN (Below.refl wr.heap.size wr) mm).trans hr3) rfl, hr2, (hb1.trans (hbl'.mono hb1.size)).trans ((below_drewN (Below.refl _ wr) mm).trans (hr3.mono (by have := hb1.size; have := hbl'.size; simp; omega)))⟩
theorem div_calls (A1 A2 : Option Addr) (c1 c2 : Nat) (l1 l2 : List Nat) (w : World) (h1 : Rd w A1 l1) (h2 : Rd w A2 l2) (hc1 : l1.length ≤ c1) (hc2 : l2.length ≤ c2) (k1 : Canon l1) (k2 : Canon l2)
 (hp : 0 < val l2) (hsm : l1.length ≤ 65536) :
 Calls Tryz.prog 206 #[.slice A1 l1.length c1, .slice A2 l2.length c2] w (RetDiv (val l1 / val l2) (val l1 % val l2) w) := by
 rcases Nat.lt_or_ge (val l1) (val l2) with h | h
 · exact div_less A1 A2 c1 c2 l1 l2 w h1 h2 hc1 hc2 k1 k2 h
 · have hl := val_pos_length hp
   rcases Nat.lt_or_ge l2.length 2 with hn | hn
   · obtain ⟨b, rfl⟩ : ∃ b, l2 = [b] := List.length_eq_one_iff.1 (by omega)
     exact div_one A1 A2 c1 c2 l1 b w h1 h2 hc1 hc2 k1 k2 h (by omega)
   · exact div_long A1 A2 c1 c2 l1 l2 w h1 h2 hc1 hc2 k1 k2 h hn hsm
end Nm
end Go.Proofs.YtjghnghceeijeaaGreatDoor
