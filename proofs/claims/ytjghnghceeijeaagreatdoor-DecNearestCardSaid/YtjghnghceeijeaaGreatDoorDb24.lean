/-
  Contracts of the walks below.
-/
import Derived.Test.YtjghnghceeijeaaGreatDoorDb23
set_option maxRecDepth 100000
set_option maxHeartbeats 4000000
set_option linter.unusedVariables false
set_option linter.unusedSimpArgs false
namespace Go.Proofs.YtjghnghceeijeaaGreatDoor
namespace Dc
open Go
section
variable {P : Program} {ops : Array Oper} {Q : Exit → Act → World → Prop} {md : Region.Mode} {S : World → Prop} {late : List Nat}
def wpAnyF (P : Program) (md : Region.Mode) (ops : Array Oper) (Q : Exit → Act → World → Prop) (S : World → Prop) (late : List Nat) : Nat → Array Bool → Act → World → Prop
 | 0, listed, a, w => Region.ready md ops listed = [] ∧ Q .normal a w
 | fuel + 1, listed, a, w =>
  (Region.ready md ops listed = [] → Q .normal a w) ∧
  ∀ i ∈ Region.ready md ops listed, wpOp P ops Q i (fun a' w' => (i ∈ late ∨ S w') ∧ wpAnyF P md ops Q S late fuel (listed.setIfInBounds i true) a' w') a w
theorem wpAny_of_F : ∀ (fuel : Nat) (listed : Array Bool) (a : Act) (w : World), wpAnyF P md ops Q S late fuel listed a w → wpAny P md ops Q fuel listed a w
 | 0, _, _, _, h => h
 | fuel + 1, _, _, _, h => ⟨h.1, fun i hi => wpOp_mono (fun a' w' h' => wpAny_of_F fuel _ a' w' h'.2) (h.2 i hi)⟩
def Shut' (md : Region.Mode) (ops : Array Oper) (listed : Array Bool) : Prop :=
 ∀ j o, ops[j]? = some o → listed.getD j true = true → ∀ e ∈ o.after, Region.binds md e = true → listed.getD e.on false = true
def waitsF (md : Region.Mode) (ops : Array Oper) (i : Nat) : Nat → Nat → Bool
 | 0, _ => false
 | n + 1, k => match ops[k]? with | some o => o.after.any (fun e => Region.binds md e && (e.on == i || waitsF md ops i n e.on)) | none => false
theorem waitsF_not {i : Nat} {listed : Array Bool} (hs : Shut' md ops listed) (hu : listed.getD i false = false) : ∀ n k, waitsF md ops i n k = true → ∃ o, ops[k]? = some o ∧ ∃ e ∈ o.after, Region.binds md e = true ∧ listed.getD e.on false = false := by
 intro n
 induction n with
 | zero => intro k h; cases h
 | succ n ih =>
  intro k h
  unfold waitsF at h
  split at h
  · rename_i o ho
    refine ⟨o, ho, ?_⟩
    simp only [Array.any_eq_true] at h
    obtain ⟨m, hm, hb⟩ := h
    rw [Bool.and_eq_true, Bool.or_eq_true, beq_iff_eq] at hb
    refine ⟨_, Array.getElem_mem hm, hb.1, ?_⟩
    rcases hb.2 with hb2 | hb2
    · rw [hb2]; exact hu
    · obtain ⟨o', ho', e', he', hb', hl'⟩ := ih _ hb2
      cases hc : listed.getD (o.after[m]).on false with
      | false => rfl
      | true =>
       have hlt : (o.after[m]).on < listed.size := by
        rcases Nat.lt_or_ge (o.after[m]).on listed.size with h' | h'
        · exact h'
        · simp [Array.getElem?_eq_none h'] at hc
       have := hs _ o' ho' (by simp [hlt] at hc ⊢; exact hc) e' he' hb'
       rw [this] at hl'; cases hl'
  · cases h
theorem waitsF_ready {i k n : Nat} {listed : Array Bool} (hs : Shut' md ops listed) (hu : listed.getD i true = false) (h : waitsF md ops i n k = true) : k ∉ Region.ready md ops listed := by
 intro hk
 have hu' : listed.getD i false = false := by
  rcases Nat.lt_or_ge i listed.size with h' | h'
  · simp [h'] at hu ⊢; exact hu
  · simp [Array.getElem?_eq_none h'] at hu
 obtain ⟨_, ok, hok, hall⟩ := mem_ready.1 hk
 obtain ⟨o, ho, e, he, hb, hl⟩ := waitsF_not hs hu' n k h
 obtain rfl : ok = o := Option.some.inj (hok.symm.trans ho)
 rw [hall e he hb] at hl
 cases hl
theorem shut_step {j : Nat} {listed : Array Bool} (hs : Shut' md ops listed) (hj : j ∈ Region.ready md ops listed) : Shut' md ops (listed.setIfInBounds j true) := by
 intro k o ho hk e he hb
 obtain ⟨_, oj, hoj, hall⟩ := mem_ready.1 hj
 refine getD_set_true ?_
 by_cases hkj : j = k
 · subst hkj
   obtain rfl : oj = o := Option.some.inj (hoj.symm.trans ho)
   exact hall e he hb
 · rw [getD_set_ne true hkj] at hk
   exact hs k o ho hk e he hb
theorem wpAnyF_first {i n : Nat} {oi : Oper} {v : Value} (hi : ops[i]? = some oi) (hsel : ∀ (j : Nat) (o : Oper) cs b, ops[j]? = some o → o.op ≠ .select cs b)
 (hQ : ∀ c a w, Q (.panic c) (a.put oi.dst v) w → Q (.panic c) a w) (hk : ∀ k ∈ late, waitsF md ops i n k = true) :
 ∀ (fuel : Nat) (listed : Array Bool) (a : Act) (w : World), Shut' md ops listed →
  (∀ j oj, ops[j]? = some oj → j ≠ i → listed.getD j true = false → (∀ e ∈ oj.after, Region.binds md e = true → e.on ≠ i) → oi.apart ops oj = true) →
  i ∈ Region.ready md ops listed → YieldsIf P ops S oi v a → S w →
  wpAnyF P md ops Q S late fuel (listed.setIfInBounds i true) (a.put oi.dst v) w → wpAnyF P md ops Q S late (fuel + 1) listed a w := by
 intro fuel
 induction fuel with
 | zero =>
  intro listed a w _ _ hr hy hS H
  refine ⟨fun h => (by rw [h] at hr; cases hr), fun j hj => ?_⟩
  by_cases hji : j = i
  · subst hji; exact hy.wpOp hi hS ⟨.inr hS, H⟩
  · have := ready_mono hj hji
    rw [H.1] at this
    cases this
 | succ fuel ih =>
  intro listed a w hsh hfree hr hy hS H
  refine ⟨fun h => (by rw [h] at hr; cases hr), fun j hj => ?_⟩
  by_cases hji : j = i
  · subst hji; exact hy.wpOp hi hS ⟨.inr hS, H⟩
  · have hjk : j ∉ late := fun hl => waitsF_ready hsh (mem_ready.1 hr).1 (hk j hl) hj
    have h1 := H.2 j (ready_mono hj hji)
    obtain ⟨hjun, oj, hoj, hall⟩ := mem_ready.1 hj
    have hnot : ∀ e ∈ oj.after, Region.binds md e = true → e.on ≠ i := fun e he hb heq => by
     have h1 := hall e he hb
     have h0 := (mem_ready.1 hr).1
     rw [heq] at h1
     rcases Nat.lt_or_ge i listed.size with h' | h'
     · simp [h'] at h0 h1; rw [h0] at h1; cases h1
     · simp [Array.getElem?_eq_none h'] at h1
    have h2 := wpOp_putIf hoj (hfree j oj hoj hji hjun hnot) (fun cs b => hsel i oi cs b hi) (fun cs b => hsel j oj cs b hoj) hQ hy h1
    have hfree' : ∀ m om, ops[m]? = some om → m ≠ i → (listed.setIfInBounds j true).getD m true = false →
     (∀ e ∈ om.after, Region.binds md e = true → e.on ≠ i) → oi.apart ops om = true := fun m om hm hmi hun hno => by
     refine hfree m om hm hmi ?_ hno
     by_cases hjm : j = m
     · subst hjm; exact hjun
     · rw [getD_set_ne true hjm] at hun; exact hun
    refine wpOp_mono (fun a' w' h3 => ?_) h2
    have hS' : S w' := h3.2.1.resolve_left hjk
    refine ⟨.inr hS', ih (listed.setIfInBounds j true) a' w' (shut_step hsh hj) hfree' (ready_mono hr (Ne.symm hji)) h3.1 hS' ?_⟩
    rw [Array.setIfInBounds_comm _ _ hji]
    exact h3.2.2
def shutB (md : Region.Mode) (ops : Array Oper) (listed : Array Bool) : Bool :=
 (List.range ops.size).all fun j => match ops[j]? with | some o => !listed.getD j true || o.after.all (fun e => !Region.binds md e || listed.getD e.on false) | none => true
theorem shutB_spec {listed : Array Bool} (h : shutB md ops listed = true) : Shut' md ops listed := by
 intro j o ho hj e he hb
 have hlt : j < ops.size := by
  rcases Nat.lt_or_ge j ops.size with h' | h'
  · exact h'
  · rw [Array.getElem?_eq_none h'] at ho; cases ho
 have h1 := List.all_eq_true.1 h j (List.mem_range.2 hlt)
 rw [ho] at h1
 simp only [hj, Bool.not_true, Bool.false_or, Array.all_eq_true'] at h1
 have h2 := h1 e he
 rw [hb] at h2
 simpa using h2
theorem wpAnyF_take {i n : Nat} {oi : Oper} {v : Value} {fuel : Nat} {listed : Array Bool} {a : Act} {w : World} (hi : ops[i]? = some oi)
 (hs : Region.noSelect ops = true) (hf : Region.free md ops listed i = true) (hr : (Region.ready md ops listed).contains i = true) (hk : (late.all fun k => waitsF md ops i n k) = true) (hsh : shutB md ops listed = true)
 (hQ : ∀ c a w, Q (.panic c) (a.put oi.dst v) w → Q (.panic c) a w) (hy : YieldsIf P ops S oi v a) (hS : S w)
 (h : wpAnyF P md ops Q S late fuel (listed.setIfInBounds i true) (a.put oi.dst v) w) : wpAnyF P md ops Q S late (fuel + 1) listed a w :=
 wpAnyF_first hi (Region.noSelect_spec hs) hQ (fun k hk' => List.all_eq_true.1 hk k hk') fuel listed a w (shutB_spec hsh) (Region.free_spec hi hf) (by simpa using hr) hy hS h
theorem wpAnyF_one {i : Nat} {o : Oper} {fuel : Nat} {listed : Array Bool} {a : Act} {w : World} (hr : Region.ready md ops listed = [i]) (ho : ops[i]? = some o)
 (h : ∀ K' : Act → World → Prop, Shut (∀ a w, (i ∈ late ∨ S w) → wpAnyF P md ops Q S late fuel (listed.setIfInBounds i true) a w → K' a w) → if Region.wanted o (yielded ops a.tmps) = true then Oper.wp P o a w K' Q else K' (a.put o.dst undef) w) : wpAnyF P md ops Q S late (fuel + 1) listed a w :=
 ⟨fun h0 => (by rw [hr] at h0; cases h0), fun j hj => by
  rw [hr] at hj
  obtain rfl : j = i := by simpa using hj
  exact wpOp_step ho (fun K' hK => h K' (fun a w hS hW => hK a w ⟨hS, hW⟩))⟩
theorem wpAnyF_two {i j : Nat} {o o' : Oper} {fuel : Nat} {listed : Array Bool} {a : Act} {w : World} (hr : Region.ready md ops listed = [i, j]) (ho : ops[i]? = some o) (ho' : ops[j]? = some o')
 (h : ∀ K' : Act → World → Prop, Shut (∀ a w, (i ∈ late ∨ S w) → wpAnyF P md ops Q S late fuel (listed.setIfInBounds i true) a w → K' a w) → if Region.wanted o (yielded ops a.tmps) = true then Oper.wp P o a w K' Q else K' (a.put o.dst undef) w)
 (h' : ∀ K' : Act → World → Prop, Shut (∀ a w, (j ∈ late ∨ S w) → wpAnyF P md ops Q S late fuel (listed.setIfInBounds j true) a w → K' a w) → if Region.wanted o' (yielded ops a.tmps) = true then Oper.wp P o' a w K' Q else K' (a.put o'.dst undef) w) : wpAnyF P md ops Q S late (fuel + 1) listed a w :=
 ⟨fun h0 => (by rw [hr] at h0; cases h0), fun k hk => by
  rw [hr] at hk
  rcases List.mem_cons.1 hk with rfl | hk
  · exact wpOp_step ho (fun K' hK => h K' (fun a w hS hW => hK a w ⟨hS, hW⟩))
  · obtain rfl : k = j := by simpa using hk
    exact wpOp_step ho' (fun K' hK => h' K' (fun a w hS hW => hK a w ⟨hS, hW⟩))⟩
theorem wpAnyF_done {listed : Array Bool} {a : Act} {w : World} (hr : Region.ready md ops listed = []) (h : Q .normal a w) :
 ∀ fuel, wpAnyF P md ops Q S late fuel listed a w
 | 0 => ⟨hr, h⟩
 | _ + 1 => ⟨fun _ => h, by rw [hr]; simp⟩
theorem pT (i : Nat) (v : Value) {oi : Oper} {fuel : Nat} {listed : Array Bool} {a : Act} {w : World} (h : wpAny P md ops Q fuel (listed.setIfInBounds i true) (a.put oi.dst v) w) (hi : ops[i]? = some oi := by rfl)
 (hs : Region.noSelect ops = true := by kernel_rfl) (hf : Region.free md ops listed i = true := by kernel_rfl) (hr : (Region.ready md ops listed).contains i = true := by kernel_rfl)
 (hQ : ∀ c a w, Q (.panic c) (a.put oi.dst v) w → Q (.panic c) a w := by exact fun _ _ _ h => h) (hy : Yields P ops oi v a := by exact Or.inl ⟨by rfl, fun w => by go_simp⟩) : wpAny P md ops Q (fuel + 1) listed a w :=
 wpAny_take hi hs hf hr hQ hy h
theorem fT (i n : Nat) (v : Value) {oi : Oper} {fuel : Nat} {listed : Array Bool} {a : Act} {w : World} (hS : S w) (h : wpAnyF P md ops Q S late fuel (listed.setIfInBounds i true) (a.put oi.dst v) w) (hi : ops[i]? = some oi := by rfl)
 (hs : Region.noSelect ops = true := by kernel_rfl) (hf : Region.free md ops listed i = true := by kernel_rfl) (hr : (Region.ready md ops listed).contains i = true := by kernel_rfl) (hk : (late.all fun k => waitsF md ops i n k) = true := by kernel_rfl) (hsh : shutB md ops listed = true := by kernel_rfl)
 (hQ : ∀ c a w, Q (.panic c) (a.put oi.dst v) w → Q (.panic c) a w := by exact fun _ _ _ h => h) (hy : YieldsIf P ops S oi v a := by exact Or.inl ⟨by rfl, fun w hSw => by (try dsimp only at hSw); go_simp⟩) : wpAnyF P md ops Q S late (fuel + 1) listed a w :=
 wpAnyF_take hi hs hf hr hk hsh hQ hy hS h
theorem aQ {α : Type} (l : List α) (i : Nat) (a : α) : l.toArray.setIfInBounds i a = (l.set i a).toArray := List.setIfInBounds_toArray ..
theorem bQ {α : Type} (x : α) (l : List α) (a : α) : (x :: l).set 0 a = a :: l := rfl
theorem cQ {α : Type} (x : α) (l : List α) (n : Nat) (a : α) : (x :: l).set (n + 1) a = x :: l.set n a := rfl
end
end Dc
end Go.Proofs.YtjghnghceeijeaaGreatDoor
namespace Go.Proofs.YtjghnghceeijeaaGreatDoor
namespace Dc
open Go.RowKit Go.Shelf Go.BigFrame Go.Proofs.YtjghnghceeijeaaGreatDoor.Nm
attribute [local go_sem] Oper.semAt_some
def RetSame (x y : Int) (m : Nat) (w : World) (e : Ending) (w' : World) : Prop :=
 ∃ s1 A1 c1 l1 s2 A2 c2 l2, e = .returned (.tuple #[iv s1 A1 l1.length c1, iv s2 A2 l2.length c2, .int .i64 (m : Int)]) ∧ IV w' s1 A1 c1 l1 x ∧ IV w' s2 A2 c2 l2 y ∧ Below w.heap.size w w'
theorem same_z (n1 n2 : Bool) (A1 A2 : Option Addr) (c1 c2 : Nat) (l1 l2 : List Nat) (z1 z2 : Int) (p q : Nat) (B1 B2 : Option Addr) (d1 d2 : Nat) (hp : p ≤ 20) (hq : q ≤ 20) (w : World) (I1 : IV w n1 A1 c1 l1 z1) (I2 : IV w n2 A2 c2 l2 z2) (f1 : Lz 40 z1) (f2 : Lz 40 z2) :
 Calls Tryz.prog 126 #[(vv 3 (p : Int) n1 A1 l1.length c1 ⟨#[]⟩ B1 0 d1), (vv 3 (q : Int) n2 A2 l2.length c2 ⟨#[]⟩ B2 0 d2)] w (RetSame (z1 * 10 ^ (max p q - p)) (z2 * 10 ^ (max p q - q)) (max p q) w) := by
 obtain ⟨W, hW, hbW, K0, K1, K2, K3, hszW⟩ := box4 w #[.int .i64 3, .int .i64 (p : Int), .bool n1, .slice A1 l1.length c1, .string ⟨#[]⟩, .slice B1 0 d1] 27 #[.int .i64 3, .int .i64 (q : Int), .bool n2, .slice A2 l2.length c2, .string ⟨#[]⟩, .slice B2 0 d2] 27 #[.bool false, .slice none 0 0] 24 #[.bool false, .slice none 0 0] 24
 obtain ⟨x0, x1, x2, x3, x4, x5⟩ := cL6 K0.h
 obtain ⟨y0, y1, y2, y3, y4, y5⟩ := cL6 K1.h
 obtain ⟨u0, u1⟩ := cL2 K2.h
 obtain ⟨v0, v1⟩ := cL2 K3.h
 have hpw := powers_z W
 obtain ⟨m, hm⟩ : ∃ m, max p q = m := ⟨_, rfl⟩
 rw [hm]
 have hmI : max (p : Int) (q : Int) = (m : Int) := by omega
 replace hm := Lib.hid hm
 obtain ⟨e1, he1⟩ : ∃ e, z1 * 10 ^ (m - p) = e := ⟨_, rfl⟩
 obtain ⟨e2, he2⟩ : ∃ e, z2 * 10 ^ (m - q) = e := ⟨_, rfl⟩
 rw [he1, he2]
 replace he1 := Lib.hid he1
 replace he2 := Lib.hid he2
 go_enter Tryz.func126, Tryz.ntmps126
 go_upto_region 2 with (go_at_call 80; refine hpw.mono ?_; rintro e w5 ⟨g, rfl, P5, b5, hg5⟩; obtain ⟨x0, x1, x2, x3, x4, x5⟩ := cL6 (K0.on b5).h; obtain ⟨y0, y1, y2, y3, y4, y5⟩ := cL6 (K1.on b5).h; obtain ⟨u0, u1⟩ := cL2 (K2.on b5).h; obtain ⟨v0, v1⟩ := cL2 (K3.on b5).h; obtain ⟨f0, f1⟩ := fZ2 (K2.on b5).h; obtain ⟨h0, h1⟩ := fZ2 (K3.on b5).h)
 go_region
 go_upto_region 3 with fail
 obtain ⟨X, hX, KX, NX, OX⟩ := storeI (s' := n1) (A' := A1) (n' := l1.length) (c' := c1) (K2.on b5)
 obtain ⟨Y, hY, KY, NY, OY⟩ := storeI (s' := n2) (A' := A2) (n' := l2.length) (c' := c2) (OX.one (K3.on b5) (by omega))
 rw [hX, hY]
 have hgW := hg5
 have P8 : Pows Y.drew g := ((P5.off OX NX (by omega)).off OY NY (by omega)).on (Below.drew (.refl _ _))
 have N8 := nudge_drew (NX.trans (NY.mono (by omega)))
 have hb5 := hbW.trans (b5.mono hbW.size)
 have J1 := (I1.on hb5).nudge N8
 have J2 := (I2.on hb5).nudge N8
 have Q0 := blk_drew (OY.one (OX.one (K0.on b5) (by omega)) (by omega))
 have Q1 := blk_drew (OY.one (OX.one (K1.on b5) (by omega)) (by omega))
 have Q2 := blk_drew (OY.one KX (by omega))
 have Q3 := blk_drew KY
 have hb8 := hb5.trans (N8.low.mono (by omega))
 have lY : W.heap.size ≤ Y.drew.heap.size := Nat.le_trans b5.size N8.low.size
 clear x0 x1 x2 x3 x4 x5 y0 y1 y2 y3 y4 y5 u0 u1 v0 v1 f0 f1 h0 h1 hX hY hW K0 K1 K2 K3 I1 I2 NX NY OX OY KX KY P5 hpw hmI
 obtain ⟨Z, hZ⟩ : ∃ Z, Y.drew = Z := ⟨_, rfl⟩
 rw [hZ] at P8 J1 J2 Q0 Q1 Q2 Q3 hb8 lY ⊢
 clear hZ N8
 have hpm : p ≤ m := by have := hm.out; omega
 have hqm : q ≤ m := by have := hm.out; omega
 have hm20 : m ≤ 20 := by have := hm.out; omega
 obtain ⟨i, hi⟩ : ∃ i, m - p = i := ⟨_, rfl⟩
 obtain ⟨j, hj⟩ : ∃ j, m - q = j := ⟨_, rfl⟩
 have hiI : IntKind.i64.wrap ((m : Int) - (p : Int)) = (i : Int) := by rw [IntKind.wrap_i64]; omega
 have hjI : IntKind.i64.wrap ((m : Int) - (q : Int)) = (j : Int) := by rw [IntKind.wrap_i64]; omega
 replace he1 := he1.out
 replace he2 := he2.out
 rw [hi] at he1
 rw [hj] at he2
 have hi21 : i < 21 := by omega
 have hj21 : j < 21 := by omega
 have T1 := fun W' (h : Below Z.heap.size Z W') => powers1_z g i hi21 W' (P8.on h)
 have T2 := fun W' (h : Below Z.heap.size Z W') => powers1_z g j hj21 W' (P8.on h)
 have M1 := fun W' (h : Below Z.heap.size Z W') s A c l (I : IV W' s A c l (10 ^ i)) => mul_z n1 s A1 A c1 c l1 l z1 (10 ^ i) W' (J1.on h) I (f1.mono (by decide)) ((lz_ten i (by omega)).mono (by decide)) ((f1.mul (lz_ten i (by omega))).mono (by decide))
 have M2 := fun W' (h : Below Z.heap.size Z W') s A c l (I : IV W' s A c l (10 ^ j)) => mul_z n2 s A2 A c2 c l2 l z2 (10 ^ j) W' (J2.on h) I (f2.mono (by decide)) ((lz_ten j (by omega)).mono (by decide)) ((f2.mul (lz_ten j (by omega))).mono (by decide))
 simp only [he1] at M1
 simp only [he2] at M2
 clear he1 he2
 generalize (10 : Int) ^ i = t1 at *
 generalize (10 : Int) ^ j = t2 at *
 obtain ⟨r0, r1⟩ := cL2 Q2.h
 obtain ⟨r2, r3⟩ := cL2 Q3.h
 have r4 := cell_at Q0.h 1 _ rfl
 have r5 := cell_at Q1.h 1 _ rfl
 clear hm hi hj hi21 hj21 hpm hqm hm20 hp hq P8 f1 f2
 go_wp2_with fail
 refine wp_region_any (by kernel_rfl) ?_
 refine pT 1 (Value.func (Fn.func 150) #[] #[Value.pointer (some ⟨g, 0, none⟩)]) ?_
 try simp only [Act.put, aQ, bQ, cQ]
 refine pT 2 (Value.int .i64 (m : Int)) ?_
 try simp only [Act.put, aQ, bQ, cQ]
 refine pT 3 (Value.pointer (some ⟨w.heap.size, 1, none⟩)) ?_
 try simp only [Act.put, aQ, bQ, cQ]
 refine pT 9 (Value.func (Fn.func 150) #[] #[Value.pointer (some ⟨g, 0, none⟩)]) ?_
 try simp only [Act.put, aQ, bQ, cQ]
 refine pT 10 (Value.int .i64 (m : Int)) ?_
 try simp only [Act.put, aQ, bQ, cQ]
 refine pT 11 (Value.pointer (some ⟨w.heap.size + 1, 1, none⟩)) ?_
 try simp only [Act.put, aQ, bQ, cQ]
 refine pT 16 (Value.int .i64 (m : Int)) ?_
 try simp only [Act.put, aQ, bQ, cQ]
 refine wpAny_of_F (S := fun w'' => w''.cell? ⟨w.heap.size + 1 + 1, 0, none⟩ = some (.bool n1) ∧ w''.cell? ⟨w.heap.size + 1 + 1, 1, none⟩ = some (.slice A1 l1.length c1) ∧ w''.cell? ⟨w.heap.size + 1 + 1 + 1, 0, none⟩ = some (.bool n2) ∧ w''.cell? ⟨w.heap.size + 1 + 1 + 1, 1, none⟩ = some (.slice A2 l2.length c2) ∧ w''.cell? ⟨w.heap.size, 1, none⟩ = some (.int .i64 (p : Int)) ∧ w''.cell? ⟨w.heap.size + 1, 1, none⟩ = some (.int .i64 (q : Int))) (late := [17, 18, 19]) _ _ _ _ ?_
 refine fT 0 6 (Value.agg #[.bool n1, .slice A1 l1.length c1]) ⟨r0, r1, r2, r3, r4, r5⟩ ?_
 try simp only [Act.put, aQ, bQ, cQ]
 refine fT 4 6 (Value.int .i64 (p : Int)) ⟨r0, r1, r2, r3, r4, r5⟩ ?_
 try simp only [Act.put, aQ, bQ, cQ]
 refine fT 5 6 (Value.int .i64 (i : Int)) ⟨r0, r1, r2, r3, r4, r5⟩ ?_
 try simp only [Act.put, aQ, bQ, cQ]
 refine fT 8 6 (Value.agg #[.bool n2, .slice A2 l2.length c2]) ⟨r0, r1, r2, r3, r4, r5⟩ ?_
 try simp only [Act.put, aQ, bQ, cQ]
 refine fT 12 6 (Value.int .i64 (q : Int)) ⟨r0, r1, r2, r3, r4, r5⟩ ?_
 try simp only [Act.put, aQ, bQ, cQ]
 refine fT 13 6 (Value.int .i64 (j : Int)) ⟨r0, r1, r2, r3, r4, r5⟩ ?_
 try simp only [Act.put, aQ, bQ, cQ]
 refine wpAnyF_one (i := 6) (by kernel_rfl) rfl (fun K hK => ?_)
 go_simp
 go_at_call 150; refine (T1 _ (below_drew (Below.refl Z.heap.size Z))).mono ?_; rintro e w6 ⟨s6, A6, c6, l6, rfl, I6, b6⟩; have q6 := (below_drew (Below.refl Z.heap.size Z)).trans b6; replace r0 := cell_at (Q2.on q6).h 0 _ rfl; replace r1 := cell_at (Q2.on q6).h 1 _ rfl; replace r2 := cell_at (Q3.on q6).h 0 _ rfl; replace r3 := cell_at (Q3.on q6).h 1 _ rfl; replace r4 := cell_at (Q0.on q6).h 1 _ rfl; replace r5 := cell_at (Q1.on q6).h 1 _ rfl
 go_wp2_with fail
 refine hK.out _ _ (Or.inr ⟨r0, r1, r2, r3, r4, r5⟩) ?_
 clear hK K
 try simp only [Act.put, aQ, bQ, cQ]
 refine wpAnyF_one (i := 7) (by kernel_rfl) rfl (fun K hK => ?_)
 go_simp
 go_at_call 87; refine (M1 _ q6 _ _ _ _ I6).mono ?_; rintro e w7 ⟨s7, A7, c7, l7, rfl, I7, b7⟩; have q7 := q6.trans (b7.mono q6.size); replace r0 := cell_at (Q2.on q7).h 0 _ rfl; replace r1 := cell_at (Q2.on q7).h 1 _ rfl; replace r2 := cell_at (Q3.on q7).h 0 _ rfl; replace r3 := cell_at (Q3.on q7).h 1 _ rfl; replace r4 := cell_at (Q0.on q7).h 1 _ rfl; replace r5 := cell_at (Q1.on q7).h 1 _ rfl
 go_wp2_with fail
 refine hK.out _ _ (Or.inr ⟨r0, r1, r2, r3, r4, r5⟩) ?_
 clear hK K
 try simp only [Act.put, aQ, bQ, cQ]
 refine wpAnyF_one (i := 14) (by kernel_rfl) rfl (fun K hK => ?_)
 go_simp
 go_at_call 150; refine (T2 _ q7).mono ?_; rintro e w8 ⟨s8, A8, c8, l8, rfl, I8, b8⟩; have q8 := q7.trans (b8.mono q7.size); replace r0 := cell_at (Q2.on q8).h 0 _ rfl; replace r1 := cell_at (Q2.on q8).h 1 _ rfl; replace r2 := cell_at (Q3.on q8).h 0 _ rfl; replace r3 := cell_at (Q3.on q8).h 1 _ rfl; replace r4 := cell_at (Q0.on q8).h 1 _ rfl; replace r5 := cell_at (Q1.on q8).h 1 _ rfl
 go_wp2_with fail
 refine hK.out _ _ (Or.inr ⟨r0, r1, r2, r3, r4, r5⟩) ?_
 clear hK K
 try simp only [Act.put, aQ, bQ, cQ]
 refine wpAnyF_one (i := 15) (by kernel_rfl) rfl (fun K hK => ?_)
 go_simp
 go_at_call 87; refine (M2 _ q8 _ _ _ _ I8).mono ?_; rintro e w9 ⟨s9, A9, c9, l9, rfl, I9, b9⟩; have q9 := q8.trans (b9.mono q8.size); replace r0 := cell_at (Q2.on q9).h 0 _ rfl; replace r1 := cell_at (Q2.on q9).h 1 _ rfl; replace r2 := cell_at (Q3.on q9).h 0 _ rfl; replace r3 := cell_at (Q3.on q9).h 1 _ rfl; replace r4 := cell_at (Q0.on q9).h 1 _ rfl; replace r5 := cell_at (Q1.on q9).h 1 _ rfl; obtain ⟨g0, g1⟩ := fZ2 (Q2.on q9).h; obtain ⟨g2, g3⟩ := fZ2 (Q3.on q9).h
 go_wp2_with fail
 refine hK.out _ _ (Or.inr ⟨r0, r1, r2, r3, r4, r5⟩) ?_
 clear hK K
 try simp only [Act.put, aQ, bQ, cQ]
 refine wpAnyF_one (i := 17) (by kernel_rfl) rfl (fun K hK => ?_)
 go_simp
 refine hK.out _ _ (Or.inl (by decide)) ?_
 clear hK K
 try simp only [Act.put, aQ, bQ, cQ]
 refine wpAnyF_one (i := 18) (by kernel_rfl) rfl (fun K hK => ?_)
 go_simp
 refine hK.out _ _ (Or.inl (by decide)) ?_
 clear hK K
 try simp only [Act.put, aQ, bQ, cQ]
 refine wpAnyF_one (i := 19) (by kernel_rfl) rfl (fun K hK => ?_)
 go_simp
 refine hK.out _ _ (Or.inl (by decide)) ?_
 clear hK K
 try simp only [Act.put, aQ, bQ, cQ]
 refine wpAnyF_done (by kernel_rfl) ?_ _
 obtain ⟨X', hX, KX, NX, OX⟩ := storeI (s' := s7) (A' := A7) (n' := l7.length) (c' := c7) (Q2.on q9)
 obtain ⟨Y', hY, KY, NY, OY⟩ := storeI (s' := s9) (A' := A9) (n' := l9.length) (c' := c9) (OX.one (Q3.on q9) (by omega))
 rw [hX, hY]
 have I7' := (I7.on b8).on b9
 have N := NX.trans (NY.mono (by omega))
 clear r0 r1 r2 r3 r4 r5 g0 g1 g2 g3 T1 T2 M1 M2
 go_wp2_with fail
 exact ret_cct rfl rfl rfl rfl (OY.one KX (by omega)).h KY.h ⟨s7, A7, c7, l7, s9, A9, c9, l9, rfl, I7'.nudge N, I9.nudge N, (hb8.trans (q9.mono hb8.size)).trans (N.low.mono (by omega))⟩
theorem Off.low {w W : World} (h : Off (fun _ => False) w W) : Below w.heap.size w W := h.full
theorem made_same (f : Int → Int → Int) (hf : ∀ a b k, f (a * k) (b * k) = f a b * k) (x y : Int) (p q : Nat) (hp : IsD x p) (hq : IsD y q) : madeE (f (x * 10 ^ (max p q - p)) (y * 10 ^ (max p q - q))) (max p q) = stripE (f (unitsZ x p) (unitsZ y q)) := by
 have h := made_units x y p q hp.lo hp.hi hq.hi f hf
 unfold stripE madeE
 rw [h]
 rfl
theorem two_no {a b : VA} {x : DR} (h : (a.ok && b.ok) = false) : two a b x = err 2 := by unfold two; rw [if_neg (by rw [h]; decide)]
theorem two_ok {a b : VA} {x : DR} (h : (a.ok && b.ok) = true) : two a b x = x := by unfold two; rw [if_pos h]
theorem one_no {a : VA} {x : DR} (h : a.ok = false) : one a x = err 2 := by unfold one; rw [if_neg (by rw [h]; decide)]
theorem one_ok {a : VA} {x : DR} (h : a.ok = true) : one a x = x := by unfold one; rw [if_pos h]
theorem IsD.lz {z : Int} {p : Nat} (h : IsD z p) : Lz 40 z := ⟨h.len⟩
theorem bare_err (e : Int) : Bare (err e) := fun _ => ⟨rfl, rfl⟩
theorem bare_made (z : Int) (p : Nat) : Bare (madeE z p) := by
 unfold madeE
 split
 · exact fun h => absurd rfl h
 · exact bare_err 3
theorem bare_two {a b : VA} {x : DR} (h : Bare x) : Bare (two a b x) := by
 unfold two
 split
 · exact h
 · exact bare_err 2
theorem bare_one {a : VA} {x : DR} (h : Bare x) : Bare (one a x) := by
 unfold one
 split
 · exact h
 · exact bare_err 2
theorem exact1_add_no (a b : VA) (ga gb go : Nat) (w : World) (Ka : Blk w ga #[.int .i64 a.k, .int .i64 a.p, .bool a.s, .slice a.A a.l.length a.c, .string a.S, .slice a.B a.m a.d] 27) (Kb : Blk w gb #[.int .i64 b.k, .int .i64 b.p, .bool b.s, .slice b.A b.l.length b.c, .string b.S, .slice b.B b.m b.d] 27) (ha : a.At w) (hb : b.At w) (hno : (a.ok && b.ok) = false) :
 Calls Tryz.prog 196 #[.pointer (some ⟨ga, 0, none⟩), .pointer (some ⟨gb, 0, none⟩), .pointer (some ⟨go, 0, none⟩)] w (PostV (fun _ => False) (err 2) w) := by
 obtain ⟨W, hW, hbW, K0, hszW⟩ := box1 w (vcells 0 0 false none 0 0 ⟨#[]⟩ none 0 0) 27
 have hdc := decimals_c W.heap.size [a, b] (W.alloc (.cells #[.int .i64 a.k, .int .i64 a.p, .bool a.s, .slice a.A a.l.length a.c, .string a.S, .slice a.B a.m a.d, .int .i64 b.k, .int .i64 b.p, .bool b.s, .slice b.A b.l.length b.c, .string b.S, .slice b.B b.m b.d] 27)) (by simp) (vals_two a b _ _ ⟨World.alloc_heap_new W _⟩ ((ha.on hbW).on (al1 W _)) ((hb.on hbW).on (al1 W _))) (by simp)
 rw [decE_two, if_neg (by rw [hno]; decide)] at hdc
 clear hno
 obtain ⟨x0, x1, x2, x3, x4, x5⟩ := cL6 (Ka.on hbW).h
 obtain ⟨y0, y1, y2, y3, y4, y5⟩ := cL6 (Kb.on hbW).h
 clear hszW
 go_enter Tryz.func196, Tryz.ntmps196
 go_wp2_with (go_at_call 77; refine hdc.mono ?_; rintro e w5 ⟨hw, b5⟩; obtain rfl := hw.2 (by decide))
 exact ⟨rfl, PostV.no rfl (by decide) (.of_below (hbW.trans (((al1 W _).trans (b5.mono (al1 W _).size)).mono hbW.size)))⟩
theorem exact1_add (n1 n2 : Bool) (A1 A2 : Option Addr) (c1 c2 : Nat) (l1 l2 : List Nat) (z1 z2 : Int) (p q : Nat) (B1 B2 : Option Addr) (d1 d2 ga gb go : Nat) (w : World) (Ka : Blk w ga #[.int .i64 3, .int .i64 (p : Int), .bool n1, .slice A1 l1.length c1, .string ⟨#[]⟩, .slice B1 0 d1] 27) (Kb : Blk w gb #[.int .i64 3, .int .i64 (q : Int), .bool n2, .slice A2 l2.length c2, .string ⟨#[]⟩, .slice B2 0 d2] 27) (Ko : Blk w go #[Value.func (.func 91) #[] #[]] 55) (I1 : IV w n1 A1 c1 l1 z1) (I2 : IV w n2 A2 c2 l2 z2) (D1 : IsD z1 p) (D2 : IsD z2 q) :
 Calls Tryz.prog 196 #[.pointer (some ⟨ga, 0, none⟩), .pointer (some ⟨gb, 0, none⟩), .pointer (some ⟨go, 0, none⟩)] w (PostV (fun _ => False) (stripE (unitsZ z1 p + unitsZ z2 q)) w) := by
 obtain ⟨W, hW, hbW, K0, hszW⟩ := box1 w (vcells 0 0 false none 0 0 ⟨#[]⟩ none 0 0) 27
 have ha : (VA.mk 3 (p : Int) n1 A1 c1 l1 ⟨#[]⟩ B1 0 d1).At W := ⟨(I1.on hbW).rd, I1.cap⟩
 have hb : (VA.mk 3 (q : Int) n2 A2 c2 l2 ⟨#[]⟩ B2 0 d2).At W := ⟨(I2.on hbW).rd, I2.cap⟩
 have hdc := decimals_c W.heap.size [(VA.mk 3 (p : Int) n1 A1 c1 l1 ⟨#[]⟩ B1 0 d1), (VA.mk 3 (q : Int) n2 A2 c2 l2 ⟨#[]⟩ B2 0 d2)] (W.alloc (.cells #[.int .i64 3, .int .i64 (p : Int), .bool n1, .slice A1 l1.length c1, .string ⟨#[]⟩, .slice B1 0 d1, .int .i64 3, .int .i64 (q : Int), .bool n2, .slice A2 l2.length c2, .string ⟨#[]⟩, .slice B2 0 d2] 27)) (by simp) (vals_two (VA.mk 3 (p : Int) n1 A1 c1 l1 ⟨#[]⟩ B1 0 d1) (VA.mk 3 (q : Int) n2 A2 c2 l2 ⟨#[]⟩ B2 0 d2) _ _ ⟨World.alloc_heap_new W _⟩ (ha.on (al1 W _)) (hb.on (al1 W _))) (by simp)
 rw [decE_two, VA.ok_made I1.isZ D1, VA.ok_made I2.isZ D2, Bool.and_self, if_pos rfl] at hdc
 have hsm := fun W' (h : Below W.heap.size W W') => same_z n1 n2 A1 A2 c1 c2 l1 l2 z1 z2 p q B1 B2 d1 d2 D1.hi D2.hi W' ((I1.on hbW).on h) ((I2.on hbW).on h) D1.lz D2.lz
 obtain ⟨m, hm⟩ : ∃ m, max p q = m := ⟨_, rfl⟩
 have hm20 : m ≤ 20 := by have := D1.hi; have := D2.hi; omega
 have e1 : Lz 43 (z1 * 10 ^ (max p q - p)) := D1.lz.mul (lz_ten _ (by have := D1.hi; have := D2.hi; omega))
 have e2 : Lz 43 (z2 * 10 ^ (max p q - q)) := D2.lz.mul (lz_ten _ (by have := D1.hi; have := D2.hi; omega))
 have hE := made_same (fun a b => a + b) (fun a b k => by rw [Int.add_mul]) z1 z2 p q D1 D2
 rw [← hE]
 rw [hm] at hsm e1 e2 ⊢
 generalize z1 * 10 ^ (m - p) = x at *
 generalize z2 * 10 ^ (m - q) = y at *
 have hop := fun W' s A c l s' A' c' l' (I : IV W' s A c l x) (I' : IV W' s' A' c' l' y) => add_z s s' A A' c c' l l' x y W' I I' (e1.mono (by decide)) (e2.mono (by decide)) ((e1.add e2).mono (by decide))
 have hmd := fun W' s A c l (I : IV W' s A c l (x + y)) => made_z s A c l (x + y) m hm20 W' I ((e1.add e2).mono (by decide))
 obtain ⟨E, hE2⟩ : ∃ E, madeE (x + y) m = E := ⟨_, rfl⟩
 rw [hE2] at hmd ⊢
 generalize x + y = xy at *
 clear hE hE2 hm hm20 e1 e2 D1 D2 ha hb
 obtain ⟨x0, x1, x2, x3, x4, x5⟩ := cL6 (Ka.on hbW).h
 obtain ⟨y0, y1, y2, y3, y4, y5⟩ := cL6 (Kb.on hbW).h
 have o0 := cell_at (Ko.on hbW).h 0 _ rfl
 have a1 := al1 W (.cells #[.int .i64 3, .int .i64 (p : Int), .bool n1, .slice A1 l1.length c1, .string ⟨#[]⟩, .slice B1 0 d1, .int .i64 3, .int .i64 (q : Int), .bool n2, .slice A2 l2.length c2, .string ⟨#[]⟩, .slice B2 0 d2] 27)
 by_cases h0 : E.2.2 = 0
 all_goals
  replace hszW := Lib.hid hszW
  go_enter Tryz.func196, Tryz.ntmps196
  go_wp2_with first
   | (go_at_call 85; have hmark := I8; refine (hmd _ _ _ _ _ I8).mono ?_; rintro e w9 ⟨o9, p9, p9'⟩; first | (obtain ⟨v, rfl, s9, A9, c9, l9, rfl, I9⟩ := p9 h0; rw [kd_ok h0]; have q9 := q8.trans (o9.full.mono q8.size); obtain ⟨u0, u1, u2, u3, u4, u5⟩ := cL6 (K0.on q9).h; obtain ⟨f0, f1, f2, f3, f4, f5⟩ := fZ6 (K0.on q9).h) | (obtain rfl := p9' h0; have q9 := q8.trans (o9.full.mono q8.size)))
   | (go_at_call 91; have hmark := I6; refine (hop _ _ _ _ _ _ _ _ _ (iv_up (iv_up I6)) (iv_up (iv_up I7))).mono ?_; rintro e w8 ⟨s8, A8, c8, l8, rfl, I8, b8⟩; have q8 := below_via (below_al (below_al q6 _) _) b8)
   | (go_at_call 126; have hmark := q5; refine (hsm _ q5).mono ?_; rintro e w6 ⟨s6, A6, c6, l6, s7, A7, c7, l7, rfl, I6, I7, b6⟩; have q6 := q5.trans (b6.mono q5.size); have oo := cell_at ((Ko.on hbW).on q6).h 0 _ rfl; have o9 := fun o o' => cell_al o' (cell_al o oo))
   | (go_at_call 77; refine hdc.mono ?_; rintro e w5 ⟨hw, b5⟩; obtain rfl := hw.1 rfl; have q5 := a1.trans (b5.mono a1.size); obtain ⟨x0, x1, x2, x3, x4, x5⟩ := cL6 ((Ka.on hbW).on q5).h; obtain ⟨y0, y1, y2, y3, y4, y5⟩ := cL6 ((Kb.on hbW).on q5).h; have o0 := cell_at ((Ko.on hbW).on q5).h 0 _ rfl)
 · obtain ⟨X, hX, KX, NX, OX⟩ := storeV (k' := 3) (p' := (E.2.1 : Int)) (s' := s9) (A' := A9) (n' := l9.length) (c' := c9) (S' := ⟨#[]⟩) (B' := none) (m' := 0) (d' := 0) (K0.on q9)
   rw [hX]
   have hb9 := hbW.trans (q9.mono hbW.size)
   exact ret_cellT rfl Tryz.underlying27 val_size rfl rfl KX.h rfl ⟨.of_below (hb9.trans (NX.low.mono (by omega))), fun _ => ⟨_, rfl, s9, A9, c9, l9, by rw [kd_ok h0], I9.nudge NX⟩, fun h => absurd h0 h⟩
 · exact ⟨rfl, .of_below (hbW.trans (q9.mono hbW.size)), fun h => absurd h h0, fun _ => rfl⟩
theorem VA.destruct {x : VA} (hw : Words x.l) (h : x.ok = true) : ∃ (p : Nat) (s : Bool) (A : Option Addr) (c : Nat) (l : List Nat) (B : Option Addr) (d : Nat), x = VA.mk 3 (p : Int) s A c l ⟨#[]⟩ B 0 d ∧ IsZ s l x.z ∧ IsD x.z p ∧ x.u = unitsZ x.z p ∧ x.q = p := by
 have o := VA.open' hw h
 obtain ⟨k, p, s, A, c, l, S, B, m, d⟩ := x
 obtain ⟨hk, hS, hm, hp, hz, hd⟩ := o
 dsimp only at hk hS hm hp hz
 subst hk hS hm
 exact ⟨_, s, A, c, l, B, d, by rw [hp]; rfl, hz, hd, rfl, rfl⟩
theorem bare_strip (u : Int) : Bare (stripE u) := bare_made u 20
theorem exact1_add_all (a b : VA) (ga gb go : Nat) (w : World) (Ka : Blk w ga #[.int .i64 a.k, .int .i64 a.p, .bool a.s, .slice a.A a.l.length a.c, .string a.S, .slice a.B a.m a.d] 27) (Kb : Blk w gb #[.int .i64 b.k, .int .i64 b.p, .bool b.s, .slice b.A b.l.length b.c, .string b.S, .slice b.B b.m b.d] 27) (Ko : Blk w go #[Value.func (.func 91) #[] #[]] 55) (ha : a.At w) (hb : b.At w) :
 Calls Tryz.prog 196 #[.pointer (some ⟨ga, 0, none⟩), .pointer (some ⟨gb, 0, none⟩), .pointer (some ⟨go, 0, none⟩)] w (PostV (fun _ => False) (addX a b) w) := by
 unfold addX
 cases hok : (a.ok && b.ok)
 · rw [two_no hok]
   exact exact1_add_no a b ga gb go w Ka Kb ha hb hok
 · rw [two_ok hok]
   rw [Bool.and_eq_true] at hok
   obtain ⟨p, s1, A1, c1, l1, B1, d1, e1, i1, D1, u1, -⟩ := VA.destruct ha.rd.words hok.1
   obtain ⟨q, s2, A2, c2, l2, B2, d2, e2, i2, D2, u2, -⟩ := VA.destruct hb.rd.words hok.2
   rw [u1, u2]
   generalize a.z = za at *
   generalize b.z = zb at *
   subst e1 e2
   exact exact1_add s1 s2 A1 A2 c1 c2 l1 l2 za zb p q B1 B2 d1 d2 ga gb go w Ka Kb Ko ⟨ha.rd, ha.cap, i1⟩ ⟨hb.rd, hb.cap, i2⟩ D1 D2
theorem exact_add (a b : VA) (w : World) (ha : a.At w) (hb : b.At w) :
 Calls Tryz.prog 120 #[a.val, b.val, Value.func (.func 91) #[] #[]] w (RetV (addX a b) w) := by
 have hmf := mkf
 obtain ⟨W, hW, hbW, K0, K1, K2, K3, hszW⟩ := box4 w #[.int .i64 a.k, .int .i64 a.p, .bool a.s, .slice a.A a.l.length a.c, .string a.S, .slice a.B a.m a.d] 27 #[.int .i64 b.k, .int .i64 b.p, .bool b.s, .slice b.A b.l.length b.c, .string b.S, .slice b.B b.m b.d] 27 #[Value.func (.func 91) #[] #[]] 55 (vcells 0 0 false none 0 0 ⟨#[]⟩ none 0 0) 27
 have hv := value_calls (fun _ => False) 196 #[.pointer (some ⟨w.heap.size, 0, none⟩), .pointer (some ⟨w.heap.size + 1, 0, none⟩), .pointer (some ⟨w.heap.size + 1 + 1, 0, none⟩)] (enters_of Tryz.func196 (by kernel_rfl) rfl) (addX a b) (bare_two (bare_strip _)) W (fun _ h => h.elim) (fun _ => True) (fun W' h => Calls.mono (exact1_add_all a b _ _ _ W' (K0.on h) (K1.on h) (K2.on h) ((ha.on hbW).on h) ((hb.on hbW).on h)) fun _ _ h => ⟨h, trivial⟩)
 obtain ⟨x, hx⟩ : ∃ x, addX a b = x := ⟨_, rfl⟩
 rw [hx] at hv ⊢
 obtain ⟨z, p, er⟩ := x
 dsimp only at hv
 clear hx
 replace hszW := Lib.hid hszW
 go_enter Tryz.func120, Tryz.ntmps120
 go_wp2_with (go_at_call 75; refine hv.mono ?_; rintro e w5 ⟨⟨v, rfl, s5, A5, c5, l5, rfl, I5⟩, o5, -⟩; have K5 := K3.on o5.full; obtain ⟨u0, u1, u2, u3, u4, u5⟩ := cL6 K5.h; obtain ⟨f0, f1, f2, f3, f4, f5⟩ := fZ6 K5.h)
 obtain ⟨X, hX, KX, NX, OX⟩ := storeV (k' := kd (z, p, er)) (p' := (p : Int)) (s' := s5) (A' := A5) (n' := l5.length) (c' := c5) (S' := ⟨#[]⟩) (B' := none) (m' := 0) (d' := 0) K5
 rw [hX]
 have hb5 := hbW.trans (o5.full.mono hbW.size)
 exact ret_cellT_tmp rfl Tryz.underlying27 val_size rfl rfl KX.h rfl ⟨_, rfl, ⟨s5, A5, c5, l5, rfl, I5.nudge NX⟩, hb5.trans (NX.low.mono (by omega))⟩
theorem DAdd_calls (a b : VA) (w : World) (ha : a.At w) (hb : b.At w) :
 Calls Tryz.prog 38 #[a.val, b.val] w (RetV (addX a b) w) := by
 obtain ⟨W, hW, hbW, K0, K1, K2, hszW⟩ := box3 w #[.int .i64 a.k, .int .i64 a.p, .bool a.s, .slice a.A a.l.length a.c, .string a.S, .slice a.B a.m a.d] 27 #[.int .i64 b.k, .int .i64 b.p, .bool b.s, .slice b.A b.l.length b.c, .string b.S, .slice b.B b.m b.d] 27 (vcells 0 0 false none 0 0 ⟨#[]⟩ none 0 0) 27
 obtain ⟨x0_0, x0_1, x0_2, x0_3, x0_4, x0_5⟩ := cL6 K0.h
 obtain ⟨x1_0, x1_1, x1_2, x1_3, x1_4, x1_5⟩ := cL6 K1.h
 have hv := exact_add a b W (ha.on hbW) (hb.on hbW)
 obtain ⟨x, hx⟩ : ∃ x, addX a b = x := ⟨_, rfl⟩
 rw [hx] at hv ⊢
 obtain ⟨z, p, er⟩ := x
 clear hx
 replace hszW := Lib.hid hszW
 go_enter Tryz.func38, Tryz.ntmps38
 go_wp2_with (go_at_call 120; refine hv.mono ?_; rintro e w5 ⟨v, rfl, ⟨s5, A5, c5, l5, rfl, I5⟩, b5⟩; have o5 : Off (fun _ => False) W w5 := .of_below b5; have K5 := K2.on b5; obtain ⟨u0, u1, u2, u3, u4, u5⟩ := cL6 K5.h; obtain ⟨f0, f1, f2, f3, f4, f5⟩ := fZ6 K5.h)
 obtain ⟨X, hX, KX, NX, OX⟩ := storeV (k' := kd (z, p, er)) (p' := (p : Int)) (s' := s5) (A' := A5) (n' := l5.length) (c' := c5) (S' := ⟨#[]⟩) (B' := none) (m' := 0) (d' := 0) K5
 rw [hX]
 have hb5 := hbW.trans (o5.full.mono hbW.size)
 exact ret_cellT_tmp rfl Tryz.underlying27 val_size rfl rfl KX.h rfl ⟨_, rfl, ⟨s5, A5, c5, l5, rfl, I5.nudge NX⟩, hb5.trans (NX.low.mono (by omega))⟩
theorem cell_ne {W : World} {g j o i : Nat} {v x : Value} (hne : g ≠ j) (h : W.cell? ⟨g, o, none⟩ = some x) : (W.setCell ⟨j, i, none⟩ v).cell? ⟨g, o, none⟩ = some x := cell_set_ne h hne
theorem drew6 {W : World} {a0 a1 a2 a3 a4 a5 : Addr} {x0 x1 x2 x3 x4 x5 : Option Value} (h : W.cell? a0 = x0 ∧ W.cell? a1 = x1 ∧ W.cell? a2 = x2 ∧ W.cell? a3 = x3 ∧ W.cell? a4 = x4 ∧ W.cell? a5 = x5) : W.drew.cell? a0 = x0 ∧ W.drew.cell? a1 = x1 ∧ W.drew.cell? a2 = x2 ∧ W.drew.cell? a3 = x3 ∧ W.drew.cell? a4 = x4 ∧ W.drew.cell? a5 = x5 := h
theorem div1_z (n1 n2 : Bool) (A1 A2 : Option Addr) (c1 c2 : Nat) (l1 l2 : List Nat) (z1 z2 : Int) (p q : Nat) (B1 B2 : Option Addr) (d1 d2 g : Nat) (hp : p ≤ 20) (hq : q ≤ 20) (w : World) (I1 : IV w n1 A1 c1 l1 z1) (I2 : IV w n2 A2 c2 l2 z2) (f1 : Lz 40 z1) (f2 : Lz 40 z2) (hP : Pows w g) :
 Calls Tryz.prog 119 #[(vv 3 (p : Int) n1 A1 l1.length c1 ⟨#[]⟩ B1 0 d1), (vv 3 (q : Int) n2 A2 l2.length c2 ⟨#[]⟩ B2 0 d2), Value.func (.func 150) #[] #[.pointer (some ⟨g, 0, none⟩)]] w (RetI2 (z1 * 10 ^ q) (z2 * 10 ^ p) w) := by
 obtain ⟨W, hW, hbW, K0, K1, K2, K3, hszW⟩ := box4 w #[.int .i64 3, .int .i64 (p : Int), .bool n1, .slice A1 l1.length c1, .string ⟨#[]⟩, .slice B1 0 d1] 27 #[.int .i64 3, .int .i64 (q : Int), .bool n2, .slice A2 l2.length c2, .string ⟨#[]⟩, .slice B2 0 d2] 27 #[.bool false, .slice none 0 0] 24 #[.bool false, .slice none 0 0] 24
 have P0 := hP.on hbW
 have J1 := I1.on hbW
 have J2 := I2.on hbW
 have T1 := fun W' (h : Below W.heap.size W W') => powers1_z g p (by omega) W' (P0.on h)
 have T2 := fun W' (h : Below W.heap.size W W') => powers1_z g q (by omega) W' (P0.on h)
 have t1 := lz_ten p (by omega)
 have t2 := lz_ten q (by omega)
 have M1 := fun W' (h : Below W.heap.size W W') s A c l (I : IV W' s A c l (10 ^ q)) => mul_z n1 s A1 A c1 c l1 l z1 (10 ^ q) W' (J1.on h) I (f1.mono (by decide)) (t2.mono (by decide)) ((f1.mul t2).mono (by decide))
 have M2 := fun W' (h : Below W.heap.size W W') s A c l (I : IV W' s A c l (10 ^ p)) => mul_z n2 s A2 A c2 c l2 l z2 (10 ^ p) W' (J2.on h) I (f2.mono (by decide)) (t1.mono (by decide)) ((f2.mul t1).mono (by decide))
 have r0 : W.cell? ⟨w.heap.size, 1, none⟩ = some (.int .i64 (p : Int)) := cell_at (K0.on (Below.refl W.heap.size W)).h 1 _ rfl
 have r1 : W.cell? ⟨w.heap.size, 2, none⟩ = some (.bool n1) := cell_at (K0.on (Below.refl W.heap.size W)).h 2 _ rfl
 have r2 : W.cell? ⟨w.heap.size, 3, none⟩ = some (.slice A1 l1.length c1) := cell_at (K0.on (Below.refl W.heap.size W)).h 3 _ rfl
 have r3 : W.cell? ⟨w.heap.size + 1, 1, none⟩ = some (.int .i64 (q : Int)) := cell_at (K1.on (Below.refl W.heap.size W)).h 1 _ rfl
 have r4 : W.cell? ⟨w.heap.size + 1, 2, none⟩ = some (.bool n2) := cell_at (K1.on (Below.refl W.heap.size W)).h 2 _ rfl
 have r5 : W.cell? ⟨w.heap.size + 1, 3, none⟩ = some (.slice A2 l2.length c2) := cell_at (K1.on (Below.refl W.heap.size W)).h 3 _ rfl
 generalize z1 * (10 : Int) ^ q = zz at *
 generalize z2 * (10 : Int) ^ p = tt at *
 generalize (10 : Int) ^ p = tp at *
 generalize (10 : Int) ^ q = tq at *
 clear t1 t2 f1 f2 hP P0 J1 J2 I1 I2
 replace hp := Lib.hid hp
 replace hq := Lib.hid hq
 go_enter Tryz.func119, Tryz.ntmps119
 go_upto_region 1 with fail
 go_region_held3 (fun w'' => w''.cell? ⟨w.heap.size, 1, none⟩ = some (.int .i64 (p : Int)) ∧ w''.cell? ⟨w.heap.size, 2, none⟩ = some (.bool n1) ∧ w''.cell? ⟨w.heap.size, 3, none⟩ = some (.slice A1 l1.length c1) ∧ w''.cell? ⟨w.heap.size + 1, 1, none⟩ = some (.int .i64 (q : Int)) ∧ w''.cell? ⟨w.heap.size + 1, 2, none⟩ = some (.bool n2) ∧ w''.cell? ⟨w.heap.size + 1, 3, none⟩ = some (.slice A2 l2.length c2)) ((first | (with_reducible exact ⟨r0, r1, r2, r3, r4, r5⟩) | (with_reducible exact drew6 ⟨r0, r1, r2, r3, r4, r5⟩) | (refine ⟨?_, ?_, ?_, ?_, ?_, ?_⟩ <;> (repeat' (with_reducible first | exact r0 | exact r1 | exact r2 | exact r3 | exact r4 | exact r5 | (apply cell_ne (by omega)))))))
  ((first
   | (go_at_call 87; have hmark := q12; refine (M2 _ q12 _ _ _ _ I12).mono ?_; rintro e w13 ⟨s13, A13, c13, l13, rfl, I13, b13⟩; clear r0 r1 r2 r3 r4 r5; have q13 := q12.trans (b13.mono q12.size); have r0 : w13.cell? ⟨w.heap.size, 1, none⟩ = some (.int .i64 (p : Int)) := cell_at (K0.on q13).h 1 _ rfl; have r1 : w13.cell? ⟨w.heap.size, 2, none⟩ = some (.bool n1) := cell_at (K0.on q13).h 2 _ rfl; have r2 : w13.cell? ⟨w.heap.size, 3, none⟩ = some (.slice A1 l1.length c1) := cell_at (K0.on q13).h 3 _ rfl; have r3 : w13.cell? ⟨w.heap.size + 1, 1, none⟩ = some (.int .i64 (q : Int)) := cell_at (K1.on q13).h 1 _ rfl; have r4 : w13.cell? ⟨w.heap.size + 1, 2, none⟩ = some (.bool n2) := cell_at (K1.on q13).h 2 _ rfl; have r5 : w13.cell? ⟨w.heap.size + 1, 3, none⟩ = some (.slice A2 l2.length c2) := cell_at (K1.on q13).h 3 _ rfl; obtain ⟨u0, u1⟩ := cL2 (K2.on q13).h; obtain ⟨v0, v1⟩ := cL2 (K3.on q13).h; obtain ⟨f0, f1⟩ := fZ2 (K2.on q13).h; obtain ⟨e0, e1⟩ := fZ2 (K3.on q13).h)
   | (go_at_call 150; have hmark := q11; refine (T1 _ q11).mono ?_; rintro e w12 ⟨s12, A12, c12, l12, rfl, I12, b12⟩; clear r0 r1 r2 r3 r4 r5; have q12 := q11.trans (b12.mono q11.size); have r0 : w12.cell? ⟨w.heap.size, 1, none⟩ = some (.int .i64 (p : Int)) := cell_at (K0.on q12).h 1 _ rfl; have r1 : w12.cell? ⟨w.heap.size, 2, none⟩ = some (.bool n1) := cell_at (K0.on q12).h 2 _ rfl; have r2 : w12.cell? ⟨w.heap.size, 3, none⟩ = some (.slice A1 l1.length c1) := cell_at (K0.on q12).h 3 _ rfl; have r3 : w12.cell? ⟨w.heap.size + 1, 1, none⟩ = some (.int .i64 (q : Int)) := cell_at (K1.on q12).h 1 _ rfl; have r4 : w12.cell? ⟨w.heap.size + 1, 2, none⟩ = some (.bool n2) := cell_at (K1.on q12).h 2 _ rfl; have r5 : w12.cell? ⟨w.heap.size + 1, 3, none⟩ = some (.slice A2 l2.length c2) := cell_at (K1.on q12).h 3 _ rfl)
   | (go_at_call 87; have hmark := q10; refine (M1 _ q10 _ _ _ _ I10).mono ?_; rintro e w11 ⟨s11, A11, c11, l11, rfl, I11, b11⟩; clear r0 r1 r2 r3 r4 r5; have q11 := q10.trans (b11.mono q10.size); have r0 : w11.cell? ⟨w.heap.size, 1, none⟩ = some (.int .i64 (p : Int)) := cell_at (K0.on q11).h 1 _ rfl; have r1 : w11.cell? ⟨w.heap.size, 2, none⟩ = some (.bool n1) := cell_at (K0.on q11).h 2 _ rfl; have r2 : w11.cell? ⟨w.heap.size, 3, none⟩ = some (.slice A1 l1.length c1) := cell_at (K0.on q11).h 3 _ rfl; have r3 : w11.cell? ⟨w.heap.size + 1, 1, none⟩ = some (.int .i64 (q : Int)) := cell_at (K1.on q11).h 1 _ rfl; have r4 : w11.cell? ⟨w.heap.size + 1, 2, none⟩ = some (.bool n2) := cell_at (K1.on q11).h 2 _ rfl; have r5 : w11.cell? ⟨w.heap.size + 1, 3, none⟩ = some (.slice A2 l2.length c2) := cell_at (K1.on q11).h 3 _ rfl)
   | (go_at_call 150; refine (T2 _ (below_drew (Below.refl W.heap.size W))).mono ?_; rintro e w10 ⟨s10, A10, c10, l10, rfl, I10, b10⟩; clear r0 r1 r2 r3 r4 r5; have q10 := (below_drew (Below.refl W.heap.size W)).trans b10; have r0 : w10.cell? ⟨w.heap.size, 1, none⟩ = some (.int .i64 (p : Int)) := cell_at (K0.on q10).h 1 _ rfl; have r1 : w10.cell? ⟨w.heap.size, 2, none⟩ = some (.bool n1) := cell_at (K0.on q10).h 2 _ rfl; have r2 : w10.cell? ⟨w.heap.size, 3, none⟩ = some (.slice A1 l1.length c1) := cell_at (K0.on q10).h 3 _ rfl; have r3 : w10.cell? ⟨w.heap.size + 1, 1, none⟩ = some (.int .i64 (q : Int)) := cell_at (K1.on q10).h 1 _ rfl; have r4 : w10.cell? ⟨w.heap.size + 1, 2, none⟩ = some (.bool n2) := cell_at (K1.on q10).h 2 _ rfl; have r5 : w10.cell? ⟨w.heap.size + 1, 3, none⟩ = some (.slice A2 l2.length c2) := cell_at (K1.on q10).h 3 _ rfl)))
 obtain ⟨X, hX, KX, NX, OX⟩ := storeI (s' := s11) (A' := A11) (n' := l11.length) (c' := c11) (K2.on q13)
 obtain ⟨Y, hY, KY, NY, OY⟩ := storeI (s' := s13) (A' := A13) (n' := l13.length) (c' := c13) (OX.one (K3.on q13) (by omega))
 rw [hX, hY]
 have N := NX.trans (NY.mono (by omega))
 have Jx := (I11.on b12).on b13
 clear r0 r1 r2 r3 r4 r5 u0 u1 v0 v1 f0 f1 e0 e1
 go_wp2_with fail
 exact ret_cc rfl rfl rfl rfl (OY.one KX (by omega)) KY ⟨s11, A11, c11, l11, s13, A13, c13, l13, rfl, Jx.nudge N, I13.nudge N, (hbW.trans (q13.mono hbW.size)).trans (N.low.mono (by omega))⟩
end Dc
end Go.Proofs.YtjghnghceeijeaaGreatDoor
