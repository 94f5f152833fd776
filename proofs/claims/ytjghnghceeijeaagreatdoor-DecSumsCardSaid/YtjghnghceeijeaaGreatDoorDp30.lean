/-
  Contracts of the walks below.
-/
import Derived.Test.YtjghnghceeijeaaGreatDoorDp18
import Derived.Test.YtjghnghceeijeaaGreatDoorDp28
import Derived.Test.YtjghnghceeijeaaGreatDoorDp29
set_option maxRecDepth 100000
set_option maxHeartbeats 4000000
set_option linter.unusedVariables false
set_option linter.unusedSimpArgs false
namespace Go.Proofs.YtjghnghceeijeaaGreatDoor
namespace Dc
open Go.RowKit Go.Shelf Go.BigFrame Go.Proofs.YtjghnghceeijeaaGreatDoor.Nm
attribute [local go_sem] Oper.semAt_some
theorem storeC4 {W : World} {g : Nat} {t : TypeId} {s s' u u' : Bool} {A A' B B' : Option Addr} {n c n' c' m d m' d' : Nat} (h : Blk W g #[.bool s, .slice A n c, .bool s', .slice A' n' c'] t) :
 ∃ X, ((((W.setCell ⟨g, 0, none⟩ (.bool u)).setCell ⟨g, 1, none⟩ (.slice B m d)).setCell ⟨g, 2, none⟩ (.bool u')).setCell ⟨g, 3, none⟩ (.slice B' m' d')) = X ∧ Blk X g #[.bool u, .slice B m d, .bool u', .slice B' m' d'] t ∧ Nudge g W X ∧ Off (fun k => k = g) W X := by
 obtain ⟨X, hX, KX, NX, OX⟩ := storeC (u := u) (B := B) (m := m) (d := d) h 0 (.inl rfl)
 rw [if_pos rfl] at KX
 obtain ⟨Y, hY, KY, NY, OY⟩ := storeC (u := u') (B := B') (m := m') (d := d') KX 2 (.inr rfl)
 rw [if_neg (by decide)] at KY
 exact ⟨Y, by rw [← hY, ← hX], KY, NX.trans NY, OX.trans OY⟩
theorem cert_size : (Tryz.prog.info? 77).map (·.size) = some 4 := by kernel_rfl
theorem ret_TTt {fn : Func} {p q u : Tmp} {T S : TypeId} {c1 c2 : Array Value} {k1 k2 : Nat} {f1 f2 : Array Field} (h : fn.results = #[.cell p T, .cell q S, .tmp u]) (hT : Tryz.prog.underlying T = some (.struct f1)) (hS : Tryz.prog.underlying S = some (.struct f2)) (i1 : (Tryz.prog.info? T).map (·.size) = some k1) (i2 : (Tryz.prog.info? S).map (·.size) = some k2)
 {a : Act} {w : World} {g1 g2 : Nat} {R : Ending → World → Prop} (hd0 : a.defers = []) (hp : a.tmps.getD p undef = .pointer (some ⟨g1, 0, none⟩)) (hq : a.tmps.getD q undef = .pointer (some ⟨g2, 0, none⟩))
 (hg1 : Blk w g1 c1 T) (hg2 : Blk w g2 c2 S) (n1 : k1 = c1.size) (n2 : k2 = c2.size) (hR : R (.returned (.tuple #[.agg c1, .agg c2, a.tmps.getD u undef])) w) : bodyPost Tryz.prog fn R .ret a w := by
 refine bodyPost_ret (v := .tuple #[.agg c1, .agg c2, a.tmps.getD u undef]) ?_ hd0 hR
 have e1 := run_loadVar_row (P := Tryz.prog) w g1 T T c1 (0, 0) _ hg1.h hT rfl (n1 ▸ i1)
 have e2 := run_loadVar_row (P := Tryz.prog) w g2 S S c2 (0, 0) _ hg2.h hS rfl (n2 ▸ i2)
 rw [Array.getD_eq_getD_getElem?] at hp hq
 simp [results, h, hp, hq, asAddr, Result.andThen, e1, e2, Sem.run_bind]
def ratX (n1 : Bool) (l1 : List Nat) (n2 : Bool) (l2 : List Nat) : DR := if ratE n1 l1 n2 l2 = 0 then stripE (nearZ (toZ n1 l1 * 10 ^ 20) (toZ n2 l2)) else err (ratE n1 l1 n2 l2)
def ratQ (n1 : Bool) (l1 : List Nat) (n2 : Bool) (l2 : List Nat) : Int := if (ratX n1 l1 n2 l2).2.2 = 0 then nearZ (toZ n1 l1 * 10 ^ 20) (toZ n2 l2) else 0
def ratR (n1 : Bool) (l1 : List Nat) (n2 : Bool) (l2 : List Nat) : Int := if (ratX n1 l1 n2 l2).2.2 = 0 then toZ n1 l1 * 10 ^ 20 - nearZ (toZ n1 l1 * 10 ^ 20) (toZ n2 l2) * toZ n2 l2 else 0
theorem bare_rat (n1 : Bool) (l1 : List Nat) (n2 : Bool) (l2 : List Nat) : Bare (ratX n1 l1 n2 l2) := by
 unfold ratX
 split
 · exact bare_strip _
 · exact bare_err _
theorem ratE_zero {n1 n2 : Bool} {l1 l2 : List Nat} (h : ratE n1 l1 n2 l2 = 0) : okI n1 l1 = true ∧ okI n2 l2 = true ∧ toZ n2 l2 ≠ 0 ∧ l1.length ≤ 290 := by
 unfold ratE at h
 split at h
 · rename_i hok
   rw [Bool.and_eq_true] at hok
   split at h
   · cases h
   · split at h
     · cases h
     · rename_i h1 h2
       exact ⟨hok.1, hok.2, h1, by omega⟩
 · cases h
def RetRat (x : DR) (q r : Int) (w : World) (e : Ending) (w' : World) : Prop :=
 ∃ v s A c l s' A' c' l', e = .returned (.tuple #[v, .agg #[.bool s, .slice A (List.length l) c, .bool s', .slice A' (List.length l') c'], .int .i64 x.2.2]) ∧ IsV x w' v ∧ IV w' s A c l q ∧ IV w' s' A' c' l' r ∧ Below w.heap.size w w'
theorem rat1_all (n1 n2 : Bool) (A1 A2 : Option Addr) (c1 c2 : Nat) (l1 l2 : List Nat) (ga gb gc : Nat) (w : World) (Ka : Blk w ga #[.bool n1, .slice A1 l1.length c1] 24) (Kb : Blk w gb #[.bool n2, .slice A2 l2.length c2] 24) (Kc : Blk w gc #[.bool false, .slice none 0 0, .bool false, .slice none 0 0] 77) (na : ga ≠ gc) (nb : gb ≠ gc) (h1 : Rd w A1 l1) (hc1 : l1.length ≤ c1) (h2 : Rd w A2 l2) (hc2 : l2.length ≤ c2) :
 Calls Tryz.prog 138 #[.pointer (some ⟨ga, 0, none⟩), .pointer (some ⟨gb, 0, none⟩), .pointer (some ⟨gc, 0, none⟩)] w fun e w' => PostV (fun k => k = gc) (ratX n1 l1 n2 l2) w e w' ∧ InCert gc (ratX n1 l1 n2 l2).2.2 (ratQ n1 l1 n2 l2) (ratR n1 l1 n2 l2) w' := by
 by_cases he : ratE n1 l1 n2 l2 = 0
 · obtain ⟨o1, o2, h0, hl⟩ := ratE_zero he
   have I1 : IV w n1 A1 c1 l1 (toZ n1 l1) := ⟨h1, hc1, (okZ_of h1.words o1).isZ⟩
   have I2 : IV w n2 A2 c2 l2 (toZ n2 l2) := ⟨h2, hc2, (okZ_of h2.words o2).isZ⟩
   have h := rat1_z n1 n2 A1 A2 c1 c2 l1 l2 _ _ ga gb gc w Ka Kb Kc na nb I1 I2 ((len_le_iff I1).1 hl) ((len_le_iff I2).1 (okZ_of h2.words o2).small) h0 he
   have hx : ratX n1 l1 n2 l2 = stripE (nearZ (toZ n1 l1 * 10 ^ 20) (toZ n2 l2)) := by unfold ratX; rw [if_pos he]
   unfold ratQ ratR
   rw [hx]
   refine h.mono fun e w' h => ⟨h.1, ?_⟩
   obtain ⟨s, A, c, l, s', A', c', l', K, hI⟩ := h.2
   refine ⟨s, A, c, l, s', A', c', l', K, fun h0 => ?_⟩
   rw [if_pos h0, if_pos h0]
   exact hI h0
 · have hx : ratX n1 l1 n2 l2 = err (ratE n1 l1 n2 l2) := by unfold ratX; rw [if_neg he]
   have h := rat1_no n1 n2 A1 A2 c1 c2 l1 l2 ga gb gc w Ka Kb h1 hc1 h2 hc2 _ rfl he
   rw [hx]
   refine h.mono ?_
   rintro e w' ⟨rfl, hb⟩
   exact ⟨PostV.no rfl he (.of_below hb), false, none, 0, [], false, none, 0, [], Kc.on hb, fun h => absurd h he⟩
theorem DRatio_calls (n1 n2 : Bool) (A1 A2 : Option Addr) (c1 c2 : Nat) (l1 l2 : List Nat) (w : World) (h1 : Rd w A1 l1) (hc1 : l1.length ≤ c1) (h2 : Rd w A2 l2) (hc2 : l2.length ≤ c2) :
 Calls Tryz.prog 65 #[iv n1 A1 l1.length c1, iv n2 A2 l2.length c2] w (RetRat (ratX n1 l1 n2 l2) (ratQ n1 l1 n2 l2) (ratR n1 l1 n2 l2) w) := by
 have hmf := mkf
 obtain ⟨W, hW, hbW, K0, K1, K2, K3, hszW⟩ := box4 w #[.bool n1, .slice A1 l1.length c1] 24 #[.bool n2, .slice A2 l2.length c2] 24 (vcells 0 0 false none 0 0 ⟨#[]⟩ none 0 0) 27 #[.bool false, .slice none 0 0, .bool false, .slice none 0 0] 77
 have hv := value_calls (fun k => k = w.heap.size + 1 + 1 + 1) 138 #[.pointer (some ⟨w.heap.size, 0, none⟩), .pointer (some ⟨w.heap.size + 1, 0, none⟩), .pointer (some ⟨w.heap.size + 1 + 1 + 1, 0, none⟩)] (enters_of Tryz.func138 (by kernel_rfl) rfl) (ratX n1 l1 n2 l2) (bare_rat _ _ _ _) W (by rintro k rfl; omega) (InCert (w.heap.size + 1 + 1 + 1) (ratX n1 l1 n2 l2).2.2 (ratQ n1 l1 n2 l2) (ratR n1 l1 n2 l2)) (fun W' h => rat1_all n1 n2 A1 A2 c1 c2 l1 l2 _ _ _ W' (K0.on h) (K1.on h) (K3.on h) (by omega) (by omega) ((h1.on hbW).on h) hc1 ((h2.on hbW).on h) hc2)
 have hq0 : (ratX n1 l1 n2 l2).2.2 ≠ 0 → ratQ n1 l1 n2 l2 = 0 ∧ ratR n1 l1 n2 l2 = 0 := fun h => ⟨by unfold ratQ; rw [if_neg h], by unfold ratR; rw [if_neg h]⟩
 generalize ratQ n1 l1 n2 l2 = q at *
 generalize ratR n1 l1 n2 l2 = r at *
 obtain ⟨x, hx⟩ : ∃ x, ratX n1 l1 n2 l2 = x := ⟨_, rfl⟩
 rw [hx] at hv hq0 ⊢
 obtain ⟨z, p, er⟩ := x
 dsimp only at hv hq0
 clear hx
 replace hszW := Lib.hid hszW
 by_cases h0 : er = 0
 · subst h0
   clear hq0
   go_enter Tryz.func65, Tryz.ntmps65
   go_upto_region 4 with (go_at_call 75; refine hv.mono ?_; rintro e w5 ⟨⟨v, rfl, s5, A5, c5, l5, rfl, I5⟩, o5, w1, hC, nC⟩; have hC5 := hC.nudge nC (by have := hszW.out; omega); have KV5 := o5.blk (by omega) K2; obtain ⟨u0, u1, u2, u3, u4, u5⟩ := cL6 KV5.h; obtain ⟨f0, f1, f2, f3, f4, f5⟩ := fZ6 KV5.h)
   obtain ⟨s6, A6, c6, l6, s7, A7, c7, l7, KC5, hI5⟩ := hC5
   obtain ⟨I6, I7⟩ := hI5 rfl
   obtain ⟨X, hX, KX, NX, OX⟩ := storeV (k' := kd (z, p, 0)) (p' := (p : Int)) (s' := s5) (A' := A5) (n' := l5.length) (c' := c5) (S' := ⟨#[]⟩) (B' := none) (m' := 0) (d' := 0) KV5
   rw [hX]
   have KCX := OX.one KC5 (by omega)
   have hb5 : Below w.heap.size w w5 := hbW.trans (o5.below (by have := hszW.out; omega) (by rintro k rfl; omega))
   clear u0 u1 u2 u3 u4 u5 f0 f1 f2 f3 f4 f5 hX
   obtain ⟨u0, u1, u2, u3, u4, u5⟩ := cL6 KX.h
   obtain ⟨v0, v1, v2, v3⟩ := cL4 KCX.h
   obtain ⟨f0, f1, f2, f3, f4, f5⟩ := fZ6 KX.h
   obtain ⟨g0, g1, g2, g3⟩ := fZ4 KCX.h
   go_region
   obtain ⟨Y, hY, KY, NY, OY⟩ := storeV (k' := kd (z, p, 0)) (p' := (p : Int)) (s' := s5) (A' := A5) (n' := l5.length) (c' := c5) (S' := ⟨#[]⟩) (B' := none) (m' := 0) (d' := 0) KX
   obtain ⟨Z, hZ, KZ, NZ, OZ⟩ := storeC4 (u := s6) (B := A6) (m := l6.length) (d := c6) (u' := s7) (B' := A7) (m' := l7.length) (d' := c7) (OY.one KCX (by omega))
   rw [hY, hZ]
   go_wp2_with fail
   have N := nudge_drew ((NX.trans (NY.mono (by omega))).trans (NZ.mono (by omega)))
   exact ret_TTt rfl Tryz.underlying27 Tryz.underlying77 val_size cert_size rfl rfl rfl (blk_drew (OZ.one KY (by omega))) (blk_drew KZ) rfl rfl ⟨_, s6, A6, c6, l6, s7, A7, c7, l7, rfl, ⟨s5, A5, c5, l5, rfl, I5.nudge N⟩, I6.nudge N, I7.nudge N, hb5.trans (N.low.mono (by omega))⟩
 · obtain ⟨rfl, rfl⟩ := hq0 h0
   have hb0 : (er != 0) = true := by rw [bne_iff_ne]; exact h0
   clear hq0 h0
   go_enter Tryz.func65, Tryz.ntmps65
   go_upto_region 3 with (go_at_call 75; refine hv.mono ?_; rintro e w5 ⟨⟨v, rfl, s5, A5, c5, l5, rfl, I5⟩, o5, w1, hC, nC⟩; have hC5 := hC.nudge nC (by have := hszW.out; omega); have KV5 := o5.blk (by omega) K2; obtain ⟨u0, u1, u2, u3, u4, u5⟩ := cL6 KV5.h; obtain ⟨f0, f1, f2, f3, f4, f5⟩ := fZ6 KV5.h)
   obtain ⟨s6, A6, c6, l6, s7, A7, c7, l7, KC5, -⟩ := hC5
   obtain ⟨X, hX, KX, NX, OX⟩ := storeV (k' := kd (z, p, er)) (p' := (p : Int)) (s' := s5) (A' := A5) (n' := l5.length) (c' := c5) (S' := ⟨#[]⟩) (B' := none) (m' := 0) (d' := 0) KV5
   rw [hX]
   have KCX := OX.one KC5 (by omega)
   have hb5 : Below w.heap.size w w5 := hbW.trans (o5.below (by have := hszW.out; omega) (by rintro k rfl; omega))
   clear u0 u1 u2 u3 u4 u5 f0 f1 f2 f3 f4 f5 hX
   obtain ⟨v0, v1, v2, v3⟩ := cL4 KCX.h
   obtain ⟨g0, g1, g2, g3⟩ := fZ4 KCX.h
   go_upto_region 4 with fail
   obtain ⟨X2, hX2, KX2, NX2, OX2⟩ := storeC4 (u := false) (B := none) (m := 0) (d := 0) (u' := false) (B' := none) (m' := 0) (d' := 0) KCX
   rw [hX2]
   have KV2 := OX2.one KX (by omega)
   clear v0 v1 v2 v3 g0 g1 g2 g3 hX2
   obtain ⟨u0, u1, u2, u3, u4, u5⟩ := cL6 KV2.h
   obtain ⟨v0, v1, v2, v3⟩ := cL4 KX2.h
   obtain ⟨f0, f1, f2, f3, f4, f5⟩ := fZ6 KV2.h
   obtain ⟨g0, g1, g2, g3⟩ := fZ4 KX2.h
   go_region
   obtain ⟨Y, hY, KY, NY, OY⟩ := storeV (k' := kd (z, p, er)) (p' := (p : Int)) (s' := s5) (A' := A5) (n' := l5.length) (c' := c5) (S' := ⟨#[]⟩) (B' := none) (m' := 0) (d' := 0) KV2
   obtain ⟨Z, hZ, KZ, NZ, OZ⟩ := storeC4 (u := false) (B := none) (m := 0) (d := 0) (u' := false) (B' := none) (m' := 0) (d' := 0) (OY.one KX2 (by omega))
   rw [hY, hZ]
   go_wp2_with fail
   have N := nudge_drew (((NX.trans (NX2.mono (by omega))).trans (NY.mono (by omega))).trans (NZ.mono (by omega)))
   exact ret_TTt rfl Tryz.underlying27 Tryz.underlying77 val_size cert_size rfl rfl rfl (blk_drew (OZ.one KY (by omega))) (blk_drew KZ) rfl rfl ⟨_, false, none, 0, [], false, none, 0, [], rfl, ⟨s5, A5, c5, l5, rfl, I5.nudge N⟩, IV.zero _, IV.zero _, hb5.trans (N.low.mono (by omega))⟩
theorem IV.small {w : World} {s : Bool} {A : Option Addr} {c : Nat} {l : List Nat} {z : Int} {k : Nat} (h : IV w s A c l z) (hl : Lz k z) (hk : k ≤ 60000) : l.length ≤ 60000 := by rw [h.len]; exact Nat.le_trans hl.len hk
theorem rof_i (n : Int) (w : World) (h1 : -9223372036854775808 ≤ n) (h2 : n < 9223372036854775808) : Calls Tryz.prog 45 #[.int .i64 n] w (RetI n w) := (ROf_calls n w h1 h2).mono fun _ _ h => .of h
theorem rtimes_i (n1 n2 : Bool) (A1 A2 : Option Addr) (c1 c2 : Nat) (l1 l2 : List Nat) (z1 z2 : Int) (w : World) (I1 : IV w n1 A1 c1 l1 z1) (I2 : IV w n2 A2 c2 l2 z2) {k j : Nat} (f1 : Lz k z1) (f2 : Lz j z2) (hk : k ≤ 60000) (hj : j ≤ 60000) :
 Calls Tryz.prog 34 #[iv n1 A1 l1.length c1, iv n2 A2 l2.length c2] w (RetI (z1 * z2) w) :=
 (Times_z n1 n2 A1 A2 c1 c2 l1 l2 z1 z2 w I1.rd I2.rd I1.cap I2.cap I1.isZ I2.isZ (Nat.le_trans (I1.small f1 hk) (by decide)) (Nat.le_trans (I2.small f2 hj) (by decide))).mono fun _ _ h => .of h
theorem rsum_i (n1 n2 : Bool) (A1 A2 : Option Addr) (c1 c2 : Nat) (l1 l2 : List Nat) (z1 z2 : Int) (w : World) (I1 : IV w n1 A1 c1 l1 z1) (I2 : IV w n2 A2 c2 l2 z2) {k j : Nat} (f1 : Lz k z1) (f2 : Lz j z2) (hk : k ≤ 60000) (hj : j ≤ 60000) :
 Calls Tryz.prog 46 #[iv n1 A1 l1.length c1, iv n2 A2 l2.length c2] w (RetI (z1 + z2) w) :=
 (Sum_calls n1 n2 A1 A2 c1 c2 l1 l2 z1 z2 w I1.rd I2.rd I1.cap I2.cap I1.isZ I2.isZ (Nat.le_trans (I1.small f1 hk) (by decide)) (Nat.le_trans (I2.small f2 hj) (by decide))).mono fun _ _ h => .of h
theorem rminus_i (n1 : Bool) (A1 : Option Addr) (c1 : Nat) (l1 : List Nat) (z1 : Int) (w : World) (I1 : IV w n1 A1 c1 l1 z1) : Calls Tryz.prog 37 #[iv n1 A1 l1.length c1] w (RetI (-z1) w) := (Minus_calls n1 A1 c1 l1 z1 w I1.rd I1.cap I1.isZ).mono fun _ _ h => .of h
theorem rcmp_i (n1 n2 : Bool) (A1 A2 : Option Addr) (c1 c2 : Nat) (l1 l2 : List Nat) (z1 z2 : Int) (w : World) (I1 : IV w n1 A1 c1 l1 z1) (I2 : IV w n2 A2 c2 l2 z2) : Calls Tryz.prog 47 #[iv n1 A1 l1.length c1, iv n2 A2 l2.length c2] w fun e w' => e = .returned (.int .i64 (cmpZ z1 z2)) ∧ Below w.heap.size w w' := RCompare_calls n1 n2 A1 A2 c1 c2 l1 l2 z1 z2 w I1.rd I2.rd I1.cap I2.cap I1.isZ I2.isZ
def RetQ (q r : Int) (w : World) (e : Ending) (w' : World) : Prop :=
 ∃ s1 A1 c1 l1 s2 A2 c2 l2, e = .returned (.agg #[.bool s1, .slice A1 (List.length l1) c1, .bool s2, .slice A2 (List.length l2) c2]) ∧ IV w' s1 A1 c1 l1 q ∧ IV w' s2 A2 c2 l2 r ∧ Below w.heap.size w w'
theorem rdiv_i (n1 n2 : Bool) (A1 A2 : Option Addr) (c1 c2 : Nat) (l1 l2 : List Nat) (z1 z2 : Int) (w : World) (I1 : IV w n1 A1 c1 l1 z1) (I2 : IV w n2 A2 c2 l2 z2) {k j : Nat} (f1 : Lz k z1) (f2 : Lz j z2) (hk : k ≤ 60000) (hj : j ≤ 60000) (h0 : 0 < z2) :
 Calls Tryz.prog 103 #[iv n1 A1 l1.length c1, iv n2 A2 l2.length c2] w (RetQ (z1 / z2) (z1 % z2) w) := by
 have h := Divide_calls n1 n2 A1 A2 c1 c2 l1 l2 z1 z2 w I1.rd I2.rd I1.cap I2.cap I1.isZ I2.isZ (by omega) (Nat.le_trans (I1.small f1 hk) (by decide)) (Nat.le_trans (I2.small f2 hj) (by decide))
 rw [divZ_pos h0, modZ_pos h0] at h
 refine h.mono ?_
 rintro e w' ⟨s1, A1, c1, l1, s2, A2, c2, l2, h1, h2, h3, h4, h5, h6, h7, h8⟩
 exact ⟨s1, A1, c1, l1, s2, A2, c2, l2, h1, ⟨h6, h4, h2⟩, ⟨h7, h5, h3⟩, h8⟩
theorem Ten_i (n : Nat) (hn : n ≤ 2820) (w : World) : Calls Tryz.prog 35 #[.int .i64 (n : Int)] w (RetI (10 ^ n) w) := by
 obtain ⟨W, hW, hbW, K0, hszW⟩ := box1 w #[.bool false, .slice none 0 0] 24
 have hof := rof_i 1 W (by decide) (by decide)
 obtain ⟨R, hR⟩ : ∃ R, (10 : Int) ^ n = R := ⟨_, rfl⟩
 rw [hR]
 replace hR := Lib.hid hR
 replace hszW := Lib.hid hszW
 go_enter Tryz.func35, Tryz.ntmps35
 go_upto_region 2 with (go_at_call 45; refine hof.mono ?_; rintro e w5 ⟨s5, A5, c5, l5, rfl, I5, b5⟩)
 obtain ⟨W6, hW6, hbW6, Q0, hszW6⟩ := box1 w5 #[.bool s5, .slice A5 l5.length c5] 24
 rw [hW6]
 have b6 := b5.trans (hbW6.mono b5.size)
 have hb6 := hbW.trans (b6.mono hbW.size)
 have K6 := K0.on b6
 have J5 := I5.on hbW6
 have lw5 : w.heap.size + 1 ≤ w5.heap.size := by have := b5.size; have := hszW.out; omega
 have lW6 := blk_lt Q0
 clear hof hW hW6 I5 K0
 go_wp2_with fail
 go_loopw [4] (fun iv Wl => ∃ (i : Nat) (s : Bool) (A : Option Addr) (c : Nat) (l : List Nat), iv = .int .i64 (i : Int) ∧ i ≤ n ∧ Blk Wl w5.heap.size #[.bool s, .slice A l.length c] 24 ∧ IV Wl s A c l (10 ^ i) ∧ Below w.heap.size w Wl ∧ Blk Wl w.heap.size #[.bool false, .slice none 0 0] 24) (fun iv _ => n - (intOf iv).toNat)
 case atStart => exact ⟨0, s5, A5, c5, l5, rfl, Nat.zero_le _, Q0, J5, hb6, K6⟩
 case round =>
  obtain ⟨i, s, A, c, l, rfl, hi, KI, II, hbl, KR⟩ := hrel
  have lwr := blk_lt KI
  clear Q0 J5 K6
  by_cases hin : i < n
  · have hiI : decide ((i : Int) < (n : Int)) = true := decide_eq_true (by omega)
    have M1 := fun W' (h : Below wr.heap.size wr W') s' A' c' l' (I : IV W' s' A' c' l' 10) => rtimes_i s s' A A' c c' l l' (10 ^ i) 10 W' (II.on h) I (lz_ten_big i (by omega)) (Lz.small (k := 1) (by decide) (by decide)) (by decide) (by decide)
    have e1 : (10 : Int) ^ i * 10 = 10 ^ (i + 1) := (Int.pow_succ ..).symm
    rw [e1] at M1
    clear e1
    obtain ⟨t1, ht1⟩ : ∃ t1, (10 : Int) ^ (i + 1) = t1 := ⟨_, rfl⟩
    rw [ht1] at M1
    replace ht1 := Lib.hid ht1
    go_upto_region 5 with fail
    obtain ⟨g0, g1⟩ := cL2 KI.h
    refine wp_region_any (by kernel_rfl) ?_
    refine wpAny_of_F (S := fun w'' => w''.cell? ⟨w5.heap.size, 0, none⟩ = some (.bool s) ∧ w''.cell? ⟨w5.heap.size, 1, none⟩ = some (.slice A l.length c)) (late := [3]) _ _ _ _ ?_
    refine fT 0 6 (Value.agg #[.bool s, .slice A l.length c]) ⟨g0, g1⟩ ?_
    try simp only [Act.put, aQ, bQ, cQ]
    refine wpAnyF_one (i := 1) (by kernel_rfl) rfl (fun K hK => ?_)
    go_simp
    go_at_call 45; refine (rof_i 10 _ (by decide) (by decide)).mono ?_; rintro e w11 ⟨s11, A11, c11, l11, rfl, I11, b11⟩; have q11 := (below_drew (Below.refl wr.heap.size wr)).trans b11; replace g0 := cell_at (KI.on q11).h 0 _ rfl; replace g1 := cell_at (KI.on q11).h 1 _ rfl
    go_wp2_with fail
    refine hK.out _ _ (Or.inr ⟨g0, g1⟩) ?_
    clear hK K
    try simp only [Act.put, aQ, bQ, cQ]
    refine wpAnyF_one (i := 2) (by kernel_rfl) rfl (fun K hK => ?_)
    go_simp
    go_at_call 34; refine (M1 _ q11 _ _ _ _ I11).mono ?_; rintro e w12 ⟨s12, A12, c12, l12, rfl, I12, b12⟩; have q12 := q11.trans (b12.mono q11.size); replace g0 := cell_at (KI.on q12).h 0 _ rfl; replace g1 := cell_at (KI.on q12).h 1 _ rfl; obtain ⟨j0, j1⟩ := fZ2 (KI.on q12).h
    go_wp2_with fail
    refine hK.out _ _ (Or.inr ⟨g0, g1⟩) ?_
    clear hK K
    try simp only [Act.put, aQ, bQ, cQ]
    refine wpAnyF_one (i := 3) (by kernel_rfl) rfl (fun K hK => ?_)
    go_simp
    refine hK.out _ _ (Or.inl (by decide)) ?_
    clear hK K
    try simp only [Act.put, aQ, bQ, cQ]
    refine wpAnyF_done (by kernel_rfl) ?_ _
    obtain ⟨X, hX, KX, NX, OX⟩ := storeI (s' := s12) (A' := A12) (n' := l12.length) (c' := c12) (KI.on q12)
    rw [hX]
    have RX := OX.one (KR.on q12) (by omega)
    have hbX := (hbl.trans (q12.mono hbl.size)).trans (NX.low.mono (by omega))
    clear g0 g1 j0 j1 hX M1
    go_wp2_with fail
    go_roundw
    case rel => exact ⟨i + 1, s12, A12, c12, l12, by simp, by omega, KX, by rw [ht1.out]; exact I12.nudge NX, hbX, RX⟩
    case measure => simp only [intOf]; omega
  · obtain rfl : i = n := by omega
    obtain ⟨g0, g1⟩ := cL2 KI.h
    obtain ⟨r0, r1⟩ := cL2 KR.h
    obtain ⟨f0, f1⟩ := fZ2 KR.h
    rw [hR.out] at II
    go_wp2_with fail
    exact ret_cell rfl rfl rfl (set_blk (set_blk KR.h 0 _) 1 _) (retI_end II KR hbl (by omega))
theorem same_c (n1 n2 : Bool) (A1 A2 : Option Addr) (c1 c2 : Nat) (l1 l2 : List Nat) (z1 z2 : Int) (k1 p1 k2 p2 : Int) (B1 B2 : Option Addr) (d1 d2 : Nat) (w : World) (I1 : IV w n1 A1 c1 l1 z1) (I2 : IV w n2 A2 c2 l2 z2) :
 Calls Tryz.prog 27 #[(vv k1 p1 n1 A1 l1.length c1 ⟨#[]⟩ B1 0 d1), (vv k2 p2 n2 A2 l2.length c2 ⟨#[]⟩ B2 0 d2)] w fun e w' => e = .returned (.bool (decide (k1 = k2) && decide (p1 = p2) && decide (z1 = z2))) ∧ Below w.heap.size w w' := by
 obtain ⟨W, hW, hbW, K0, K1, hszW⟩ := box2 w #[.int .i64 k1, .int .i64 p1, .bool n1, .slice A1 l1.length c1, .string ⟨#[]⟩, .slice B1 0 d1] 27 #[.int .i64 k2, .int .i64 p2, .bool n2, .slice A2 l2.length c2, .string ⟨#[]⟩, .slice B2 0 d2] 27
 obtain ⟨x0, x1, x2, x3, x4, x5⟩ := cL6 K0.h
 obtain ⟨y0, y1, y2, y3, y4, y5⟩ := cL6 K1.h
 have hs := Same_calls n1 n2 A1 A2 c1 c2 l1 l2 W (I1.on hbW).rd (I2.on hbW).rd I1.cap I2.cap
 rw [sameI_z I1.isZ I2.isZ] at hs
 have hss : (ByteArray.toList (⟨#[]⟩ : ByteArray) == ByteArray.toList (⟨#[]⟩ : ByteArray)) = true := beq_self_eq_true _
 generalize decide (z1 = z2) = bz at *
 by_cases hk : k1 = k2
 · by_cases hp : p1 = p2
   · subst hk hp
     have e1 : (k1 == k1) = true := beq_self_eq_true _
     have e2 : (p1 == p1) = true := beq_self_eq_true _
     rw [decide_eq_true rfl, decide_eq_true rfl, Bool.true_and, Bool.true_and]
     go_enter Tryz.func27, Tryz.ntmps27
     go_wp2_with (go_at_call 67; refine hs.mono ?_; rintro e w5 ⟨rfl, b5⟩)
     go_ret
     exact ⟨rfl, hbW.trans (b5.mono hbW.size)⟩
   · subst hk
     have e1 : (k1 == k1) = true := beq_self_eq_true _
     have e2 : (p1 == p2) = false := beq_eq_false_iff_ne.2 hp
     rw [decide_eq_true rfl, decide_eq_false hp, Bool.true_and, Bool.false_and]
     clear hs hp
     go_enter Tryz.func27, Tryz.ntmps27
     go_wp2_with fail
     go_ret
     exact ⟨rfl, hbW⟩
 · have e1 : (k1 == k2) = false := beq_eq_false_iff_ne.2 hk
   rw [decide_eq_false hk, Bool.false_and, Bool.false_and]
   clear hs hk
   go_enter Tryz.func27, Tryz.ntmps27
   go_wp2_with fail
   go_ret
   exact ⟨rfl, hbW⟩
theorem rzero_c (n1 : Bool) (A1 : Option Addr) (c1 : Nat) (l1 : List Nat) (z1 : Int) (w : World) (I1 : IV w n1 A1 c1 l1 z1) :
 Calls Tryz.prog 93 #[iv n1 A1 l1.length c1] w fun e w' => e = .returned (.bool (decide (z1 = 0))) ∧ Below w.heap.size w w' := by
 obtain ⟨W, hW, hbW, K0, hszW⟩ := box1 w #[.bool n1, .slice A1 l1.length c1] 24
 obtain ⟨x0, x1⟩ := cL2 K0.h
 have h := len_zero I1
 generalize decide (z1 = 0) = b at *
 go_enter Tryz.func93, Tryz.ntmps93
 go_wp2_with fail
 go_ret
 exact ⟨rfl, hbW⟩
theorem rodd_z (n1 : Bool) (A1 : Option Addr) (c1 : Nat) (l1 : List Nat) (z1 : Int) (w : World) (I1 : IV w n1 A1 c1 l1 z1) :
 Calls Tryz.prog 143 #[iv n1 A1 l1.length c1] w fun e w' => e = .returned (.bool (decide (z1 % 2 = 1))) ∧ Below w.heap.size w w' := by
 obtain ⟨W, hW, hbW, K0, hszW⟩ := box1 w #[.bool n1, .slice A1 l1.length c1] 24
 have hv := I1.isZ.val
 rcases l1 with _ | ⟨x, l1⟩
 · have hz0 : z1 = 0 := by
    have : val [] = 0 := rfl
    omega
   rw [show decide (z1 % 2 = 1) = false by rw [hz0]; rfl]
   obtain ⟨x0, x1⟩ := cL2 K0.h
   clear hv hz0 I1
   simp only [List.length_nil] at hW x1
   go_enter Tryz.func143, Tryz.ntmps143
   go_wp2_with fail
   go_ret
   exact ⟨rfl, hbW⟩
 · obtain ⟨b, o, rfl⟩ := I1.rd.head (Nat.succ_pos _)
   have hcc : W.cell? ⟨b, o, none⟩ = some (.int .u32 (x : Int)) := by
    obtain ⟨b', o', e, hc⟩ := (I1.on hbW).rd.cell 0 (Nat.succ_pos _)
    cases e
    rwa [Nat.add_zero, List.getD_cons_zero] at hc
   have hx32 : x < 4294967296 := (words_cons.1 I1.rd.words).1
   have hq : (((x : Int) % 2) == 1) = decide (z1 % 2 = 1) := by
    have h1 := val_odd x l1
    rw [hv] at h1
    by_cases h2 : z1 % 2 = 1
    · rw [decide_eq_true h2, beq_iff_eq]; omega
    · rw [decide_eq_false h2, beq_eq_false_iff_ne]; omega
   obtain ⟨r, r1, r2, r3⟩ : ∃ r : Nat, (x : Int) % 2 = (r : Int) ∧ Hid (r = x % 2) ∧ r < 2 := ⟨x % 2, by omega, rfl, by omega⟩
   have r4 : (x : Int).tmod 2 = (r : Int) := by rw [Int.tmod_eq_emod_of_nonneg (by omega)]; exact r1
   rw [r1] at hq
   generalize decide (z1 % 2 = 1) = q at *
   have hl : 0 < (x :: l1).length := Nat.succ_pos _
   clear hv I1
   generalize (x :: l1).length = n at *
   have hlI : decide ((0 : Int) < (n : Int)) = true := decide_eq_true (by omega)
   obtain ⟨x0, x1⟩ := cL2 K0.h
   go_enter Tryz.func143, Tryz.ntmps143
   go_wp2_with fail
   go_ret
   exact ⟨rfl, hbW⟩
theorem Near_i (n1 n2 : Bool) (A1 A2 : Option Addr) (c1 c2 : Nat) (l1 l2 : List Nat) (z1 z2 : Int) (w : World) (I1 : IV w n1 A1 c1 l1 z1) (I2 : IV w n2 A2 c2 l2 z2) {k j : Nat} (f1 : Lz k z1) (f2 : Lz j z2) (hk : k ≤ 50000) (hj : j ≤ 50000) (h0 : z2 ≠ 0) :
 Calls Tryz.prog 133 #[iv n1 A1 l1.length c1, iv n2 A2 l2.length c2] w (RetI (nearZ z1 z2) w) := by
 obtain ⟨W, hW, hbW, K0, K1, K2, hszW⟩ := box3 w #[.bool n1, .slice A1 l1.length c1] 24 #[.bool n2, .slice A2 l2.length c2] 24 #[.bool false, .slice none 0 0] 24
 obtain ⟨x0, x1⟩ := cL2 K0.h
 obtain ⟨y0, y1⟩ := cL2 K1.h
 obtain ⟨a, ha⟩ : ∃ a, (if z2 < 0 then -z1 else z1) = a := ⟨_, rfl⟩
 obtain ⟨b, hb⟩ : ∃ b, (if z2 < 0 then -z2 else z2) = b := ⟨_, rfl⟩
 have Hsg := Lib.hid I2.sgn
 obtain ⟨Z, hZ⟩ : ∃ Z, nearZ z1 z2 = Z := ⟨_, rfl⟩
 rw [hZ]
 replace hZ : Z = nearP a b := by rw [← hZ]; unfold nearZ; rw [← ha, ← hb]; split <;> rfl
 replace hZ := Lib.hid hZ
 replace hk := Lib.hid hk
 replace hj := Lib.hid hj
 go_enter Tryz.func133, Tryz.ntmps133
 go_upto_if 8 with fail
 go_cut [] from 9 to 12 (fun wx => TwoIn w w.heap.size a b wx)
 case first =>
  by_cases hz : z2 < 0
  · rw [if_pos hz] at ha hb
    obtain rfl : n2 = true := by rw [Hsg.out, decide_eq_true hz]
    subst ha hb
    clear Hsg hz
    have q1 := rminus_i n1 A1 c1 l1 z1 W (I1.on hbW)
    have f0' := frozen_at K0.h 0
    go_upto_region 3 with (go_at_call 37; refine q1.mono ?_; rintro e w5 ⟨s5, A5, c5, l5, rfl, I5, b5⟩; obtain ⟨u0, u1⟩ := cL2 (K0.on b5).h; obtain ⟨f0, f1⟩ := fZ2 (K0.on b5).h)
    obtain ⟨X, hX, KX, NX, OX⟩ := storeI (s' := s5) (A' := A5) (n' := l5.length) (c' := c5) (K0.on b5)
    rw [hX]
    have K1X := OX.one (K1.on b5) (by omega)
    have K2X := OX.one (K2.on b5) (by omega)
    have q2 := rminus_i true A2 c2 l2 z2 X (((I2.on hbW).on b5).nudge NX)
    have I5X := I5.nudge NX
    have hbX := (hbW.trans (b5.mono hbW.size)).trans (NX.low.mono (Nat.le_refl _))
    clear hX u0 u1 f0 f1 f0'
    obtain ⟨v0, v1⟩ := cL2 K1X.h
    go_wp2_with (go_at_call 37; refine q2.mono ?_; rintro e w6 ⟨s6, A6, c6, l6, rfl, I6, b6⟩; obtain ⟨u0, u1⟩ := cL2 (K1X.on b6).h; obtain ⟨f0, f1⟩ := fZ2 (K1X.on b6).h)
    obtain ⟨Y, hY, KY, NY, OY⟩ := storeI (s' := s6) (A' := A6) (n' := l6.length) (c' := c6) (K1X.on b6)
    go_meet
    rw [hY]
    exact ⟨s5, A5, c5, l5, s6, A6, c6, l6, OY.one (KX.on b6) (by omega), KY, OY.one (K2X.on b6) (by omega), (I5X.on b6).nudge NY, I6.nudge NY, (hbX.trans (b6.mono (by have := hbX.size; omega))).trans (NY.low.mono (by omega))⟩
  · rw [if_neg hz] at ha hb
    obtain rfl : n2 = false := by rw [Hsg.out, decide_eq_false hz]
    subst ha hb
    clear Hsg hz
    go_wp2_with fail
    go_meet
    exact ⟨n1, A1, c1, l1, false, A2, c2, l2, K0, K1, K2, I1.on hbW, I2.on hbW, hbW⟩
 case rest =>
  obtain ⟨s3, A3, c3, l3, s4, A4, c4, l4, H0, H1, H2, I3, I4, hb3⟩ := hcut
  obtain ⟨u0, u1⟩ := cL2 H0.h
  obtain ⟨v0, v1⟩ := cL2 H1.h
  have hbp : 0 < b := by rw [← hb]; split <;> omega
  have fa : Lz k a := by rw [← ha]; split <;> first | exact f1.neg | exact f1
  have fb : Lz j b := by rw [← hb]; split <;> first | exact f2.neg | exact f2
  clear ha hb I1 I2 f1 f2 h0 Hsg K0 K1 K2 x0 x1 y0 y1 hW hbW hszW
  have hsp := rdiv_i s3 s4 A3 A4 c3 c4 l3 l4 a b wc I3 I4 fa fb (Nat.le_trans hk.out (by decide)) (Nat.le_trans hj.out (by decide)) hbp
  have hN : Z = if 0 < cmpZ (a % b * 2) b ∨ cmpZ (a % b * 2) b = 0 ∧ (a / b) % 2 = 1 then a / b + 1 else a / b := by
   rw [hZ.out]
   unfold nearP
   have e1 : (b < 2 * (a % b)) ↔ 0 < cmpZ (a % b * 2) b := by
    unfold cmpZ
    split
    · omega
    · split <;> omega
   have e2 : (2 * (a % b) = b) ↔ cmpZ (a % b * 2) b = 0 := by
    unfold cmpZ
    split
    · omega
    · split <;> omega
   simp only [e1, e2]
  clear hZ
  have hr1 := Int.emod_nonneg a (show b ≠ 0 by omega)
  have hr2 := Int.emod_lt_of_pos a hbp
  have fr : Lz j (a % b) := fb.le (by omega)
  have fq : Lz k (a / b) := fa.le (Int.natAbs_ediv_le_natAbs a b)
  generalize a % b = r at *
  generalize a / b = q at *
  have HN := Lib.hid hN
  replace fr := Lib.hid fr
  replace fq := Lib.hid fq
  replace fb := Lib.hid fb
  clear hN hbp hr1 hr2 fa
  go_upto_region 5 with first
   | (go_at_call 103; refine hsp.mono ?_; rintro e w5 ⟨s5, A5, c5, l5, s6, A6, c6, l6, rfl, I5, I6, b5⟩)
  obtain ⟨W7, hW7⟩ : ∃ W7, w5.alloc (.cells #[.bool s5, .slice A5 l5.length c5, .bool s6, .slice A6 l6.length c6] 111) = W7 := ⟨_, rfl⟩
  have hbW7 : Below w5.heap.size w5 W7 := by rw [← hW7]; exact al1 _ _
  have Q0 : Blk W7 w5.heap.size #[.bool s5, .slice A5 l5.length c5, .bool s6, .slice A6 l6.length c6] 111 := by rw [← hW7]; exact blk_new _ _ _
  rw [hW7]
  have hb7 := hb3.trans ((b5.trans (hbW7.mono b5.size)).mono hb3.size)
  have J4 := ((I4.on b5).on hbW7)
  have J5 := I5.on hbW7
  have J6 := I6.on hbW7
  have G1 := (H1.on b5).on hbW7
  have G2 := (H2.on b5).on hbW7
  have lw := blk_lt H2
  have lw5 := b5.size
  have a0 : W7.cell? ⟨w5.heap.size, 2, none⟩ = some (.bool s6) := cell_at Q0.h 2 _ rfl
  have a1 : W7.cell? ⟨w5.heap.size, 3, none⟩ = some (.slice A6 l6.length c6) := cell_at Q0.h 3 _ rfl
  have a2 : W7.cell? ⟨w.heap.size + 1, 0, none⟩ = some (.bool s4) := cell_at G1.h 0 _ rfl
  have a3 : W7.cell? ⟨w.heap.size + 1, 1, none⟩ = some (.slice A4 l4.length c4) := cell_at G1.h 1 _ rfl
  have htm := fun W' (h : Below W7.heap.size W7 W') s A c l (I : IV W' s A c l 2) => rtimes_i s6 s A6 A c6 c l6 l r 2 W' (J6.on h) I fr.out (Lz.small (k := 1) (by decide) (by decide)) (Nat.le_trans hj.out (by decide)) (by decide)
  have hcm := fun W' (h : Below W7.heap.size W7 W') s A c l (I : IV W' s A c l (r * 2)) => rcmp_i s s4 A A4 c c4 l l4 (r * 2) b W' I (J4.on h)
  clear hW7 hsp H0 H1 H2 I3 I4 I5 I6 u0 u1 v0 v1
  generalize cmpZ (r * 2) b = c at *
  generalize r * 2 = r2 at *
  go_region_held3 (fun w'' => w''.cell? ⟨w5.heap.size, 2, none⟩ = some (.bool s6) ∧ w''.cell? ⟨w5.heap.size, 3, none⟩ = some (.slice A6 l6.length c6) ∧ w''.cell? ⟨w.heap.size + 1, 0, none⟩ = some (.bool s4) ∧ w''.cell? ⟨w.heap.size + 1, 1, none⟩ = some (.slice A4 l4.length c4)) ((first | (with_reducible exact ⟨a0, a1, a2, a3⟩) | exact ⟨a0, a1, a2, a3⟩))
   ((first
    | (go_at_call 47; have hmark := q9; refine (hcm _ q9 _ _ _ _ I9).mono ?_; rintro e w12 ⟨rfl, b12⟩; have q12 := q9.trans (b12.mono q9.size); clear a0 a1 a2 a3; have a0 : w12.cell? ⟨w5.heap.size, 2, none⟩ = some (.bool s6) := cell_at (Q0.on q12).h 2 _ rfl; have a1 : w12.cell? ⟨w5.heap.size, 3, none⟩ = some (.slice A6 l6.length c6) := cell_at (Q0.on q12).h 3 _ rfl; have a2 : w12.cell? ⟨w.heap.size + 1, 0, none⟩ = some (.bool s4) := cell_at (G1.on q12).h 0 _ rfl; have a3 : w12.cell? ⟨w.heap.size + 1, 1, none⟩ = some (.slice A4 l4.length c4) := cell_at (G1.on q12).h 1 _ rfl)
    | (go_at_call 34; have hmark := q8; refine (htm _ q8 _ _ _ _ I8).mono ?_; rintro e w9 ⟨s9, A9, c9, l9, rfl, I9, b9⟩; have q9 := q8.trans (b9.mono q8.size); clear a0 a1 a2 a3; have a0 : w9.cell? ⟨w5.heap.size, 2, none⟩ = some (.bool s6) := cell_at (Q0.on q9).h 2 _ rfl; have a1 : w9.cell? ⟨w5.heap.size, 3, none⟩ = some (.slice A6 l6.length c6) := cell_at (Q0.on q9).h 3 _ rfl; have a2 : w9.cell? ⟨w.heap.size + 1, 0, none⟩ = some (.bool s4) := cell_at (G1.on q9).h 0 _ rfl; have a3 : w9.cell? ⟨w.heap.size + 1, 1, none⟩ = some (.slice A4 l4.length c4) := cell_at (G1.on q9).h 1 _ rfl)
    | (go_at_call 45; refine (rof_i 2 _ (by decide) (by decide)).mono ?_; rintro e w8 ⟨s8, A8, c8, l8, rfl, I8, b8⟩; have q8 := (below_drew (Below.refl W7.heap.size W7)).trans b8; clear a0 a1 a2 a3; have a0 : w8.cell? ⟨w5.heap.size, 2, none⟩ = some (.bool s6) := cell_at (Q0.on q8).h 2 _ rfl; have a1 : w8.cell? ⟨w5.heap.size, 3, none⟩ = some (.slice A6 l6.length c6) := cell_at (Q0.on q8).h 3 _ rfl; have a2 : w8.cell? ⟨w.heap.size + 1, 0, none⟩ = some (.bool s4) := cell_at (G1.on q8).h 0 _ rfl; have a3 : w8.cell? ⟨w.heap.size + 1, 1, none⟩ = some (.slice A4 l4.length c4) := cell_at (G1.on q8).h 1 _ rfl)))
  clear a0 a1 a2 a3 htm hcm
  have hb9 := hb7.trans (q12.mono hb7.size)
  have L0 := Q0.on q12
  have L2 := G2.on q12
  have M5 := J5.on q12
  have hne : w5.heap.size ≠ w.heap.size + 1 + 1 := by omega
  clear G1 G2 J4 J5 J6 Q0 I8 I9 q8 q9 b8 b9 b12 fr fb
  by_cases c0 : 0 < c
  · have hZ : Z = q + 1 := by rw [HN.out, if_pos (.inl c0)]
    have cb : decide (0 < c) = true := decide_eq_true c0
    subst hZ
    clear HN
    have d0 : w12.cell? ⟨w5.heap.size, 0, none⟩ = some (.bool s5) := cell_at L0.h 0 _ rfl
    have d1 : w12.cell? ⟨w5.heap.size, 1, none⟩ = some (.slice A5 l5.length c5) := cell_at L0.h 1 _ rfl
    have hadd := fun W' (h : Below w12.heap.size w12 W') s A c l (I : IV W' s A c l 1) => rsum_i s5 s A5 A c5 c l5 l q 1 W' (M5.on h) I fq.out (Lz.small (k := 1) (by decide) (by decide)) (Nat.le_trans hk.out (by decide)) (by decide)
    go_wp2_with fail
    go_region_held3 (fun w'' => w''.cell? ⟨w5.heap.size, 0, none⟩ = some (.bool s5) ∧ w''.cell? ⟨w5.heap.size, 1, none⟩ = some (.slice A5 l5.length c5)) ((first | (with_reducible exact ⟨d0, d1⟩) | exact ⟨d0, d1⟩ | exact ⟨cell_set_ne (cell_set_ne d0 hne) hne, cell_set_ne (cell_set_ne d1 hne) hne⟩))
     ((first
      | (go_at_call 46; have hmark := q10; refine (hadd _ q10 _ _ _ _ I10).mono ?_; rintro e w11 ⟨s11, A11, c11, l11, rfl, I11, b11⟩; clear d0 d1; have q11 := q10.trans (b11.mono q10.size); have d0 : w11.cell? ⟨w5.heap.size, 0, none⟩ = some (.bool s5) := cell_at (L0.on q11).h 0 _ rfl; have d1 : w11.cell? ⟨w5.heap.size, 1, none⟩ = some (.slice A5 l5.length c5) := cell_at (L0.on q11).h 1 _ rfl; obtain ⟨e0, e1⟩ := cL2 (L2.on q11).h; obtain ⟨f0, f1⟩ := fZ2 (L2.on q11).h)
      | (go_at_call 45; refine (rof_i 1 _ (by decide) (by decide)).mono ?_; rintro e w10 ⟨s10, A10, c10, l10, rfl, I10, b10⟩; clear d0 d1; have q10 := (below_drew (Below.refl w12.heap.size w12)).trans b10; have d0 : w10.cell? ⟨w5.heap.size, 0, none⟩ = some (.bool s5) := cell_at (L0.on q10).h 0 _ rfl; have d1 : w10.cell? ⟨w5.heap.size, 1, none⟩ = some (.slice A5 l5.length c5) := cell_at (L0.on q10).h 1 _ rfl)))
    go_wp2_with fail
    exact ret_cell rfl rfl rfl (set_blk (set_blk (L2.on q11).h 0 _) 1 _) (retI_end I11 (L2.on q11) (hb9.trans (q11.mono hb9.size)) (by omega))
  · have cb : decide (0 < c) = false := decide_eq_false c0
    by_cases c1 : c = 0
    · subst c1
      have d0 : w12.cell? ⟨w5.heap.size, 0, none⟩ = some (.bool s5) := cell_at L0.h 0 _ rfl
      have d1 : w12.cell? ⟨w5.heap.size, 1, none⟩ = some (.slice A5 l5.length c5) := cell_at L0.h 1 _ rfl
      have hod := rodd_z s5 A5 c5 l5 q w12 M5
      by_cases hq : q % 2 = 1
      · have hZ : Z = q + 1 := by rw [HN.out, if_pos (.inr ⟨rfl, hq⟩)]
        subst hZ
        rw [decide_eq_true hq] at hod
        clear HN hq
        go_upto_region 7 with first
         | (go_at_call 143; refine hod.mono ?_; rintro e w13 ⟨rfl, b13⟩; replace L0 := L0.on b13; replace L2 := L2.on b13; replace M5 := M5.on b13; replace hb9 := hb9.trans (b13.mono hb9.size))
        clear d0 d1
        have d0 : w13.cell? ⟨w5.heap.size, 0, none⟩ = some (.bool s5) := cell_at L0.h 0 _ rfl
        have d1 : w13.cell? ⟨w5.heap.size, 1, none⟩ = some (.slice A5 l5.length c5) := cell_at L0.h 1 _ rfl
        have hadd := fun W' (h : Below w13.heap.size w13 W') s A c l (I : IV W' s A c l 1) => rsum_i s5 s A5 A c5 c l5 l q 1 W' (M5.on h) I fq.out (Lz.small (k := 1) (by decide) (by decide)) (Nat.le_trans hk.out (by decide)) (by decide)
        go_wp2_with fail
        go_region_held3 (fun w'' => w''.cell? ⟨w5.heap.size, 0, none⟩ = some (.bool s5) ∧ w''.cell? ⟨w5.heap.size, 1, none⟩ = some (.slice A5 l5.length c5)) ((first | (with_reducible exact ⟨d0, d1⟩) | exact ⟨d0, d1⟩ | exact ⟨cell_set_ne (cell_set_ne d0 hne) hne, cell_set_ne (cell_set_ne d1 hne) hne⟩))
         ((first
          | (go_at_call 46; have hmark := q10; refine (hadd _ q10 _ _ _ _ I10).mono ?_; rintro e w11 ⟨s11, A11, c11, l11, rfl, I11, b11⟩; clear d0 d1; have q11 := q10.trans (b11.mono q10.size); have d0 : w11.cell? ⟨w5.heap.size, 0, none⟩ = some (.bool s5) := cell_at (L0.on q11).h 0 _ rfl; have d1 : w11.cell? ⟨w5.heap.size, 1, none⟩ = some (.slice A5 l5.length c5) := cell_at (L0.on q11).h 1 _ rfl; obtain ⟨e0, e1⟩ := cL2 (L2.on q11).h; obtain ⟨f0, f1⟩ := fZ2 (L2.on q11).h)
          | (go_at_call 45; refine (rof_i 1 _ (by decide) (by decide)).mono ?_; rintro e w10 ⟨s10, A10, c10, l10, rfl, I10, b10⟩; clear d0 d1; have q10 := (below_drew (Below.refl w13.heap.size w13)).trans b10; have d0 : w10.cell? ⟨w5.heap.size, 0, none⟩ = some (.bool s5) := cell_at (L0.on q10).h 0 _ rfl; have d1 : w10.cell? ⟨w5.heap.size, 1, none⟩ = some (.slice A5 l5.length c5) := cell_at (L0.on q10).h 1 _ rfl)))
        go_wp2_with fail
        exact ret_cell rfl rfl rfl (set_blk (set_blk (L2.on q11).h 0 _) 1 _) (retI_end I11 (L2.on q11) (hb9.trans (q11.mono hb9.size)) (by omega))
      · have hZ : Z = q := by rw [HN.out, if_neg (by omega)]
        subst hZ
        rw [decide_eq_false hq] at hod
        clear HN hq
        go_wp2_with first
         | (go_at_call 143; refine hod.mono ?_; rintro e w13 ⟨rfl, b13⟩; replace L0 := L0.on b13; replace L2 := L2.on b13; replace M5 := M5.on b13; replace hb9 := hb9.trans (b13.mono hb9.size); obtain ⟨i0, i1⟩ := cL2 L0.h; obtain ⟨e0, e1⟩ := cL2 L2.h; obtain ⟨f0, f1⟩ := fZ2 L2.h)
        exact ret_cell rfl rfl rfl (set_blk (set_blk L2.h 0 _) 1 _) (retI_end M5 L2 hb9 (by omega))
    · have hZ : Z = q := by rw [HN.out, if_neg (by omega)]
      have cc : (c == 0) = false := beq_eq_false_iff_ne.2 c1
      subst hZ
      clear HN c1
      obtain ⟨i0, i1⟩ := cL2 L0.h
      obtain ⟨e0, e1⟩ := cL2 L2.h
      obtain ⟨f0, f1⟩ := fZ2 L2.h
      go_wp2_with fail
      exact ret_cell rfl rfl rfl (set_blk (set_blk L2.h 0 _) 1 _) (retI_end M5 L2 hb9 (by omega))
end Dc
end Go.Proofs.YtjghnghceeijeaaGreatDoor
