/-
  Contracts of the walks below.
-/
import Derived.Test.YtjghnghceeijeaaGreatDoorDb27
set_option maxRecDepth 100000
set_option maxHeartbeats 4000000
set_option linter.unusedVariables false
set_option linter.unusedSimpArgs false
namespace Go.Proofs.YtjghnghceeijeaaGreatDoor
namespace Dc
open Go.RowKit Go.Shelf Go.BigFrame Go.Proofs.YtjghnghceeijeaaGreatDoor.Nm
attribute [local go_sem] Oper.semAt_some
theorem storeC4 {W : World} {g : Nat} {t : TypeId} {s s' u u' : Bool} {A A' B B' : Option Addr} {n c n' c' m d m' d' : Nat} (h : Blk W g #[.bool s, .slice A n c, .bool s', .slice A' n' c'] t) :
 ∃ X, ((((W.setCell ⟨g, 0, none⟩ (.bool u)).setCell ⟨g, 1, none⟩ (.slice B m d)).setCell ⟨g, 2, none⟩ (.bool u')).setCell ⟨g, 3, none⟩ (.slice B' m' d')) = X ∧ Blk X g #[.bool u, .slice B m d, .bool u', .slice B' m' d'] t ∧ Nudge g W X ∧ Off (fun k => k = g) W X := by
 obtain ⟨X, hX, KX, NX, OX⟩ := storeC (u := u) (B := B) (m := m) (d := d) h 0 (.inl rfl)
 rw [if_pos rfl] at KX
 obtain ⟨Y, hY, KY, NY, OY⟩ := storeC (u := u') (B := B') (m := m') (d := d') KX 2 (.inr rfl)
 rw [if_neg (by decide)] at KY
 exact ⟨Y, by rw [← hY, ← hX], KY, NX.trans NY, OX.trans OY⟩
theorem cert_size : (Tryz.prog.info? 77).map (·.size) = some 4 := by kernel_rfl
theorem ret_TTt {fn : Func} {p q u : Tmp} {T S : TypeId} {c1 c2 : Array Value} {k1 k2 : Nat} {f1 f2 : Array Field} (h : fn.results = #[.cell p T, .cell q S, .tmp u]) (hT : Tryz.prog.underlying T = some (.struct f1)) (hS : Tryz.prog.underlying S = some (.struct f2)) (i1 : (Tryz.prog.info? T).map (·.size) = some k1) (i2 : (Tryz.prog.info? S).map (·.size) = some k2)
 {a : Act} {w : World} {g1 g2 : Nat} {R : Ending → World → Prop} (hd0 : a.defers = []) (hp : a.tmps.getD p undef = .pointer (some ⟨g1, 0, none⟩)) (hq : a.tmps.getD q undef = .pointer (some ⟨g2, 0, none⟩))
 (hg1 : Blk w g1 c1 T) (hg2 : Blk w g2 c2 S) (n1 : k1 = c1.size) (n2 : k2 = c2.size) (hR : R (.returned (.tuple #[.agg c1, .agg c2, a.tmps.getD u undef])) w) : bodyPost Tryz.prog fn R .ret a w := by
 refine bodyPost_ret (v := .tuple #[.agg c1, .agg c2, a.tmps.getD u undef]) ?_ hd0 hR
 have e1 := run_loadVar_row (P := Tryz.prog) w g1 T T c1 (0, 0) _ hg1.h hT rfl (n1 ▸ i1)
 have e2 := run_loadVar_row (P := Tryz.prog) w g2 S S c2 (0, 0) _ hg2.h hS rfl (n2 ▸ i2)
 rw [Array.getD_eq_getD_getElem?] at hp hq
 simp [results, h, hp, hq, asAddr, Result.andThen, e1, e2, Sem.run_bind]
def ratX (n1 : Bool) (l1 : List Nat) (n2 : Bool) (l2 : List Nat) : DR := if ratE n1 l1 n2 l2 = 0 then stripE (nearZ (toZ n1 l1 * 10 ^ 20) (toZ n2 l2)) else err (ratE n1 l1 n2 l2)
def ratQ (n1 : Bool) (l1 : List Nat) (n2 : Bool) (l2 : List Nat) : Int := if (ratX n1 l1 n2 l2).2.2 = 0 then nearZ (toZ n1 l1 * 10 ^ 20) (toZ n2 l2) else 0
def ratR (n1 : Bool) (l1 : List Nat) (n2 : Bool) (l2 : List Nat) : Int := if (ratX n1 l1 n2 l2).2.2 = 0 then toZ n1 l1 * 10 ^ 20 - nearZ (toZ n1 l1 * 10 ^ 20) (toZ n2 l2) * toZ n2 l2 else 0
theorem bare_rat (n1 : Bool) (l1 : List Nat) (n2 : Bool) (l2 : List Nat) : Bare (ratX n1 l1 n2 l2) := by
 unfold ratX
 split
 · exact bare_strip _
 · exact bare_err _
theorem ratE_zero {n1 n2 : Bool} {l1 l2 : List Nat} (h : ratE n1 l1 n2 l2 = 0) : okI n1 l1 = true ∧ okI n2 l2 = true ∧ toZ n2 l2 ≠ 0 ∧ l1.length ≤ 290 := by
 unfold ratE at h
 split at h
 · rename_i hok
   rw [Bool.and_eq_true] at hok
   split at h
   · cases h
   · split at h
     · cases h
     · rename_i h1 h2
       exact ⟨hok.1, hok.2, h1, by omega⟩
 · cases h
def RetRat (x : DR) (q r : Int) (w : World) (e : Ending) (w' : World) : Prop :=
 ∃ v s A c l s' A' c' l', e = .returned (.tuple #[v, .agg #[.bool s, .slice A (List.length l) c, .bool s', .slice A' (List.length l') c'], .int .i64 x.2.2]) ∧ IsV x w' v ∧ IV w' s A c l q ∧ IV w' s' A' c' l' r ∧ Below w.heap.size w w'
theorem rat1_all (n1 n2 : Bool) (A1 A2 : Option Addr) (c1 c2 : Nat) (l1 l2 : List Nat) (ga gb gc : Nat) (w : World) (Ka : Blk w ga #[.bool n1, .slice A1 l1.length c1] 24) (Kb : Blk w gb #[.bool n2, .slice A2 l2.length c2] 24) (Kc : Blk w gc #[.bool false, .slice none 0 0, .bool false, .slice none 0 0] 77) (na : ga ≠ gc) (nb : gb ≠ gc) (h1 : Rd w A1 l1) (hc1 : l1.length ≤ c1) (h2 : Rd w A2 l2) (hc2 : l2.length ≤ c2) :
 Calls Tryz.prog 138 #[.pointer (some ⟨ga, 0, none⟩), .pointer (some ⟨gb, 0, none⟩), .pointer (some ⟨gc, 0, none⟩)] w fun e w' => PostV (fun k => k = gc) (ratX n1 l1 n2 l2) w e w' ∧ InCert gc (ratX n1 l1 n2 l2).2.2 (ratQ n1 l1 n2 l2) (ratR n1 l1 n2 l2) w' := by
 by_cases he : ratE n1 l1 n2 l2 = 0
 · obtain ⟨o1, o2, h0, hl⟩ := ratE_zero he
   have I1 : IV w n1 A1 c1 l1 (toZ n1 l1) := ⟨h1, hc1, (okZ_of h1.words o1).isZ⟩
   have I2 : IV w n2 A2 c2 l2 (toZ n2 l2) := ⟨h2, hc2, (okZ_of h2.words o2).isZ⟩
   have h := rat1_z n1 n2 A1 A2 c1 c2 l1 l2 _ _ ga gb gc w Ka Kb Kc na nb I1 I2 ((len_le_iff I1).1 hl) ((len_le_iff I2).1 (okZ_of h2.words o2).small) h0 he
   have hx : ratX n1 l1 n2 l2 = stripE (nearZ (toZ n1 l1 * 10 ^ 20) (toZ n2 l2)) := by unfold ratX; rw [if_pos he]
   unfold ratQ ratR
   rw [hx]
   refine h.mono fun e w' h => ⟨h.1, ?_⟩
   obtain ⟨s, A, c, l, s', A', c', l', K, hI⟩ := h.2
   refine ⟨s, A, c, l, s', A', c', l', K, fun h0 => ?_⟩
   rw [if_pos h0, if_pos h0]
   exact hI h0
 · have hx : ratX n1 l1 n2 l2 = err (ratE n1 l1 n2 l2) := by unfold ratX; rw [if_neg he]
   have h := rat1_no n1 n2 A1 A2 c1 c2 l1 l2 ga gb gc w Ka Kb h1 hc1 h2 hc2 _ rfl he
   rw [hx]
   refine h.mono ?_
   rintro e w' ⟨rfl, hb⟩
   exact ⟨PostV.no rfl he (.of_below hb), false, none, 0, [], false, none, 0, [], Kc.on hb, fun h => absurd h he⟩
theorem DRatio_calls (n1 n2 : Bool) (A1 A2 : Option Addr) (c1 c2 : Nat) (l1 l2 : List Nat) (w : World) (h1 : Rd w A1 l1) (hc1 : l1.length ≤ c1) (h2 : Rd w A2 l2) (hc2 : l2.length ≤ c2) :
 Calls Tryz.prog 65 #[iv n1 A1 l1.length c1, iv n2 A2 l2.length c2] w (RetRat (ratX n1 l1 n2 l2) (ratQ n1 l1 n2 l2) (ratR n1 l1 n2 l2) w) := by
 have hmf := mkf
 obtain ⟨W, hW, hbW, K0, K1, K2, K3, hszW⟩ := box4 w #[.bool n1, .slice A1 l1.length c1] 24 #[.bool n2, .slice A2 l2.length c2] 24 (vcells 0 0 false none 0 0 ⟨#[]⟩ none 0 0) 27 #[.bool false, .slice none 0 0, .bool false, .slice none 0 0] 77
 have hv := value_calls (fun k => k = w.heap.size + 1 + 1 + 1) 138 #[.pointer (some ⟨w.heap.size, 0, none⟩), .pointer (some ⟨w.heap.size + 1, 0, none⟩), .pointer (some ⟨w.heap.size + 1 + 1 + 1, 0, none⟩)] (enters_of Tryz.func138 (by kernel_rfl) rfl) (ratX n1 l1 n2 l2) (bare_rat _ _ _ _) W (by rintro k rfl; omega) (InCert (w.heap.size + 1 + 1 + 1) (ratX n1 l1 n2 l2).2.2 (ratQ n1 l1 n2 l2) (ratR n1 l1 n2 l2)) (fun W' h => rat1_all n1 n2 A1 A2 c1 c2 l1 l2 _ _ _ W' (K0.on h) (K1.on h) (K3.on h) (by omega) (by omega) ((h1.on hbW).on h) hc1 ((h2.on hbW).on h) hc2)
 have hq0 : (ratX n1 l1 n2 l2).2.2 ≠ 0 → ratQ n1 l1 n2 l2 = 0 ∧ ratR n1 l1 n2 l2 = 0 := fun h => ⟨by unfold ratQ; rw [if_neg h], by unfold ratR; rw [if_neg h]⟩
 generalize ratQ n1 l1 n2 l2 = q at *
 generalize ratR n1 l1 n2 l2 = r at *
 obtain ⟨x, hx⟩ : ∃ x, ratX n1 l1 n2 l2 = x := ⟨_, rfl⟩
 rw [hx] at hv hq0 ⊢
 obtain ⟨z, p, er⟩ := x
 dsimp only at hv hq0
 clear hx
 replace hszW := Lib.hid hszW
 by_cases h0 : er = 0
 · subst h0
   clear hq0
   go_enter Tryz.func65, Tryz.ntmps65
   go_upto_region 4 with (go_at_call 75; refine hv.mono ?_; rintro e w5 ⟨⟨v, rfl, s5, A5, c5, l5, rfl, I5⟩, o5, w1, hC, nC⟩; have hC5 := hC.nudge nC (by have := hszW.out; omega); have KV5 := o5.blk (by omega) K2; obtain ⟨u0, u1, u2, u3, u4, u5⟩ := cL6 KV5.h; obtain ⟨f0, f1, f2, f3, f4, f5⟩ := fZ6 KV5.h)
   obtain ⟨s6, A6, c6, l6, s7, A7, c7, l7, KC5, hI5⟩ := hC5
   obtain ⟨I6, I7⟩ := hI5 rfl
   obtain ⟨X, hX, KX, NX, OX⟩ := storeV (k' := kd (z, p, 0)) (p' := (p : Int)) (s' := s5) (A' := A5) (n' := l5.length) (c' := c5) (S' := ⟨#[]⟩) (B' := none) (m' := 0) (d' := 0) KV5
   rw [hX]
   have KCX := OX.one KC5 (by omega)
   have hb5 : Below w.heap.size w w5 := hbW.trans (o5.below (by have := hszW.out; omega) (by rintro k rfl; omega))
   clear u0 u1 u2 u3 u4 u5 f0 f1 f2 f3 f4 f5 hX
   obtain ⟨u0, u1, u2, u3, u4, u5⟩ := cL6 KX.h
   obtain ⟨v0, v1, v2, v3⟩ := cL4 KCX.h
   obtain ⟨f0, f1, f2, f3, f4, f5⟩ := fZ6 KX.h
   obtain ⟨g0, g1, g2, g3⟩ := fZ4 KCX.h
   go_region
   obtain ⟨Y, hY, KY, NY, OY⟩ := storeV (k' := kd (z, p, 0)) (p' := (p : Int)) (s' := s5) (A' := A5) (n' := l5.length) (c' := c5) (S' := ⟨#[]⟩) (B' := none) (m' := 0) (d' := 0) KX
   obtain ⟨Z, hZ, KZ, NZ, OZ⟩ := storeC4 (u := s6) (B := A6) (m := l6.length) (d := c6) (u' := s7) (B' := A7) (m' := l7.length) (d' := c7) (OY.one KCX (by omega))
   rw [hY, hZ]
   go_wp2_with fail
   have N := nudge_drew ((NX.trans (NY.mono (by omega))).trans (NZ.mono (by omega)))
   exact ret_TTt rfl Tryz.underlying27 Tryz.underlying77 val_size cert_size rfl rfl rfl (blk_drew (OZ.one KY (by omega))) (blk_drew KZ) rfl rfl ⟨_, s6, A6, c6, l6, s7, A7, c7, l7, rfl, ⟨s5, A5, c5, l5, rfl, I5.nudge N⟩, I6.nudge N, I7.nudge N, hb5.trans (N.low.mono (by omega))⟩
 · obtain ⟨rfl, rfl⟩ := hq0 h0
   have hb0 : (er != 0) = true := by rw [bne_iff_ne]; exact h0
   clear hq0 h0
   go_enter Tryz.func65, Tryz.ntmps65
   go_upto_region 3 with (go_at_call 75; refine hv.mono ?_; rintro e w5 ⟨⟨v, rfl, s5, A5, c5, l5, rfl, I5⟩, o5, w1, hC, nC⟩; have hC5 := hC.nudge nC (by have := hszW.out; omega); have KV5 := o5.blk (by omega) K2; obtain ⟨u0, u1, u2, u3, u4, u5⟩ := cL6 KV5.h; obtain ⟨f0, f1, f2, f3, f4, f5⟩ := fZ6 KV5.h)
   obtain ⟨s6, A6, c6, l6, s7, A7, c7, l7, KC5, -⟩ := hC5
   obtain ⟨X, hX, KX, NX, OX⟩ := storeV (k' := kd (z, p, er)) (p' := (p : Int)) (s' := s5) (A' := A5) (n' := l5.length) (c' := c5) (S' := ⟨#[]⟩) (B' := none) (m' := 0) (d' := 0) KV5
   rw [hX]
   have KCX := OX.one KC5 (by omega)
   have hb5 : Below w.heap.size w w5 := hbW.trans (o5.below (by have := hszW.out; omega) (by rintro k rfl; omega))
   clear u0 u1 u2 u3 u4 u5 f0 f1 f2 f3 f4 f5 hX
   obtain ⟨v0, v1, v2, v3⟩ := cL4 KCX.h
   obtain ⟨g0, g1, g2, g3⟩ := fZ4 KCX.h
   go_upto_region 4 with fail
   obtain ⟨X2, hX2, KX2, NX2, OX2⟩ := storeC4 (u := false) (B := none) (m := 0) (d := 0) (u' := false) (B' := none) (m' := 0) (d' := 0) KCX
   rw [hX2]
   have KV2 := OX2.one KX (by omega)
   clear v0 v1 v2 v3 g0 g1 g2 g3 hX2
   obtain ⟨u0, u1, u2, u3, u4, u5⟩ := cL6 KV2.h
   obtain ⟨v0, v1, v2, v3⟩ := cL4 KX2.h
   obtain ⟨f0, f1, f2, f3, f4, f5⟩ := fZ6 KV2.h
   obtain ⟨g0, g1, g2, g3⟩ := fZ4 KX2.h
   go_region
   obtain ⟨Y, hY, KY, NY, OY⟩ := storeV (k' := kd (z, p, er)) (p' := (p : Int)) (s' := s5) (A' := A5) (n' := l5.length) (c' := c5) (S' := ⟨#[]⟩) (B' := none) (m' := 0) (d' := 0) KV2
   obtain ⟨Z, hZ, KZ, NZ, OZ⟩ := storeC4 (u := false) (B := none) (m := 0) (d := 0) (u' := false) (B' := none) (m' := 0) (d' := 0) (OY.one KX2 (by omega))
   rw [hY, hZ]
   go_wp2_with fail
   have N := nudge_drew (((NX.trans (NX2.mono (by omega))).trans (NY.mono (by omega))).trans (NZ.mono (by omega)))
   exact ret_TTt rfl Tryz.underlying27 Tryz.underlying77 val_size cert_size rfl rfl rfl (blk_drew (OZ.one KY (by omega))) (blk_drew KZ) rfl rfl ⟨_, false, none, 0, [], false, none, 0, [], rfl, ⟨s5, A5, c5, l5, rfl, I5.nudge N⟩, IV.zero _, IV.zero _, hb5.trans (N.low.mono (by omega))⟩
theorem IV.small {w : World} {s : Bool} {A : Option Addr} {c : Nat} {l : List Nat} {z : Int} {k : Nat} (h : IV w s A c l z) (hl : Lz k z) (hk : k ≤ 60000) : l.length ≤ 60000 := by rw [h.len]; exact Nat.le_trans hl.len hk
theorem rof_i (n : Int) (w : World) (h1 : -9223372036854775808 ≤ n) (h2 : n < 9223372036854775808) : Calls Tryz.prog 45 #[.int .i64 n] w (RetI n w) := (ROf_calls n w h1 h2).mono fun _ _ h => .of h
theorem rtimes_i (n1 n2 : Bool) (A1 A2 : Option Addr) (c1 c2 : Nat) (l1 l2 : List Nat) (z1 z2 : Int) (w : World) (I1 : IV w n1 A1 c1 l1 z1) (I2 : IV w n2 A2 c2 l2 z2) {k j : Nat} (f1 : Lz k z1) (f2 : Lz j z2) (hk : k ≤ 60000) (hj : j ≤ 60000) :
 Calls Tryz.prog 34 #[iv n1 A1 l1.length c1, iv n2 A2 l2.length c2] w (RetI (z1 * z2) w) :=
 (Times_z n1 n2 A1 A2 c1 c2 l1 l2 z1 z2 w I1.rd I2.rd I1.cap I2.cap I1.isZ I2.isZ (Nat.le_trans (I1.small f1 hk) (by decide)) (Nat.le_trans (I2.small f2 hj) (by decide))).mono fun _ _ h => .of h
def RetQ (q r : Int) (w : World) (e : Ending) (w' : World) : Prop :=
 ∃ s1 A1 c1 l1 s2 A2 c2 l2, e = .returned (.agg #[.bool s1, .slice A1 (List.length l1) c1, .bool s2, .slice A2 (List.length l2) c2]) ∧ IV w' s1 A1 c1 l1 q ∧ IV w' s2 A2 c2 l2 r ∧ Below w.heap.size w w'
theorem rdiv_i (n1 n2 : Bool) (A1 A2 : Option Addr) (c1 c2 : Nat) (l1 l2 : List Nat) (z1 z2 : Int) (w : World) (I1 : IV w n1 A1 c1 l1 z1) (I2 : IV w n2 A2 c2 l2 z2) {k j : Nat} (f1 : Lz k z1) (f2 : Lz j z2) (hk : k ≤ 60000) (hj : j ≤ 60000) (h0 : 0 < z2) :
 Calls Tryz.prog 103 #[iv n1 A1 l1.length c1, iv n2 A2 l2.length c2] w (RetQ (z1 / z2) (z1 % z2) w) := by
 have h := Divide_calls n1 n2 A1 A2 c1 c2 l1 l2 z1 z2 w I1.rd I2.rd I1.cap I2.cap I1.isZ I2.isZ (by omega) (Nat.le_trans (I1.small f1 hk) (by decide)) (Nat.le_trans (I2.small f2 hj) (by decide))
 rw [divZ_pos h0, modZ_pos h0] at h
 refine h.mono ?_
 rintro e w' ⟨s1, A1, c1, l1, s2, A2, c2, l2, h1, h2, h3, h4, h5, h6, h7, h8⟩
 exact ⟨s1, A1, c1, l1, s2, A2, c2, l2, h1, ⟨h6, h4, h2⟩, ⟨h7, h5, h3⟩, h8⟩
theorem Ten_i (n : Nat) (hn : n ≤ 2820) (w : World) : Calls Tryz.prog 35 #[.int .i64 (n : Int)] w (RetI (10 ^ n) w) := by
 obtain ⟨W, hW, hbW, K0, hszW⟩ := box1 w #[.bool false, .slice none 0 0] 24
 have hof := rof_i 1 W (by decide) (by decide)
 obtain ⟨R, hR⟩ : ∃ R, (10 : Int) ^ n = R := ⟨_, rfl⟩
 rw [hR]
 replace hR := Lib.hid hR
 replace hszW := Lib.hid hszW
 go_enter Tryz.func35, Tryz.ntmps35
 go_upto_region 2 with (go_at_call 45; refine hof.mono ?_; rintro e w5 ⟨s5, A5, c5, l5, rfl, I5, b5⟩)
 obtain ⟨W6, hW6, hbW6, Q0, hszW6⟩ := box1 w5 #[.bool s5, .slice A5 l5.length c5] 24
 rw [hW6]
 have b6 := b5.trans (hbW6.mono b5.size)
 have hb6 := hbW.trans (b6.mono hbW.size)
 have K6 := K0.on b6
 have J5 := I5.on hbW6
 have lw5 : w.heap.size + 1 ≤ w5.heap.size := by have := b5.size; have := hszW.out; omega
 have lW6 := blk_lt Q0
 clear hof hW hW6 I5 K0
 go_wp2_with fail
 go_loopw [4] (fun iv Wl => ∃ (i : Nat) (s : Bool) (A : Option Addr) (c : Nat) (l : List Nat), iv = .int .i64 (i : Int) ∧ i ≤ n ∧ Blk Wl w5.heap.size #[.bool s, .slice A l.length c] 24 ∧ IV Wl s A c l (10 ^ i) ∧ Below w.heap.size w Wl ∧ Blk Wl w.heap.size #[.bool false, .slice none 0 0] 24) (fun iv _ => n - (intOf iv).toNat)
 case atStart => exact ⟨0, s5, A5, c5, l5, rfl, Nat.zero_le _, Q0, J5, hb6, K6⟩
 case round =>
  obtain ⟨i, s, A, c, l, rfl, hi, KI, II, hbl, KR⟩ := hrel
  have lwr := blk_lt KI
  clear Q0 J5 K6
  by_cases hin : i < n
  · have hiI : decide ((i : Int) < (n : Int)) = true := decide_eq_true (by omega)
    have M1 := fun W' (h : Below wr.heap.size wr W') s' A' c' l' (I : IV W' s' A' c' l' 10) => rtimes_i s s' A A' c c' l l' (10 ^ i) 10 W' (II.on h) I (lz_ten_big i (by omega)) (Lz.small (k := 1) (by decide) (by decide)) (by decide) (by decide)
    have e1 : (10 : Int) ^ i * 10 = 10 ^ (i + 1) := (Int.pow_succ ..).symm
    rw [e1] at M1
    clear e1
    obtain ⟨t1, ht1⟩ : ∃ t1, (10 : Int) ^ (i + 1) = t1 := ⟨_, rfl⟩
    rw [ht1] at M1
    replace ht1 := Lib.hid ht1
    go_upto_region 5 with fail
    obtain ⟨g0, g1⟩ := cL2 KI.h
    refine wp_region_any (by kernel_rfl) ?_
    refine wpAny_of_F (S := fun w'' => w''.cell? ⟨w5.heap.size, 0, none⟩ = some (.bool s) ∧ w''.cell? ⟨w5.heap.size, 1, none⟩ = some (.slice A l.length c)) (late := [3]) _ _ _ _ ?_
    refine fT 0 6 (Value.agg #[.bool s, .slice A l.length c]) ⟨g0, g1⟩ ?_
    try simp only [Act.put, aQ, bQ, cQ]
    refine wpAnyF_one (i := 1) (by kernel_rfl) rfl (fun K hK => ?_)
    go_simp
    go_at_call 45; refine (rof_i 10 _ (by decide) (by decide)).mono ?_; rintro e w11 ⟨s11, A11, c11, l11, rfl, I11, b11⟩; have q11 := (below_drew (Below.refl wr.heap.size wr)).trans b11; replace g0 := cell_at (KI.on q11).h 0 _ rfl; replace g1 := cell_at (KI.on q11).h 1 _ rfl
    go_wp2_with fail
    refine hK.out _ _ (Or.inr ⟨g0, g1⟩) ?_
    clear hK K
    try simp only [Act.put, aQ, bQ, cQ]
    refine wpAnyF_one (i := 2) (by kernel_rfl) rfl (fun K hK => ?_)
    go_simp
    go_at_call 34; refine (M1 _ q11 _ _ _ _ I11).mono ?_; rintro e w12 ⟨s12, A12, c12, l12, rfl, I12, b12⟩; have q12 := q11.trans (b12.mono q11.size); replace g0 := cell_at (KI.on q12).h 0 _ rfl; replace g1 := cell_at (KI.on q12).h 1 _ rfl; obtain ⟨j0, j1⟩ := fZ2 (KI.on q12).h
    go_wp2_with fail
    refine hK.out _ _ (Or.inr ⟨g0, g1⟩) ?_
    clear hK K
    try simp only [Act.put, aQ, bQ, cQ]
    refine wpAnyF_one (i := 3) (by kernel_rfl) rfl (fun K hK => ?_)
    go_simp
    refine hK.out _ _ (Or.inl (by decide)) ?_
    clear hK K
    try simp only [Act.put, aQ, bQ, cQ]
    refine wpAnyF_done (by kernel_rfl) ?_ _
    obtain ⟨X, hX, KX, NX, OX⟩ := storeI (s' := s12) (A' := A12) (n' := l12.length) (c' := c12) (KI.on q12)
    rw [hX]
    have RX := OX.one (KR.on q12) (by omega)
    have hbX := (hbl.trans (q12.mono hbl.size)).trans (NX.low.mono (by omega))
    clear g0 g1 j0 j1 hX M1
    go_wp2_with fail
    go_roundw
    case rel => exact ⟨i + 1, s12, A12, c12, l12, by simp, by omega, KX, by rw [ht1.out]; exact I12.nudge NX, hbX, RX⟩
    case measure => simp only [intOf]; omega
  · obtain rfl : i = n := by omega
    obtain ⟨g0, g1⟩ := cL2 KI.h
    obtain ⟨r0, r1⟩ := cL2 KR.h
    obtain ⟨f0, f1⟩ := fZ2 KR.h
    rw [hR.out] at II
    go_wp2_with fail
    exact ret_cell rfl rfl rfl (set_blk (set_blk KR.h 0 _) 1 _) (retI_end II KR hbl (by omega))
theorem same_c (n1 n2 : Bool) (A1 A2 : Option Addr) (c1 c2 : Nat) (l1 l2 : List Nat) (z1 z2 : Int) (k1 p1 k2 p2 : Int) (B1 B2 : Option Addr) (d1 d2 : Nat) (w : World) (I1 : IV w n1 A1 c1 l1 z1) (I2 : IV w n2 A2 c2 l2 z2) :
 Calls Tryz.prog 27 #[(vv k1 p1 n1 A1 l1.length c1 ⟨#[]⟩ B1 0 d1), (vv k2 p2 n2 A2 l2.length c2 ⟨#[]⟩ B2 0 d2)] w fun e w' => e = .returned (.bool (decide (k1 = k2) && decide (p1 = p2) && decide (z1 = z2))) ∧ Below w.heap.size w w' := by
 obtain ⟨W, hW, hbW, K0, K1, hszW⟩ := box2 w #[.int .i64 k1, .int .i64 p1, .bool n1, .slice A1 l1.length c1, .string ⟨#[]⟩, .slice B1 0 d1] 27 #[.int .i64 k2, .int .i64 p2, .bool n2, .slice A2 l2.length c2, .string ⟨#[]⟩, .slice B2 0 d2] 27
 obtain ⟨x0, x1, x2, x3, x4, x5⟩ := cL6 K0.h
 obtain ⟨y0, y1, y2, y3, y4, y5⟩ := cL6 K1.h
 have hs := Same_calls n1 n2 A1 A2 c1 c2 l1 l2 W (I1.on hbW).rd (I2.on hbW).rd I1.cap I2.cap
 rw [sameI_z I1.isZ I2.isZ] at hs
 have hss : (ByteArray.toList (⟨#[]⟩ : ByteArray) == ByteArray.toList (⟨#[]⟩ : ByteArray)) = true := beq_self_eq_true _
 generalize decide (z1 = z2) = bz at *
 by_cases hk : k1 = k2
 · by_cases hp : p1 = p2
   · subst hk hp
     have e1 : (k1 == k1) = true := beq_self_eq_true _
     have e2 : (p1 == p1) = true := beq_self_eq_true _
     rw [decide_eq_true rfl, decide_eq_true rfl, Bool.true_and, Bool.true_and]
     go_enter Tryz.func27, Tryz.ntmps27
     go_wp2_with (go_at_call 67; refine hs.mono ?_; rintro e w5 ⟨rfl, b5⟩)
     go_ret
     exact ⟨rfl, hbW.trans (b5.mono hbW.size)⟩
   · subst hk
     have e1 : (k1 == k1) = true := beq_self_eq_true _
     have e2 : (p1 == p2) = false := beq_eq_false_iff_ne.2 hp
     rw [decide_eq_true rfl, decide_eq_false hp, Bool.true_and, Bool.false_and]
     clear hs hp
     go_enter Tryz.func27, Tryz.ntmps27
     go_wp2_with fail
     go_ret
     exact ⟨rfl, hbW⟩
 · have e1 : (k1 == k2) = false := beq_eq_false_iff_ne.2 hk
   rw [decide_eq_false hk, Bool.false_and, Bool.false_and]
   clear hs hk
   go_enter Tryz.func27, Tryz.ntmps27
   go_wp2_with fail
   go_ret
   exact ⟨rfl, hbW⟩
theorem rzero_c (n1 : Bool) (A1 : Option Addr) (c1 : Nat) (l1 : List Nat) (z1 : Int) (w : World) (I1 : IV w n1 A1 c1 l1 z1) :
 Calls Tryz.prog 93 #[iv n1 A1 l1.length c1] w fun e w' => e = .returned (.bool (decide (z1 = 0))) ∧ Below w.heap.size w w' := by
 obtain ⟨W, hW, hbW, K0, hszW⟩ := box1 w #[.bool n1, .slice A1 l1.length c1] 24
 obtain ⟨x0, x1⟩ := cL2 K0.h
 have h := len_zero I1
 generalize decide (z1 = 0) = b at *
 go_enter Tryz.func93, Tryz.ntmps93
 go_wp2_with fail
 go_ret
 exact ⟨rfl, hbW⟩
theorem blk4_s0 {W : World} {g : Nat} {x x0 y z u : Value} {t : TypeId} (h : Blk W g #[x0, y, z, u] t) : Blk (W.setCell ⟨g, 0, none⟩ x) g #[x, y, z, u] t := ⟨set_blk h.h 0 x⟩
theorem blk4_s1 {W : World} {g : Nat} {x y0 y z u : Value} {t : TypeId} (h : Blk W g #[x, y0, z, u] t) : Blk (W.setCell ⟨g, 1, none⟩ y) g #[x, y, z, u] t := ⟨set_blk h.h 1 y⟩
theorem blk4_s2 {W : World} {g : Nat} {x y z0 z u : Value} {t : TypeId} (h : Blk W g #[x, y, z0, u] t) : Blk (W.setCell ⟨g, 2, none⟩ z) g #[x, y, z, u] t := ⟨set_blk h.h 2 z⟩
theorem blk4_s3 {W : World} {g : Nat} {x y z u0 u : Value} {t : TypeId} (h : Blk W g #[x, y, z, u0] t) : Blk (W.setCell ⟨g, 3, none⟩ u) g #[x, y, z, u] t := ⟨set_blk h.h 3 u⟩
theorem iv_set4 {W : World} {g i : Nat} {v : Value} {s b b' : Bool} {A B B' : Option Addr} {c n d n' d' : Nat} {l : List Nat} {z : Int} {t : TypeId} (h : IV W s A c l z) (hb : Blk W g #[.bool b, .slice B n d, .bool b', .slice B' n' d'] t) : IV (W.setCell ⟨g, i, none⟩ v) s A c l z := ⟨rd_set h.rd hb ccells_no i v, h.cap, h.isZ⟩
theorem is_c (x : VA) (w : World) (h1 : x.At w) :
 Calls Tryz.prog 31 #[x.val] w fun e w' => e = .returned (.bool x.ok) ∧ Below w.heap.size w w' := by
 obtain ⟨k, p, s, A, c, l, S, B, m, d⟩ := x
 have h1' : Rd w A l := h1.rd
 have hc1 : l.length ≤ c := h1.cap
 unfold VA.ok isD
 dsimp only [VA.val]
 obtain ⟨W, hW, hbW, K0, hszW⟩ := box1 w #[.int .i64 k, .int .i64 p, .bool s, .slice A l.length c, .string S, .slice B m d] 27
 obtain ⟨x0, x1, x2, x3, x4, x5⟩ := cL6 K0.h
 have hfm := Formed_calls s A c l W (h1'.on hbW) hc1
 obtain ⟨r, hr⟩ : ∃ r : Bool, (decide (k = 3) && S.toList == [] && decide (m = 0) && decide (1 ≤ p) && decide (p ≤ 20) && okI s l && decide (l.length ≤ 40) && (decide (p = 1) || decide (toZ s l % 10 ≠ 0))) = r := ⟨_, rfl⟩
 rw [hr]
 replace hr := Lib.hid hr
 by_cases h0 : k = 3
 · subst h0
   cases hS : (S.toList == [])
   · obtain rfl : r = false := by rw [← hr.out]; simp [hS]
     clear hr hfm
     go_enter Tryz.func31, Tryz.ntmps31
     go_wp2_with fail
     go_ret
     exact ⟨rfl, hbW⟩
   · by_cases hm : m = 0
     · subst hm
       by_cases hp1 : 1 ≤ p
       · have e3 : decide (p < 1) = false := decide_eq_false (by omega)
         by_cases hp2 : p ≤ 20
         · have e4 : decide ((20 : Int) < p) = false := decide_eq_false (by omega)
           cases hok : okI s l
           · rw [hok] at hfm
             obtain rfl : r = false := by rw [← hr.out]; simp [hok]
             clear hr hp1 hp2
             go_enter Tryz.func31, Tryz.ntmps31
             go_wp2_with (go_at_call 70; refine hfm.mono ?_; rintro e w5 ⟨rfl, b5⟩; obtain ⟨x0, x1, x2, x3, x4, x5⟩ := cL6 (K0.on b5).h)
             go_ret
             exact ⟨rfl, hbW.trans (b5.mono hbW.size)⟩
           · rw [hok] at hfm
             by_cases h40 : l.length ≤ 40
             · have e40 : decide ((40 : Int) < (l.length : Int)) = false := decide_eq_false (by omega)
               by_cases hp : p = 1
               · have ep : (p == 1) = true := by rw [hp]; rfl
                 obtain rfl : r = true := by rw [← hr.out]; simp [hok, h40, hp, hS]
                 clear hr hp1 hp2 hp
                 go_enter Tryz.func31, Tryz.ntmps31
                 go_wp2_with (go_at_call 70; refine hfm.mono ?_; rintro e w5 ⟨rfl, b5⟩; obtain ⟨x0, x1, x2, x3, x4, x5⟩ := cL6 (K0.on b5).h)
                 go_ret
                 exact ⟨rfl, hbW.trans (b5.mono hbW.size)⟩
               · have ep : (p == 1) = false := beq_eq_false_iff_ne.2 hp
                 have hz := (okZ_of h1'.words hok).isZ
                 generalize toZ s l = z at *
                 have I0 : IV w s A c l z := ⟨h1', hc1, hz⟩
                 have f0 : Lz 40 z := (len_le_iff I0).1 h40
                 replace hr : Hid (r = decide (z % 10 ≠ 0)) := by
                  show r = _
                  rw [← hr.out]
                  simp [hok, h40, hp, hp1, hp2, hS]
                 clear hok hp2 h40 hp1 hp
                 go_enter Tryz.func31, Tryz.ntmps31
                 go_upto_region 7 with (go_at_call 70; refine hfm.mono ?_; rintro e w5 ⟨rfl, b5⟩; obtain ⟨x0, x1, x2, x3, x4, x5⟩ := cL6 (K0.on b5).h)
                 clear hfm e3 e4 e40 ep
                 have hb5 := hbW.trans (b5.mono hbW.size)
                 replace K0 := K0.on b5
                 have I5 := I0.on hb5
                 clear x0 x1 x2 x3 x4 x5
                 go_cut [3] from 42 to 45 (fun pv wx => ∃ G s1 A1' c1' l1' s2 A2' c2' l2', pv = .pointer (some ⟨G, 0, none⟩) ∧ Blk wx G #[.bool s1, .slice A1' (List.length l1') c1', .bool s2, .slice A2' (List.length l2') c2'] 111 ∧ IV wx s1 A1' c1' l1' (z / 10) ∧ IV wx s2 A2' c2' l2' (z % 10) ∧ Below w5.heap.size w5 wx ∧ w5.heap.size ≤ G)
                 case first =>
                  have hdiv := fun W' (h : Below w5.heap.size w5 W') s' A' c' l' (I : IV W' s' A' c' l' 10) => rdiv_i s s' A A' c c' l l' z 10 W' (I5.on h) I f0 (Lz.small (k := 1) (by decide) (by decide)) (by decide) (by decide) (by decide)
                  have x2 := cell_at K0.h 2 _ rfl
                  have x3 := cell_at K0.h 3 _ rfl
                  go_region_held3 (fun w'' => w''.cell? ⟨w.heap.size, 2, none⟩ = some (.bool s) ∧ w''.cell? ⟨w.heap.size, 3, none⟩ = some (.slice A l.length c)) ((first | (with_reducible exact ⟨x2, x3⟩) | (with_reducible exact rd2 ⟨x2, x3⟩) | (refine keep_two K0 ?_; (repeat' (with_reducible first | exact Below.refl _ _ | exact q6 | exact q7 | refine below_drew ?_ | refine below_al ?_ _ | refine below_set ?_ _ ?_)); (all_goals (first | exact q6.size | exact q7.size | exact Nat.le_refl _)))))
                   ((first
                    | (go_at_call 103; have hmark := q6; refine (hdiv _ (by (repeat' (with_reducible first | exact Below.refl _ _ | exact q6 | exact q7 | refine below_drew ?_ | refine below_al ?_ _ | refine below_set ?_ _ ?_))) _ _ _ _ (by (repeat' (with_reducible first | exact I6 | refine iv_up ?_)))).mono ?_; rintro e w7 ⟨s7, A7, c7, l7, s8, A8, c8, l8, rfl, I7, I8, b7⟩; have p7 : Below w6.heap.size w6 w7 := (by refine below_via ?_ b7; (repeat' (with_reducible first | exact Below.refl _ _ | exact q6 | exact q7 | refine below_drew ?_ | refine below_al ?_ _ | refine below_set ?_ _ ?_))); have q7 := q6.trans (p7.mono q6.size); (try (replace Ta := Ta.on p7)); (first | (have Ta : Blk w7 w6.heap.size #[.bool false, .slice none 0 0, .bool false, .slice none 0 0] 111 := (by with_reducible exact blk_al1 b7)) | skip); clear x2 x3; have x2 : w7.cell? ⟨w.heap.size, 2, none⟩ = some (.bool s) := cell_at (K0.on q7).h 2 _ rfl; have x3 : w7.cell? ⟨w.heap.size, 3, none⟩ = some (.slice A l.length c) := cell_at (K0.on q7).h 3 _ rfl; (try (have ta0 := cell_at Ta.h 0 _ rfl; have ta1 := cell_at Ta.h 1 _ rfl; have ta2 := cell_at Ta.h 2 _ rfl; have ta3 := cell_at Ta.h 3 _ rfl; have ta4 := frozen_at Ta.h 0; have ta5 := frozen_at Ta.h 1; have ta6 := frozen_at Ta.h 2; have ta7 := frozen_at Ta.h 3)))
                    | (go_at_call 45; refine (rof_i 10 _ (by decide) (by decide)).mono ?_; rintro e w6 ⟨s6, A6, c6, l6, rfl, I6, b6⟩; have q6 : Below w5.heap.size w5 w6 := (by refine below_via ?_ b6; (repeat' (with_reducible first | exact Below.refl _ _ | exact q6 | exact q7 | refine below_drew ?_ | refine below_al ?_ _ | refine below_set ?_ _ ?_))); have p6 := q6; (first | (have Ta : Blk w6 w5.heap.size #[.bool false, .slice none 0 0, .bool false, .slice none 0 0] 111 := (by with_reducible exact blk_al1d b6)) | skip); clear x2 x3; have x2 : w6.cell? ⟨w.heap.size, 2, none⟩ = some (.bool s) := cell_at (K0.on q6).h 2 _ rfl; have x3 : w6.cell? ⟨w.heap.size, 3, none⟩ = some (.slice A l.length c) := cell_at (K0.on q6).h 3 _ rfl)))
                  all_goals
                   go_wp2_with fail
                   go_meet
                   refine ⟨_, s7, A7, c7, l7, s8, A8, c8, l8, rfl, ?_, ?_, ?_, ?_, ?_⟩
                   all_goals (repeat' (with_reducible first | exact I7 | exact I8 | exact Ta | exact q7 | exact blk_new _ _ _ | apply blk_drew | apply iv_drew | apply below_drew | apply blk_up | apply iv_up | apply below_al | apply blk4_s3 | apply blk4_s2 | apply blk4_s1 | apply blk4_s0 | apply iv_set4 | apply below_set))
                   all_goals (first | exact q6.size | exact q7.size | exact Nat.le_refl _)
                 case rest =>
                  obtain ⟨G, s9, A9, c9, l9, s8, A8, c8, l8, rfl, KG, IG, IR, bG, hG⟩ := hcut
                  have g2 := cell_at KG.h 2 _ rfl
                  have g3 := cell_at KG.h 3 _ rfl
                  have hzc := rzero_c s8 A8 c8 l8 (z % 10) wc IR
                  have hbc := hb5.trans (bG.mono hb5.size)
                  have hd : r = !decide (z % 10 = 0) := by rw [hr.out]; simp
                  clear I0 I5 f0 hz hr
                  obtain ⟨zb, hzb⟩ : ∃ zb, decide (z % 10 = 0) = zb := ⟨_, rfl⟩
                  rw [hzb] at hd hzc
                  subst hd
                  clear hzb
                  go_wp2_with (go_at_call 93; refine hzc.mono ?_; rintro e w9 ⟨rfl, b9⟩)
                  go_ret
                  exact ⟨rfl, hbc.trans (b9.mono hbc.size)⟩
             · have e40 : decide ((40 : Int) < (l.length : Int)) = true := decide_eq_true (by omega)
               obtain rfl : r = false := by rw [← hr.out]; simp [h40]
               clear hr hp1 hp2
               go_enter Tryz.func31, Tryz.ntmps31
               go_wp2_with (go_at_call 70; refine hfm.mono ?_; rintro e w5 ⟨rfl, b5⟩; obtain ⟨x0, x1, x2, x3, x4, x5⟩ := cL6 (K0.on b5).h)
               go_ret
               exact ⟨rfl, hbW.trans (b5.mono hbW.size)⟩
         · have e4 : decide ((20 : Int) < p) = true := decide_eq_true (by omega)
           obtain rfl : r = false := by rw [← hr.out]; simp [hp2]
           clear hr hfm hp1
           go_enter Tryz.func31, Tryz.ntmps31
           go_wp2_with fail
           go_ret
           exact ⟨rfl, hbW⟩
       · have e3 : decide (p < 1) = true := decide_eq_true (by omega)
         obtain rfl : r = false := by rw [← hr.out]; simp [hp1]
         clear hr hfm
         go_enter Tryz.func31, Tryz.ntmps31
         go_wp2_with fail
         go_ret
         exact ⟨rfl, hbW⟩
     · have hm' : 0 < m := by omega
       obtain rfl : r = false := by rw [← hr.out]; simp [hm]
       clear hr hfm
       go_enter Tryz.func31, Tryz.ntmps31
       go_wp2_with fail
       go_ret
       exact ⟨rfl, hbW⟩
 · have e0 : (k != 3) = true := by rw [bne_iff_ne]; exact h0
   obtain rfl : r = false := by rw [← hr.out]; simp [h0]
   clear hr hfm
   go_enter Tryz.func31, Tryz.ntmps31
   go_wp2_with fail
   go_ret
   exact ⟨rfl, hbW⟩
end Dc
end Go.Proofs.YtjghnghceeijeaaGreatDoor
