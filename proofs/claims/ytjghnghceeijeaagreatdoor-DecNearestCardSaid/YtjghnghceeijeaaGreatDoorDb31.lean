/-
  Contracts of the walks below.
-/
import Derived.Test.YtjghnghceeijeaaGreatDoorDb30
set_option maxRecDepth 100000
set_option maxHeartbeats 4000000
set_option linter.unusedVariables false
set_option linter.unusedSimpArgs false
namespace Go.Proofs.YtjghnghceeijeaaGreatDoor
namespace Dc
open Go.RowKit Go.Shelf Go.BigFrame Go.Proofs.YtjghnghceeijeaaGreatDoor.Nm
attribute [local go_sem] Oper.semAt_some
theorem fit_small {z : Int} (h : z.natAbs < 340282366920938463463374607431768211456) : fitZ z = (z, 0) := by
 unfold fitZ
 rw [if_pos (Nat.le_trans (length_le_of_lt (k := 4) h) (by decide))]
def RetN (k p er z : Int) (w : World) (e : Ending) (w' : World) : Prop := ∃ s A c l, e = .returned (.tuple #[vv k p s A (List.length l) c ⟨#[]⟩ none 0 0, .int .i64 er]) ∧ IV w' s A c l z ∧ Below w.heap.size w w'
theorem RetN.of {x : DR} {k p er z : Int} {w : World} {e : Ending} {w' : World} (h : RetV x w e w') (hx : x = (z, p.toNat, er)) (hk : kd (z, p.toNat, er) = k) (hp : 0 ≤ p) : RetN k p er z w e w' := by
 subst hx
 obtain ⟨v, h1, ⟨s, A, c, l, h2, h3⟩, h4⟩ := h
 refine ⟨s, A, c, l, ?_, h3, h4⟩
 rw [h1, h2, hk]
 dsimp only
 rw [Int.toNat_of_nonneg hp]
theorem va_z {w : World} {s : Bool} {A : Option Addr} {c : Nat} {l : List Nat} {z : Int} (I : IV w s A c l z) (p : Int) (B : Option Addr) (d : Nat) : (VA.mk 3 p s A c l ⟨#[]⟩ B 0 d).z = z := I.isZ.toZ
theorem isD_small {z : Int} {p : Nat} (h1 : 1 ≤ p) (h2 : p ≤ 20) (hz : z.natAbs < 4294967296) (ht : p = 1 ∨ z % 10 ≠ 0) : IsD z p := ⟨h1, h2, (Lz.small hz (by decide)).len, fun h => ht.resolve_left (by omega)⟩
theorem made_small {z z' : Int} {p p' : Nat} (h : madeZ z p = (z', p')) (hz : z'.natAbs < 340282366920938463463374607431768211456) : madeE z p = (z', p', 0) :=
 madeE_of h ((Lz.of (k := 4) hz).mono (by decide))
def RetA' (z p : Int) (w : World) (e : Ending) (w' : World) : Prop := ∃ s A c l B d, e = .returned (vv 3 p s A (List.length l) c ⟨#[]⟩ B 0 d) ∧ IV w' s A c l z ∧ Below w.heap.size w w'
theorem of_1_1 (w : World) : Calls Tryz.prog 74 #[.int .i64 (1), .int .i64 1] w (RetA' (1) 1 w) := of_calls (1) 1 (1) 1 (made_small (by decide) (by decide)) (by decide) (by decide) (by decide) w
theorem of_2_1 (w : World) : Calls Tryz.prog 74 #[.int .i64 (2), .int .i64 1] w (RetA' (2) 1 w) := of_calls (2) 1 (2) 1 (made_small (by decide) (by decide)) (by decide) (by decide) (by decide) w
theorem of_2_0 (w : World) : Calls Tryz.prog 74 #[.int .i64 (2), .int .i64 0] w (RetA' (20) 1 w) := of_calls (2) 0 (20) 1 (made_small (by decide) (by decide)) (by decide) (by decide) (by decide) w
theorem of_3_0 (w : World) : Calls Tryz.prog 74 #[.int .i64 (3), .int .i64 0] w (RetA' (30) 1 w) := of_calls (3) 0 (30) 1 (made_small (by decide) (by decide)) (by decide) (by decide) (by decide) w
theorem of_1_0 (w : World) : Calls Tryz.prog 74 #[.int .i64 (1), .int .i64 0] w (RetA' (10) 1 w) := of_calls (1) 0 (10) 1 (made_small (by decide) (by decide)) (by decide) (by decide) (by decide) w
theorem of_0_0 (w : World) : Calls Tryz.prog 74 #[.int .i64 (0), .int .i64 0] w (RetA' (0) 1 w) := of_calls (0) 0 (0) 1 (made_small (by decide) (by decide)) (by decide) (by decide) (by decide) w
theorem of_225_2 (w : World) : Calls Tryz.prog 74 #[.int .i64 (225), .int .i64 2] w (RetA' (225) 2 w) := of_calls (225) 2 (225) 2 (made_small (by decide) (by decide)) (by decide) (by decide) (by decide) w
theorem of_25_2 (w : World) : Calls Tryz.prog 74 #[.int .i64 (25), .int .i64 2] w (RetA' (25) 2 w) := of_calls (25) 2 (25) 2 (made_small (by decide) (by decide)) (by decide) (by decide) (by decide) w
theorem of_m25_1 (w : World) : Calls Tryz.prog 74 #[.int .i64 (-25), .int .i64 1] w (RetA' (-25) 1 w) := of_calls (-25) 1 (-25) 1 (made_small (by decide) (by decide)) (by decide) (by decide) (by decide) w
theorem of_m5_2 (w : World) : Calls Tryz.prog 74 #[.int .i64 (-5), .int .i64 2] w (RetA' (-5) 2 w) := of_calls (-5) 2 (-5) 2 (made_small (by decide) (by decide)) (by decide) (by decide) (by decide) w
theorem of_3_1 (w : World) : Calls Tryz.prog 74 #[.int .i64 (3), .int .i64 1] w (RetA' (3) 1 w) := of_calls (3) 1 (3) 1 (made_small (by decide) (by decide)) (by decide) (by decide) (by decide) w
theorem of_15_1 (w : World) : Calls Tryz.prog 74 #[.int .i64 (15), .int .i64 1] w (RetA' (15) 1 w) := of_calls (15) 1 (15) 1 (made_small (by decide) (by decide)) (by decide) (by decide) (by decide) w
theorem of_75_1 (w : World) : Calls Tryz.prog 74 #[.int .i64 (75), .int .i64 1] w (RetA' (75) 1 w) := of_calls (75) 1 (75) 1 (made_small (by decide) (by decide)) (by decide) (by decide) (by decide) w
theorem s_add (s1 s2 : Bool) (A1 A2 : Option Addr) (c1 c2 : Nat) (l1 l2 : List Nat) (B1 B2 : Option Addr) (d1 d2 : Nat) (w : World) (I1 : IV w s1 A1 c1 l1 (1)) (I2 : IV w s2 A2 c2 l2 (2)) :
 Calls Tryz.prog 38 #[vv 3 1 s1 A1 l1.length c1 ⟨#[]⟩ B1 0 d1, vv 3 1 s2 A2 l2.length c2 ⟨#[]⟩ B2 0 d2] w (RetN 3 1 0 (3) w) := by
 refine (DAdd_calls (VA.mk 3 1 s1 A1 c1 l1 ⟨#[]⟩ B1 0 d1) (VA.mk 3 1 s2 A2 c2 l2 ⟨#[]⟩ B2 0 d2) w ⟨I1.rd, I1.cap⟩ ⟨I2.rd, I2.cap⟩).mono fun e w' h => RetN.of h ?_ (by decide) (by decide)
 have o1 : (VA.mk 3 1 s1 A1 c1 l1 ⟨#[]⟩ B1 0 d1).ok = true := VA.ok_made (p := 1) I1.isZ (isD_small (by decide) (by decide) (by decide) (by decide))
 have o2 : (VA.mk 3 1 s2 A2 c2 l2 ⟨#[]⟩ B2 0 d2).ok = true := VA.ok_made (p := 1) I2.isZ (isD_small (by decide) (by decide) (by decide) (by decide))
 unfold addX
 rw [two_ok (by rw [o1, o2]; rfl)]
 unfold VA.u
 rw [va_z I1, va_z I2]
 show madeE (unitsZ 1 1 + unitsZ 2 1) 20 = _
 exact made_small (by decide) (by decide)
theorem s_div (s1 s2 : Bool) (A1 A2 : Option Addr) (c1 c2 : Nat) (l1 l2 : List Nat) (B1 B2 : Option Addr) (d1 d2 : Nat) (w : World) (I1 : IV w s1 A1 c1 l1 (20)) (I2 : IV w s2 A2 c2 l2 (30)) :
 Calls Tryz.prog 36 #[vv 3 1 s1 A1 l1.length c1 ⟨#[]⟩ B1 0 d1, vv 3 1 s2 A2 l2.length c2 ⟨#[]⟩ B2 0 d2] w (RetN 3 20 0 (66666666666666666667) w) := by
 refine (DDiv_calls (VA.mk 3 1 s1 A1 c1 l1 ⟨#[]⟩ B1 0 d1) (VA.mk 3 1 s2 A2 c2 l2 ⟨#[]⟩ B2 0 d2) w ⟨I1.rd, I1.cap⟩ ⟨I2.rd, I2.cap⟩).mono fun e w' h => RetN.of h ?_ (by decide) (by decide)
 have o1 : (VA.mk 3 1 s1 A1 c1 l1 ⟨#[]⟩ B1 0 d1).ok = true := VA.ok_made (p := 1) I1.isZ (isD_small (by decide) (by decide) (by decide) (by decide))
 have o2 : (VA.mk 3 1 s2 A2 c2 l2 ⟨#[]⟩ B2 0 d2).ok = true := VA.ok_made (p := 1) I2.isZ (isD_small (by decide) (by decide) (by decide) (by decide))
 unfold divX
 rw [two_ok (by rw [o1, o2]; rfl)]
 unfold VA.u
 rw [va_z I1, va_z I2, if_neg (by decide)]
 show madeE (nearZ (unitsZ 20 1 * 10 ^ 20) (unitsZ 30 1)) 20 = _
 exact made_small (by decide) (by decide)
theorem s_zero (s1 s2 : Bool) (A1 A2 : Option Addr) (c1 c2 : Nat) (l1 l2 : List Nat) (B1 B2 : Option Addr) (d1 d2 : Nat) (w : World) (I1 : IV w s1 A1 c1 l1 (10)) (I2 : IV w s2 A2 c2 l2 (0)) :
 Calls Tryz.prog 36 #[vv 3 1 s1 A1 l1.length c1 ⟨#[]⟩ B1 0 d1, vv 3 1 s2 A2 l2.length c2 ⟨#[]⟩ B2 0 d2] w (RetN 0 0 20 (0) w) := by
 refine (DDiv_calls (VA.mk 3 1 s1 A1 c1 l1 ⟨#[]⟩ B1 0 d1) (VA.mk 3 1 s2 A2 c2 l2 ⟨#[]⟩ B2 0 d2) w ⟨I1.rd, I1.cap⟩ ⟨I2.rd, I2.cap⟩).mono fun e w' h => RetN.of h ?_ (by decide) (by decide)
 have o1 : (VA.mk 3 1 s1 A1 c1 l1 ⟨#[]⟩ B1 0 d1).ok = true := VA.ok_made (p := 1) I1.isZ (isD_small (by decide) (by decide) (by decide) (by decide))
 have o2 : (VA.mk 3 1 s2 A2 c2 l2 ⟨#[]⟩ B2 0 d2).ok = true := VA.ok_made (p := 1) I2.isZ (isD_small (by decide) (by decide) (by decide) (by decide))
 unfold divX
 rw [two_ok (by rw [o1, o2]; rfl)]
 rw [va_z I2, if_pos rfl]
 rfl
theorem s_pow (s1 : Bool) (A1 : Option Addr) (c1 : Nat) (l1 : List Nat) (B1 : Option Addr) (d1 : Nat) (w : World) (I1 : IV w s1 A1 c1 l1 (20)) :
 Calls Tryz.prog 18 #[vv 3 1 s1 A1 l1.length c1 ⟨#[]⟩ B1 0 d1, .int .i64 (-2)] w (RetN 3 2 0 (25) w) := by
 have o1 : (VA.mk 3 1 s1 A1 c1 l1 ⟨#[]⟩ B1 0 d1).ok = true := VA.ok_made (p := 1) I1.isZ (isD_small (by decide) (by decide) (by decide) (by decide))
 have hf : (lim ((VA.mk 3 1 s1 A1 c1 l1 ⟨#[]⟩ B1 0 d1).z ^ (-2 : Int).natAbs).natAbs).length ≤ 300 := by rw [va_z I1]; exact ((Lz.of (k := 1) (by decide) : Lz 1 ((20 : Int) ^ (-2 : Int).natAbs)).mono (by decide : 1 ≤ 300)).len
 refine (DPow_calls (VA.mk 3 1 s1 A1 c1 l1 ⟨#[]⟩ B1 0 d1) (-2) (by decide) (by decide) w ⟨I1.rd, I1.cap⟩ o1 (by decide) (by decide) (by rw [va_z I1]; decide) (by decide) (by rw [show (VA.mk 3 1 s1 A1 c1 l1 ⟨#[]⟩ B1 0 d1).q = 1 from rfl]; decide) hf).mono fun e w' h => RetN.of h ?_ (by decide) (by decide)
 unfold powX
 rw [one_ok o1]
 rw [va_z I1, if_neg (by decide), if_neg (by decide), show (VA.mk 3 1 s1 A1 c1 l1 ⟨#[]⟩ B1 0 d1).q = 1 from rfl, if_neg (by decide), if_pos (((Lz.of (k := 1) (by decide) : Lz 1 ((20 : Int) ^ (-2 : Int).natAbs)).mono (by decide : 1 ≤ 300)).len), if_pos (by decide)]
 exact made_small (by decide) (by decide)
theorem s_sqrt (s1 : Bool) (A1 : Option Addr) (c1 : Nat) (l1 : List Nat) (B1 : Option Addr) (d1 : Nat) (w : World) (I1 : IV w s1 A1 c1 l1 (225)) :
 Calls Tryz.prog 19 #[vv 3 2 s1 A1 l1.length c1 ⟨#[]⟩ B1 0 d1] w (RetN 3 1 0 (15) w) := by
 refine (DSqrt_calls (VA.mk 3 2 s1 A1 c1 l1 ⟨#[]⟩ B1 0 d1) w ⟨I1.rd, I1.cap⟩).mono fun e w' h => RetN.of h ?_ (by decide) (by decide)
 have o1 : (VA.mk 3 2 s1 A1 c1 l1 ⟨#[]⟩ B1 0 d1).ok = true := VA.ok_made (p := 2) I1.isZ (isD_small (by decide) (by decide) (by decide) (by decide))
 unfold sqrtX
 rw [one_ok o1]
 unfold VA.u
 rw [va_z I1, if_neg (by decide)]
 rw [show VA.q (VA.mk 3 2 s1 A1 c1 l1 ⟨#[]⟩ B1 0 d1) = 2 from rfl]
 have h : rootN (unitsZ 225 2 * 10 ^ 20).natAbs 2 = 150000000000000000000 := by
  refine rootTo_of ⟨by decide, fun r hr => ?_⟩ _ (by decide)
  rcases Nat.lt_or_ge 150000000000000000000 r with h | h
  · have h1 := Nat.pow_le_pow_left (Nat.succ_le_of_lt h) 2
    exact absurd (Nat.le_trans h1 hr) (by decide)
  · exact h
 rw [h]
 exact made_small (by decide) (by decide)
theorem s_round (s1 : Bool) (A1 : Option Addr) (c1 : Nat) (l1 : List Nat) (B1 : Option Addr) (d1 : Nat) (w : World) (I1 : IV w s1 A1 c1 l1 (25)) :
 Calls Tryz.prog 49 #[vv 3 2 s1 A1 l1.length c1 ⟨#[]⟩ B1 0 d1, .int .i64 1] w (RetN 3 1 0 (2) w) := by
 refine (DRound_calls (VA.mk 3 2 s1 A1 c1 l1 ⟨#[]⟩ B1 0 d1) 1 w ⟨I1.rd, I1.cap⟩).mono fun e w' h => RetN.of h ?_ (by decide) (by decide)
 have o1 : (VA.mk 3 2 s1 A1 c1 l1 ⟨#[]⟩ B1 0 d1).ok = true := VA.ok_made (p := 2) I1.isZ (isD_small (by decide) (by decide) (by decide) (by decide))
 unfold roundX
 rw [one_ok o1]
 rw [va_z I1]
 show (if (1 : Int) < 0 ∨ 20 < (1 : Int) then err 1 else if (2 : Int) ≤ 1 then ((25 : Int), 2, 0) else madeE (nearZ 25 (10 ^ (2 - 1))) 1) = _
 rw [if_neg (by decide), if_neg (by decide)]
 exact made_small (by decide) (by decide)
theorem s_ceil (s1 : Bool) (A1 : Option Addr) (c1 : Nat) (l1 : List Nat) (B1 : Option Addr) (d1 : Nat) (w : World) (I1 : IV w s1 A1 c1 l1 (-25)) :
 Calls Tryz.prog 52 #[vv 3 1 s1 A1 l1.length c1 ⟨#[]⟩ B1 0 d1] w (RetIE (-2, 0) w) := by
 have h := DCeil_calls (VA.mk 3 1 s1 A1 c1 l1 ⟨#[]⟩ B1 0 d1) w ⟨I1.rd, I1.cap⟩
 have o1 : (VA.mk 3 1 s1 A1 c1 l1 ⟨#[]⟩ B1 0 d1).ok = true := VA.ok_made (p := 1) I1.isZ (isD_small (by decide) (by decide) (by decide) (by decide))
 have e : ceilX (VA.mk 3 1 s1 A1 c1 l1 ⟨#[]⟩ B1 0 d1) = (-2, 0) := by
  unfold ceilX
  rw [if_pos o1, va_z I1]
  show (-((- (-25 : Int)) / 10 ^ 1), (0 : Int)) = _
  decide
 rw [e] at h
 exact h
theorem s_text (s1 : Bool) (A1 : Option Addr) (c1 : Nat) (l1 : List Nat) (B1 : Option Addr) (d1 : Nat) (w : World) (hd : DigW w) (I1 : IV w s1 A1 c1 l1 (-5)) :
 Calls Tryz.prog 23 #[vv 3 2 s1 A1 l1.length c1 ⟨#[]⟩ B1 0 d1] w fun e w' => e = .returned (.tuple #[.string ⟨#[45, 48, 46, 48, 53]⟩, .int .i64 0]) ∧ Below w.heap.size w w' := by
 have h := DText_calls (VA.mk 3 2 s1 A1 c1 l1 ⟨#[]⟩ B1 0 d1) w ⟨I1.rd, I1.cap⟩ hd
 have o1 : (VA.mk 3 2 s1 A1 c1 l1 ⟨#[]⟩ B1 0 d1).ok = true := VA.ok_made (p := 2) I1.isZ (isD_small (by decide) (by decide) (by decide) (by decide))
 have e : textX (VA.mk 3 2 s1 A1 c1 l1 ⟨#[]⟩ B1 0 d1) = ([45, 48, 46, 48, 53], 0) := by
  unfold textX
  rw [if_pos o1, va_z I1]
  show (decL (-5) 2, _) = _
  unfold decL
  have h : textL false 10 (Int.natAbs (-5)) = [53] := by
   show textL false 10 5 = _
   unfold textL
   rw [if_neg (by decide), digs_pos (by decide) (by decide), show 5 / 10 = 0 from rfl, digs_zero]
   rfl
  rw [h]
  rfl
 rw [e] at h
 exact h
theorem cut_sane : Cutted ⟨#[48, 48, 55, 46, 53, 48]⟩ false ⟨#[48, 48, 55]⟩ ⟨#[53, 48]⟩ ⟨#[53]⟩ 75 where
 size := by decide
 cut := ⟨⟨#[48, 48, 55, 46, 53, 48]⟩, by decide, by decide, by decide⟩
 pre := by decide
 front := by decide
 behind := by decide
 kept := by decide
 fsize := by decide
 bsize := by decide
 ksize := by decide
 ok := by decide
 pos := by decide
 val := by decide
 fit := fit_small (by decide)
 lz := Lz.small (by decide) (by decide)
theorem s_parse (w : World) (m : Int) (hm : w.cell? ⟨1, 0, none⟩ = some (.int .i64 m)) : Calls Tryz.prog 25 #[.string ⟨#[48, 48, 55, 46, 53, 48]⟩] w (RetN 3 1 0 75 w) :=
 (DParse_calls _ _ _ _ false 75 w m hm cut_sane).mono fun e w' h => RetN.of h (made_small (by decide) (by decide)) (by decide) (by decide)
theorem rcut_sane : RCut ⟨#[48, 46, 54, 54, 54, 54, 54, 54, 54, 54, 54, 54, 54, 54, 54, 54, 54, 54, 54, 54, 54, 55]⟩ 1 20 66666666666666666667 where
 size := by decide
 npos := by decide
 mpos := by decide
 tot := by decide
 front := by decide
 point := by decide
 behind := by decide
 last := by decide
 m20 := by decide
 ok := by decide
 pos := by decide
 val := by decide
 fit := fit_small (by decide)
 lz := (Lz.of (k := 4) (by decide)).mono (by decide)
theorem s_rparse (w : World) : Calls Tryz.prog 26 #[.string ⟨#[48, 46, 54, 54, 54, 54, 54, 54, 54, 54, 54, 54, 54, 54, 54, 54, 54, 54, 54, 54, 54, 55]⟩] w (RetG (66666666666666666667, 20, 0) w) := by
 have h := rparse_good _ _ _ _ w rcut_sane
 rw [made_small (z' := 66666666666666666667) (p' := 20) (by decide) (by decide)] at h
 exact h
theorem s_ratio (n1 n2 : Bool) (A1 A2 : Option Addr) (c1 c2 : Nat) (l1 l2 : List Nat) (w : World) (I1 : IV w n1 A1 c1 l1 1) (I2 : IV w n2 A2 c2 l2 4) :
 Calls Tryz.prog 65 #[iv n1 A1 l1.length c1, iv n2 A2 l2.length c2] w fun e w' => ∃ s A c l s' A' c' l' s3 A3 c3 l3, e = .returned (.tuple #[vv 3 2 s A (List.length (l : List Nat)) c ⟨#[]⟩ none 0 0, .agg #[.bool s', .slice A' (List.length (l' : List Nat)) c', .bool s3, .slice A3 (List.length (l3 : List Nat)) c3], .int .i64 0]) ∧ IV w' s A c l 25 ∧ IV w' s3 A3 c3 l3 0 ∧ Below w.heap.size w w' := by
 have h := DRatio_calls n1 n2 A1 A2 c1 c2 l1 l2 w I1.rd I1.cap I2.rd I2.cap
 have k1 := I1.ok (Lz.small (k := 300) (by decide) (by decide)) (by decide)
 have k2 := I2.ok (Lz.small (k := 300) (by decide) (by decide)) (by decide)
 have e0 : ratE n1 l1 n2 l2 = 0 := by
  unfold ratE
  have hl : l1.length ≤ 1 := by rw [I1.len]; exact (Lz.small (k := 1) (by decide) (by decide)).len
  rw [k1.ok, k2.ok, k2.val, if_pos (by decide), if_neg (by decide), if_neg (by omega)]
 have e1 : ratX n1 l1 n2 l2 = (25, 2, 0) := by
  unfold ratX
  rw [if_pos e0, k1.val, k2.val]
  exact made_small (by decide) (by decide)
 have e2 : ratR n1 l1 n2 l2 = 0 := by
  unfold ratR
  rw [e1, if_pos rfl, k1.val, k2.val]
  decide
 rw [e1, e2] at h
 exact h.mono fun e w' ⟨v, s, A, c, l, s', A', c', l', h1, ⟨s1, A1, c1, l1, h2, h3⟩, _, h5, h6⟩ => ⟨s1, A1, c1, l1, s, A, c, l, s', A', c', l', by rw [h1, h2]; rfl, h3, h5, h6⟩
theorem s_check (s1 : Bool) (A1 : Option Addr) (c1 : Nat) (l1 : List Nat) (B1 : Option Addr) (d1 : Nat) (w : World) (I1 : IV w s1 A1 c1 l1 20) :
 Calls Tryz.prog 59 #[vv 3 1 s1 A1 l1.length c1 ⟨#[]⟩ B1 0 d1] w fun e w' => e = .returned (.int .i64 0) ∧ Below w.heap.size w w' := by
 have h := check_c (VA.mk 3 1 s1 A1 c1 l1 ⟨#[]⟩ B1 0 d1) w ⟨I1.rd, I1.cap⟩
 have o1 : (VA.mk 3 1 s1 A1 c1 l1 ⟨#[]⟩ B1 0 d1).ok = true := VA.ok_made (p := 1) I1.isZ (isD_small (by decide) (by decide) (by decide) (by decide))
 rw [if_pos o1] at h
 exact h
theorem s_check_no (s1 : Bool) (A1 : Option Addr) (c1 : Nat) (l1 : List Nat) (B1 : Option Addr) (d1 : Nat) (w : World) (I1 : IV w s1 A1 c1 l1 20) :
 Calls Tryz.prog 59 #[vv 3 2 s1 A1 l1.length c1 ⟨#[]⟩ B1 0 d1] w fun e w' => e = .returned (.int .i64 2) ∧ Below w.heap.size w w' := by
 have h := check_c (VA.mk 3 2 s1 A1 c1 l1 ⟨#[]⟩ B1 0 d1) w ⟨I1.rd, I1.cap⟩
 have o1 : ¬ (VA.mk 3 2 s1 A1 c1 l1 ⟨#[]⟩ B1 0 d1).ok = true := fun ho => by
  obtain ⟨p, s, A, c, l, B, d, e1, i1, D1, e3, e4⟩ := VA.destruct I1.rd.words ho
  have hz := va_z I1 2 B1 d1
  have hp : p = 2 := by
   injection e1 with h1 h2
   omega
  have := D1.ten (by omega)
  rw [hz] at this
  exact this (by decide)
 rw [if_neg o1] at h
 exact h
end Dc
end Go.Proofs.YtjghnghceeijeaaGreatDoor
