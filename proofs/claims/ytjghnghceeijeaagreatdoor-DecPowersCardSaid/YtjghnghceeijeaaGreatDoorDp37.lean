/-
  Contracts of the walks below.
-/
import Derived.Test.YtjghnghceeijeaaGreatDoorDp32
import Derived.Test.YtjghnghceeijeaaGreatDoorDp33
import Derived.Test.YtjghnghceeijeaaGreatDoorDp36
import Derived.Test.YtjghnghceeijeaaGreatDoorTie
import Derived.ChangeMaps5
import Derived.Test.YtjghnghceeijeaaGreatDoorCards
import Derived.SevenTiedAt
import Derived.Lay
import Derived.HandedShaped
import Derived.Shelf.Vars
set_option maxRecDepth 100000
set_option maxHeartbeats 4000000
set_option linter.unusedVariables false
set_option linter.unusedSimpArgs false
namespace Go.Proofs.YtjghnghceeijeaaGreatDoor
namespace Dc
open Go.RowKit Go.Shelf Go.BigFrame Go.Proofs.YtjghnghceeijeaaGreatDoor.Nm
attribute [local go_sem] Oper.semAt_some
abbrev VK (w : World) (g : Nat) (k p : Int) (s : Bool) (A : Option Addr) (n c : Nat) (S : ByteArray) (B : Option Addr) (m d : Nat) : Prop :=
 w.cell? ⟨g, 0, none⟩ = some (.int .i64 k) ∧ w.cell? ⟨g, 1, none⟩ = some (.int .i64 p) ∧ w.cell? ⟨g, 2, none⟩ = some (.bool s) ∧ w.cell? ⟨g, 3, none⟩ = some (.slice A n c) ∧ w.cell? ⟨g, 4, none⟩ = some (.string S) ∧ w.cell? ⟨g, 5, none⟩ = some (.slice B m d)
theorem vk_of {W W' : World} {g : Nat} {k p : Int} {s : Bool} {A : Option Addr} {n c : Nat} {S : ByteArray} {B : Option Addr} {m d : Nat} {t : TypeId} (h : Blk W g #[.int .i64 k, .int .i64 p, .bool s, .slice A n c, .string S, .slice B m d] t) (hb : Below W.heap.size W W') : VK W' g k p s A n c S B m d :=
 cL6 (h.on hb).h
theorem DecPowers_calls (a : VA) (n : Int) (hn1 : -9223372036854775808 ≤ n) (hn2 : n < 9223372036854775808) (w : World) (ha : a.At w) (hd0 : DigW w) (m : Int) (hm : w.cell? ⟨1, 0, none⟩ = some (.int .i64 m)) :
 Calls Tryz.prog 3 #[a.val, .int .i64 n] w fun e w' => e = .returned (.bool true) ∧ Below w.heap.size w w' := by
 obtain ⟨W, hW, hbW, K0, hszW⟩ := box1 w #[.int .i64 a.k, .int .i64 a.p, .bool a.s, .slice a.A a.l.length a.c, .string a.S, .slice a.B a.m a.d] 27
 have hs := sane_c W (hd0.on hbW) m ((hbW.cell (p := ⟨1, 0, none⟩) (World.block_lt_of_cell? w _ hm)).trans hm)
 have hl := fun w5 (h : Below W.heap.size W w5) => light_c w5.heap.size [a] (w5.alloc (.cells #[.int .i64 a.k, .int .i64 a.p, .bool a.s, .slice a.A a.l.length a.c, .string a.S, .slice a.B a.m a.d] 27)) (vals_one a _ _ ⟨World.alloc_heap_new w5 _⟩ (((ha.on hbW).on h).on (al1 w5 _))) (by simp)
 simp only [List.all_cons, List.all_nil, Bool.and_true] at hl
 have hp := fun W' (h : Below W.heap.size W W') => DPow_calls a n hn1 hn2 W' ((ha.on hbW).on h)
 have hq := fun W' (h : Below W.heap.size W W') => DSqrt_calls a W' ((ha.on hbW).on h)
 have hrp := fun W' (h : Below W.heap.size W W') => RPow_calls a n hn1 hn2 W' ((ha.on hbW).on h)
 have hrq := fun W' (h : Below W.heap.size W W') => RSqrt_calls a W' ((ha.on hbW).on h)
 obtain ⟨x, hx⟩ : ∃ x, powX a n = x := ⟨_, rfl⟩
 obtain ⟨y, hy⟩ : ∃ y, sqrtX a = y := ⟨_, rfl⟩
 rw [hx] at hp hrp
 rw [hy] at hq hrq
 obtain ⟨lb, hlb⟩ : ∃ b, lightB a = b := ⟨_, rfl⟩
 rw [hlb] at hl
 clear hx hy hlb hm hd0
 replace hszW := Lib.hid hszW
 obtain ⟨x0, x1, x2, x3, x4, x5⟩ := cL6 K0.h
 cases lb
 · go_enter Tryz.func3, Tryz.ntmps3
   go_wp2_with first
    | (go_at_call 17; have hmark := b5; refine (hl _ b5).mono ?_; rintro e w6 ⟨rfl, rfl⟩)
    | (go_at_call 16; refine hs.mono ?_; rintro e w5 ⟨rfl, b5⟩; clear x0 x1 x2 x3 x4 x5; obtain ⟨x0, x1, x2, x3, x4, x5⟩ := cL6 (K0.on b5).h)
   go_ret
   exact ⟨rfl, hbW.trans ((b5.trans ((al1 w5 (.cells #[.int .i64 a.k, .int .i64 a.p, .bool a.s, .slice a.A a.l.length a.c, .string a.S, .slice a.B a.m a.d] 27)).mono b5.size)).mono hbW.size)⟩
 · rcases (show (300 < n ∧ n ≤ 9600) ∨ (300 < n ∧ ¬ n ≤ 9600 ∧ ¬ n < -300) ∨ (¬ 300 < n ∧ n < -300 ∧ -9600 ≤ n) ∨ (¬ 300 < n ∧ n < -300 ∧ ¬ -9600 ≤ n) ∨ (¬ 300 < n ∧ ¬ n < -300) by omega) with ⟨i1, i2⟩ | ⟨i1, i2, i3⟩ | ⟨i1, i2, i3⟩ | ⟨i1, i2, i3⟩ | ⟨i1, i2⟩
   all_goals
    go_enter Tryz.func3, Tryz.ntmps3
    go_upto_region 6 with first
     | (go_at_call 19; have hmark := q7; refine (hq _ q7').mono ?_; rintro e w8 ⟨v, rfl, ⟨s8, A8, c8, l8, rfl, I8⟩, b8⟩; have q8 := q7'.trans (b8.mono q7'.size))
     | (go_at_call 18; have hmark := q6; refine (hp _ q6).mono ?_; rintro e w7 ⟨v, rfl, ⟨s7, A7, c7, l7, rfl, I7⟩, b7⟩; have q7 := q6.trans (b7.mono q6.size); have a7 := al1 w7 (.cells #[.int .i64 (kd x), .int .i64 (x.2.1 : Int), .bool s7, .slice A7 l7.length c7, .string ⟨#[]⟩, .slice none 0 0] 27); have q7' := q7.trans (a7.mono q7.size); clear x0 x1 x2 x3 x4 x5; obtain ⟨x0, x1, x2, x3, x4, x5⟩ := cL6 (K0.on q7').h)
     | (go_at_call 17; have hmark := b5; refine (hl _ b5).mono ?_; rintro e w6 ⟨rfl, rfl⟩; have q6 := b5.trans ((al1 w5 (.cells #[.int .i64 a.k, .int .i64 a.p, .bool a.s, .slice a.A a.l.length a.c, .string a.S, .slice a.B a.m a.d] 27)).mono b5.size); clear x0 x1 x2 x3 x4 x5; obtain ⟨x0, x1, x2, x3, x4, x5⟩ := cL6 (K0.on q6).h)
     | (go_at_call 16; refine hs.mono ?_; rintro e w5 ⟨rfl, b5⟩; clear x0 x1 x2 x3 x4 x5; obtain ⟨x0, x1, x2, x3, x4, x5⟩ := cL6 (K0.on b5).h)
   all_goals first
    | (go_ret
       exact ⟨rfl, hbW.trans (q6.mono hbW.size)⟩)
    | skip
   all_goals
    obtain ⟨W9, hW9, hb9, KW, hsz9⟩ := box1 w8 #[.int .i64 (kd y), .int .i64 (y.2.1 : Int), .bool s8, .slice A8 l8.length c8, .string ⟨#[]⟩, .slice none 0 0] 27
    rw [hW9]
    have b9 := b8.trans (hb9.mono b8.size)
    have q9 := q8.trans (hb9.mono q8.size)
    have KV := (blk_new w7 #[.int .i64 (kd x), .int .i64 (x.2.1 : Int), .bool s7, .slice A7 l7.length c7, .string ⟨#[]⟩, .slice none 0 0] 27).on b9
    have KA := K0.on q9
    replace I7 := I7.on (a7.trans (b9.mono a7.size))
    replace I8 := I8.on hb9
    have hrp' := fun W' (h : Below W9.heap.size W9 W') => hrp W' (q9.trans (h.mono q9.size))
    have hrq' := fun W' (h : Below W9.heap.size W9 W') => hrq W' (q9.trans (h.mono q9.size))
    have qW := hbW.trans (q9.mono hbW.size)
    clear x0 x1 x2 x3 x4 x5 hs hl hp hq hrp hrq hW9 b9 hb9 b8 q8 q7' a7 q7 b7 q6 b5 K0 ha
    generalize w8.heap.size = g8 at *
    generalize w7.heap.size = g7 at *
    have HS : ∀ W', Below W9.heap.size W9 W' → (fun w'' => VK w'' g7 (kd x) (x.2.1 : Int) s7 A7 l7.length c7 ⟨#[]⟩ none 0 0 ∧ VK w'' g8 (kd y) (y.2.1 : Int) s8 A8 l8.length c8 ⟨#[]⟩ none 0 0 ∧ VK w'' w.heap.size a.k a.p a.s a.A a.l.length a.c a.S a.B a.m a.d) W' := fun W' q => ⟨vk_of KV q, vk_of KW q, vk_of KA q⟩
    have H0 := HS _ (Below.refl _ _)
    replace HS := Lib.hid HS
    try dsimp only at H0
    go_region_held3 (fun w'' => VK w'' g7 (kd x) (x.2.1 : Int) s7 A7 l7.length c7 ⟨#[]⟩ none 0 0 ∧ VK w'' g8 (kd y) (y.2.1 : Int) s8 A8 l8.length c8 ⟨#[]⟩ none 0 0 ∧ VK w'' w.heap.size a.k a.p a.s a.A a.l.length a.c a.S a.B a.m a.d) ((first | (with_reducible exact H0) | exact H0))
     ((first
      | (go_at_call 20; have hmark := q12; refine (got_calls y s8 s12 A8 A12 c8 c12 l8 l12 B12 d12 _ (I8.on q12) I12).mono ?_; rintro e w13 ⟨rfl, b13⟩; have q13 := q12.trans (b13.mono q12.size); clear H0; have H0 := HS.out _ q13; (try dsimp only at H0))
      | (go_at_call 22; have hmark := q11; refine (hrq' _ q11).mono ?_; rintro e w12 ⟨s12, A12, c12, l12, B12, d12, rfl, I12, b12⟩; have q12 := q11.trans (b12.mono q11.size); clear H0; have H0 := HS.out _ q12; (try dsimp only at H0))
      | (go_at_call 20; have hmark := q10; refine (got_calls x s7 s10 A7 A10 c7 c10 l7 l10 B10 d10 _ (I7.on q10) I10).mono ?_; rintro e w11 ⟨rfl, b11⟩; have q11 := q10.trans (b11.mono q10.size); clear H0; have H0 := HS.out _ q11; (try dsimp only at H0))
      | (go_at_call 21; refine (hrp' _ (below_drew (Below.refl W9.heap.size W9))).mono ?_; rintro e w10 ⟨s10, A10, c10, l10, B10, d10, rfl, I10, b10⟩; have q10 := (below_drew (Below.refl W9.heap.size W9)).trans b10; clear H0; have H0 := HS.out _ q10; (try dsimp only at H0))))
    go_wp2_with fail
    go_ret
    exact ⟨rfl, qW.trans (q13.mono qW.size)⟩
end Dc
end Go.Proofs.YtjghnghceeijeaaGreatDoor
namespace Go.Proofs.YtjghnghceeijeaaGreatDoor
namespace Dc
open Go.ChangeShapes Go.WideShapes Go.ChangeAt Go.WideMaps Go.WideElems Go.RowKit Go.Shelf Go.Proofs.YtjghnghceeijeaaGreatDoor.Nm
theorem laidOut : laidOutB Tryz.prog = true := by kernel_rfl
theorem gDigits : Tryz.prog.globalNamed "zermelo/num.digits" = some 0 := by kernel_rfl
theorem tDigits : (Tryz.prog.globals[0]?).map (·.type) = some 168 := by kernel_rfl
theorem uDigits : Tryz.prog.underlying 168 = some (.array 36 5) := by kernel_rfl
theorem uByte : Tryz.prog.underlying 5 = some (.int .u8) := by kernel_rfl
def tabZ : List Int := [48, 49, 50, 51, 52, 53, 54, 55, 56, 57, 97, 98, 99, 100, 101, 102, 103, 104, 105, 106, 107, 108, 109, 110, 111, 112, 113, 114, 115, 116, 117, 118, 119, 120, 121, 122]
abbrev laidZ : List (String × DataW Unit) := [("unicode/utf8.acceptRanges", Rows.laid_unicode_utf8_acceptRanges), ("zermelo/num.digits", Rows.laid_zermelo_num_digits), ("unicode/utf8.first", Rows.laid_unicode_utf8_first)]
theorem tab_second {P : Program} {W : World} {x : String × DataW Unit} {name : String} {k : IntKind} {zs : List Int} {rest : List (String × DataW Unit)} {g : Nat} {t e : TypeId} {n : Nat}
 (hg : P.globalNamed name = some g) (hty : (P.globals[g]?).map (·.type) = some t) (ht : P.underlying t = some (.array n e)) (he : P.underlying e = some (.int k)) (hce : P.cellsOf e = 1) (hct : P.cellsOf t = n)
 (h : laidMet P (x :: (name, Lib.tabData k zs) :: rest) W) : Lib.TabIs P W name k zs := by
 obtain ⟨ps, ⟨_, _, _, _, _, _, _, _, _, _, ⟨g', t', cs, fuel, p, q, hg', ht', hvar, hd, _, _⟩, _⟩, _⟩ := h
 obtain rfl := Option.some.inj (hg.symm.trans hg')
 obtain rfl := Option.some.inj (hty.symm.trans ht')
 unfold Lib.TabIs
 rw [hvar, ← Lib.cells_of_tab ht he hce hct hd]
theorem dig_of_laidZ {W : World} (h : laidMetH Tryz.prog laidZ W) : DigW W := by
 rw [MakeChecks.laidMetH_plain _ _ _ (by kernel_rfl), show laidZ = ("unicode/utf8.acceptRanges", Rows.laid_unicode_utf8_acceptRanges) :: ("zermelo/num.digits", Lib.tabData .u8 tabZ) :: [("unicode/utf8.first", Rows.laid_unicode_utf8_first)] from rfl] at h
 have hT := tab_second gDigits tDigits uDigits uByte (by kernel_rfl) (by kernel_rfl) h
 intro i hi
 have hc := hT.cell gDigits i hi
 have e : ∀ i : Fin 36, tabZ.getD i.val 0 = ((chr i.val : Nat) : Int) := by decide
 rw [hc, e ⟨i, hi⟩]
theorem max_len {W : World} (h : W.ShapedOpen Tryz.prog) : ∃ m, W.cell? ⟨1, 0, none⟩ = some (.int .i64 m) :=
 cell_of_shapedOpen_int (P := Tryz.prog) (g := 1) (t := 3) (zero := #[.int .i64 0]) h (of_decide_eq_true (by kernel_rfl)) (by kernel_rfl) rfl (by kernel_rfl) (by kernel_rfl) Tryz.underlying3
theorem uVal : ∃ f0 f1 f2 f3 f4 : Field, Tryz.prog.underlying 27 = some (.struct #[f0, f1, f2, f3, f4]) ∧ (f0.type = 3 ∧ f0.offset = 0) ∧ (f1.type = 3 ∧ f1.offset = 1) ∧ (f2.type = 24 ∧ f2.offset = 2) ∧ (f3.type = 9 ∧ f3.offset = 4) ∧ (f4.type = 25 ∧ f4.offset = 5) := ⟨_, _, _, _, _, Tryz.underlying27, ⟨rfl, rfl⟩, ⟨rfl, rfl⟩, ⟨rfl, rfl⟩, ⟨rfl, rfl⟩, ⟨rfl, rfl⟩⟩
theorem cVal : Tryz.prog.cellsOf 27 = 6 := by kernel_rfl
theorem cNum : Tryz.prog.cellsOf 3 = 1 := by kernel_rfl
theorem cStr : Tryz.prog.cellsOf 9 = 1 := by kernel_rfl
theorem cVals : Tryz.prog.cellsOf 25 = 1 := by kernel_rfl
theorem open_two {H : Type} {enc : TypeId × Value → H} {W : World} {fuel : Nat} {c0 c1 : Value} {d : DataW H} {p : List MemPlace} (hd : DataW.trod enc Tryz.prog W 0 (fun _ => true) true fuel 24 [c0, c1] = some (d, p)) (hwt : ∀ n ∈ d.weights Tryz.prog 24, n ≤ reachBytes) :
 ∃ n A c l, c0 = .bool n ∧ c1 = .slice A (List.length l) c ∧ Rd W A l ∧ l.length ≤ c := by
 obtain ⟨f0, f1, hu, ht0, ho0, ht1, ho1⟩ := uInt
 obtain ⟨y0, y1, m, hx, -, h0, h1⟩ := trod_struct2 hu hd
 rw [ht0, ho0, cBool] at h0
 rw [ht1, ho1, cWords] at h1
 obtain ⟨n, hb, -⟩ := DataW.trod_bool uBool h0
 have e0 : c0 = .bool n := by simpa [Value.cells] using hb
 have h1' : DataW.trod enc Tryz.prog W 0 (fun _ => true) true m 22 [c1] = some y1 := by simpa [Value.cells] using h1
 rcases open_ints underl_u32 uWord cWord h1' with ⟨e1, -⟩ | ⟨a, len, cap, zs, e1, -, hlc, hmax, hzl, hy, hcell, hwf⟩
 · exact ⟨n, none, 0, [], e0, by simpa using e1, Rd.nil _ _, Nat.le_refl _⟩
 · have e1' : c1 = .slice (some a) len cap := by simpa using e1
   rw [if_pos rfl] at hzl
   refine ⟨n, some a, cap, (zs.take len).map Int.toNat, e0, ?_, ?_, ?_⟩
   · rw [e1', List.length_map, List.length_take, Nat.min_eq_left (by omega)]
   · have hlen : ((zs.take len).map Int.toNat).length = len := by rw [List.length_map, List.length_take, Nat.min_eq_left (by omega)]
     have hz : ∀ i, i < len → (((zs.take len).map Int.toNat).getD i 0 : Int) = zs.getD i 0 ∧ ((zs.take len).map Int.toNat).getD i 0 < 4294967296 := by
      intro i hi
      have hi' : i < zs.length := by omega
      have hw := hwf zs[i] (List.getElem_mem hi')
      have hw2 : 0 ≤ zs[i] ∧ zs[i] ≤ 4294967295 := by simpa [Lit.wf, IntKind.has, IntKind.min, IntKind.max, IntKind.signed, IntKind.bits, ← Int.lt_iff_add_one_le] using hw
      rw [List.getD_eq_getElem?_getD, List.getElem?_map, List.getElem?_take_of_lt hi, List.getElem?_eq_getElem hi', List.getD_eq_getElem?_getD, List.getElem?_eq_getElem hi']
      simp only [Option.map_some, Option.getD_some]
      omega
     refine ⟨fun i hi => ?_, fun x hx => ?_, ?_⟩
     · rw [hlen] at hi
       have hc := hcell i (by omega)
       rw [← (hz i hi).1] at hc
       obtain ⟨b, o, s⟩ := a
       cases s with
       | none =>
        refine ⟨b, o, rfl, ?_⟩
        have e : (⟨b, o, none⟩ : Addr).add i = ⟨b, o + i, none⟩ := by unfold Addr.add; split <;> simp_all
        rwa [e] at hc
       | some s =>
        have h0 := hcell 0 (by omega)
        simp [World.cell?, Addr.add] at h0
        split at h0 <;> cases h0
     · obtain ⟨i, hi, rfl⟩ := List.getElem_of_mem hx
       have := (hz i (by omega)).2
       rwa [List.getD_eq_getElem?_getD, List.getElem?_eq_getElem hi] at this
     · rw [hlen]
       have h3 := hwt ((zs.take len).length * 4 + (zs.drop len).length * 4) (by
        have hb4 : Tryz.prog.bytesOf 127 = 4 := by kernel_rfl
        have e : d = .agg [y0.1, y1.1] := congrArg Prod.fst hx
        rw [e, DataW.weights, hu]
        simp only [List.map_cons, List.map_nil, ht0, ht1, DataW.weightsEach]
        rw [hy]
        simp only [DataW.weights, underl_u32, hb4, lits, List.length_map, ← Nat.add_mul]
        simp)
       rw [List.length_take, List.length_drop] at h3
       simp only [reachBytes] at h3
       omega
   · rw [List.length_map, List.length_take]
     omega
theorem open_val {H : Type} {enc : TypeId × Value → H} {W : World} {base : Nat} {v : Value} {d : DataW H} {p : List MemPlace} (hv : Value.okWide Tryz.prog W .any base 27 v) (h : DataW.Trod enc Tryz.prog W 0 (fun _ => true) true 27 v d p) (hwt : ∀ n ∈ d.weights Tryz.prog 27, n ≤ reachBytes) :
 ∃ a : VA, v = a.val ∧ a.At W := by
 obtain ⟨f0, f1, f2, f3, f4, hu, ⟨t0, o0⟩, ⟨t1, o1⟩, ⟨t2, o2⟩, ⟨t3, o3⟩, ⟨t4, o4⟩⟩ := uVal
 obtain ⟨cs, rfl, hsz, -⟩ : ∃ cs, v = .agg cs ∧ cs.size = Tryz.prog.cellsOf 27 ∧ _ := by
  unfold Value.okWide at hv
  rw [hu] at hv
  exact hv
 rw [cVal] at hsz
 obtain ⟨fuel, hd⟩ := h
 obtain ⟨xs, m, -, hx, -, hxl, hf⟩ := DataW.trod_struct hu hd
 have hl : cs.toList.length = 6 := by rw [Array.length_toList]; exact hsz
 obtain ⟨c0, c1, c2, c3, c4, c5, hcs⟩ : ∃ c0 c1 c2 c3 c4 c5, cs.toList = [c0, c1, c2, c3, c4, c5] := by
  match hh : cs.toList, hl with
  | [c0, c1, c2, c3, c4, c5], _ => exact ⟨c0, c1, c2, c3, c4, c5, rfl⟩
 obtain rfl : cs = #[c0, c1, c2, c3, c4, c5] := by rw [← Array.toArray_toList (xs := cs), hcs]
 obtain ⟨y0, y1, y2, y3, y4, rfl⟩ : ∃ y0 y1 y2 y3 y4, xs = [y0, y1, y2, y3, y4] := by
  match xs, hxl with
  | [y0, y1, y2, y3, y4], _ => exact ⟨y0, y1, y2, y3, y4, rfl⟩
 have h0 := hf 0 f0 rfl
 have h1 := hf 1 f1 rfl
 have h2 := hf 2 f2 rfl
 have h3 := hf 3 f3 rfl
 have h4 := hf 4 f4 rfl
 rw [t0, o0, cNum] at h0
 rw [t1, o1, cNum] at h1
 rw [t2, o2, cInt] at h2
 rw [t3, o3, cStr] at h3
 rw [t4, o4, cVals] at h4
 obtain ⟨k, e0, -, -⟩ := DataW.trod_int Tryz.underlying3 h0
 obtain ⟨q, e1, -, -⟩ := DataW.trod_int Tryz.underlying3 h1
 obtain ⟨S, e3, -, -⟩ := DataW.trod_string Tryz.underlying9 h3
 have hy2 : ∀ n ∈ y2.1.weights Tryz.prog 24, n ≤ reachBytes := fun n hn => hwt n (by
  have e : d = .agg [y0.1, y1.1, y2.1, y3.1, y4.1] := congrArg Prod.fst hx
  rw [e, DataW.weights, hu]
  simp only [List.map_cons, List.map_nil, t0, t1, t2, t3, t4, DataW.weightsEach]
  simp only [List.mem_append]
  simp [hn])
 obtain ⟨n, A, c, l, g0, g1, r1, k1⟩ := open_two (c0 := c2) (c1 := c3) (d := y2.1) (p := y2.2) h2 hy2
 have e5 : ∃ B m d, c5 = .slice B m d := by
  rcases DataW.trod_slice Tryz.underlying25 h4 with ⟨e, -⟩ | ⟨a, len, cap, _, _, _, _, e, _⟩
  · exact ⟨none, 0, 0, by simpa [Value.cells] using e⟩
  · exact ⟨some a, len, cap, by simpa [Value.cells] using e⟩
 obtain ⟨B, m, d, e5⟩ := e5
 refine ⟨⟨k, q, n, A, c, l, S, B, m, d⟩, ?_, ⟨r1, k1⟩⟩
 rw [g0, g1, e5, show c0 = .int .i64 k by simpa [Value.cells] using e0, show c1 = .int .i64 q by simpa [Value.cells] using e1, show c4 = .string S by simpa [Value.cells] using e3]
end Dc
end Go.Proofs.YtjghnghceeijeaaGreatDoor
