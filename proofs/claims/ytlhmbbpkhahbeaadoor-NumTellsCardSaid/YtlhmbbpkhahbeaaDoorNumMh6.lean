/-
  Parse: the closure.
  Parse, exported.
  The specification's small functions: Formed, both, Same, larger, Compare.
  The specification's made: limbs become an integer.
  The specification's limb, sum, less.
  The specification's Sum.
  The specification's Minus, fit, Of; Of and Compare of num.
-/
import Derived.Test.YtlhmbbpkhahbeaaDoorNumMh5
import Derived.WalkSpells
namespace Go.Proofs.YtlhmbbpkhahbeaaDoor
namespace Nm
open Go.RowKit Go.Shelf Go.BigFrame
attribute [local go_sem] Oper.semAt_some

/-- the value of digits, highest first -/
def parV (b : Nat) (cs : List Nat) : Nat := numOf b (cs.map (digV 36))
def pneg (cs : List Nat) : Bool := cs.head? == some 45
def pbody (cs : List Nat) : List Nat := if pneg cs then cs.tail else cs
def parOk (b : Nat) (cs : List Nat) : Bool := !cs.isEmpty && cs.all fun c => decide (digV 36 c < b)

/-- what Parse returns -/
def parR (b : Int) (cs : List Nat) : Int × Int :=
  if 2 ≤ b ∧ b ≤ 36 then (if parOk b.toNat (pbody cs) then fitZ (if pneg cs then -(parV b.toNat (pbody cs) : Int) else (parV b.toNat (pbody cs) : Int)) else (0, 2)) else (0, 1)

theorem numOf_from (b : Nat) (ds : List Nat) : ∀ a, ds.foldl (fun a d => a * b + d) a = a * b ^ ds.length + numOf b ds := by
  unfold numOf
  induction ds with
  | nil => intro a; simp
  | cons d ds ih =>
    intro a
    rw [List.foldl_cons, List.foldl_cons, ih, ih (0 * b + d), List.length_cons, Nat.pow_succ]
    rw [Nat.add_mul, Nat.zero_mul, Nat.zero_add, Nat.mul_assoc, Nat.mul_comm b]
    omega
theorem numOf_cons (b d : Nat) (ds : List Nat) : numOf b (d :: ds) = d * b ^ ds.length + numOf b ds := by
  have := numOf_from b ds (0 * b + d)
  rw [Nat.zero_mul, Nat.zero_add] at this
  unfold numOf at *
  rw [List.foldl_cons, Nat.zero_mul, Nat.zero_add]
  exact this
theorem numOf_lt {b : Nat} : ∀ ds : List Nat, (∀ d ∈ ds, d < b) → numOf b ds < b ^ ds.length := by
  intro ds
  induction ds with
  | nil => intro _; simp [numOf]
  | cons d ds ih =>
    intro h
    have h1 := ih fun x hx => h x (List.mem_cons_of_mem _ hx)
    have h2 : d + 1 ≤ b := h d (List.mem_cons_self ..)
    rw [numOf_cons, List.length_cons, Nat.pow_succ, Nat.mul_comm (b ^ ds.length)]
    have h3 := Nat.mul_le_mul_right (b ^ ds.length) h2
    rw [Nat.add_mul, Nat.one_mul] at h3
    omega
theorem parV_drop (b : Nat) (cs : List Nat) : ∀ f, (∀ k, k < f → digV 36 (cs.getD k 0) = 0) → f ≤ cs.length → parV b (cs.drop f) = parV b cs := by
  intro f
  induction f with
  | zero => intro _ _; rw [List.drop_zero]
  | succ f ih =>
    intro h hf
    rw [← ih (fun k hk => h k (by omega)) (by omega)]
    have h0 := h f (by omega)
    have e : cs.drop f = cs.getD f 0 :: cs.drop (f + 1) := by
      rw [List.drop_eq_getElem_cons (by omega), List.getD_eq_getElem?_getD, List.getElem?_eq_getElem (by omega)]; rfl
    rw [e]
    unfold parV
    rw [List.map_cons, numOf_cons, h0, Nat.zero_mul, Nat.zero_add]
theorem parV_take {b : Nat} {cs : List Nat} {k c : Nat} (hk : k < cs.length) (hc : cs.getD k 0 = c) : parV b (cs.take (k + 1)) = parV b (cs.take k) * b + digV 36 c := by
  rw [List.take_succ_eq_append_getElem hk]
  rw [List.getD_eq_getElem?_getD, List.getElem?_eq_getElem hk] at hc
  simp only [Option.getD_some] at hc
  unfold parV
  rw [List.map_append, List.map_cons, List.map_nil, numOf_snoc, hc]

def PostB (g : Nat) (z er : Int) (w : World) (e : Ending) (w' : World) : Prop :=
  (er = 0 → ∃ s A c l, e = .returned (iv s A l.length c) ∧ IsZ s l z ∧ l.length ≤ c ∧ Rd w' A l ∧ But g w w') ∧ (er ≠ 0 → e = .panicked (wrong er) ∧ z = 0 ∧ But g w w')

theorem not_small {V m k : Nat} (h : 2 ^ m ≤ V) (hm : 32 * k ≤ m) : ¬ (lim V).length ≤ k := fun hl => by
  have h1 := bits_of_len (lt_of_length_le hl)
  have h2 := Nat.pow_le_pow_right (n := 2) (by decide) hm
  omega

theorem must_ok' (e : Int) (w : World) : Calls Tryd.prog 56 #[.bool true, .int .i64 e] w fun x w' => x = .returned (.tuple #[]) ∧ w = w' := (must_ok e w).mono fun _ _ h => ⟨h.1, h.2.symm⟩
theorem must_no' (e : Int) (w : World) : Calls Tryd.prog 56 #[.bool false, .int .i64 e] w fun x w' => x = .panicked (wrong e) ∧ w = w' := (must_no e w).mono fun _ _ h => ⟨h.1, h.2.symm⟩

theorem getB {S : ByteArray} {i : Nat} (hi : i < S.size) : ∀ h : i < S.size, ((S[i]'h).toNat) = (bytesN S).getD i 0 := by
  intro h
  have h' : i < (bytesN S).length := by rw [bytesN_length]; exact hi
  rw [List.getD_eq_getElem?_getD, List.getElem?_eq_getElem h']
  simp only [Option.getD_some, bytesN, List.getElem_map, Array.getElem_toList]
  rfl
theorem bytesN_extract (S : ByteArray) (f n : Nat) (hn : n = S.size) : bytesN (S.extract f n) = (bytesN S).drop f := by
  subst hn
  unfold bytesN
  rw [ByteArray.data_extract, Array.toList_extract, List.extract_eq_take_drop, List.map_take, List.map_drop]
  refine List.take_of_length_le ?_
  rw [List.length_drop, List.length_map, Array.length_toList]
  exact Nat.le_refl _

set_option maxRecDepth 100000 in
set_option maxHeartbeats 4000000 in
theorem parse1_range (g1 g2 : Nat) (b : Int) (S : ByteArray) (w : World) (h1 : Blk w g1 #[.int .i64 b] 3) (h2 : Blk w g2 #[.string S] 9) (h0 : ¬ (2 ≤ b ∧ b ≤ 36)) :
    Calls Tryd.prog 87 #[.pointer (some ⟨g1, 0, none⟩), .pointer (some ⟨g2, 0, none⟩)] w fun e w' => e = .panicked (wrong 1) ∧ Below w.heap.size w w' := by
  have x0 := cell_at h1.h 0 _ rfl
  have y0 := cell_at h2.h 0 _ rfl
  have hb0 : ∀ o, Below w.heap.size w (w.alloc o) := fun o => (Below.refl _ w).alloc (Nat.le_refl _) _
  have t1 := (Array.getElem?_eq_some_iff.1 h1.h).1
  have t2 := (Array.getElem?_eq_some_iff.1 h2.h).1
  by_cases hn : 2 ≤ b
  · have hn2 : decide (b ≤ 36) = false := decide_eq_false fun h => h0 ⟨hn, h⟩
    clear h0
    go_enter Tryd.func87, Tryd.ntmps87
    go_wp2_with first
      | (go_at_call 56; refine (must_no 1 _).mono ?_; rintro e w5 ⟨rfl, rfl⟩)
    exact ⟨rfl, rfl, hb0 _⟩
  · clear h0
    go_enter Tryd.func87, Tryd.ntmps87
    go_wp2_with first
      | (go_at_call 56; refine (must_no 1 _).mono ?_; rintro e w5 ⟨rfl, rfl⟩)
    exact ⟨rfl, rfl, hb0 _⟩

set_option maxRecDepth 100000 in
set_option maxHeartbeats 4000000 in
theorem parse1_empty_t (g1 g2 : Nat) (b : Nat) (S T : ByteArray) (w : World) (h1 : Blk w g1 #[.int .i64 (b : Int)] 3) (h2 : Blk w g2 #[.string S] 9) (h12 : g1 ≠ g2) (hb1 : 2 ≤ b) (hb2 : b ≤ 36) (hS : 0 < S.size) (c0 : Nat) (hc0 : ∀ h, (S[0]'h).toNat = c0) (hneg : ((c0 : Int) == 45) = true) (hT : S.extract 1 S.size = T) (hsm : S.size < 35184372088832) (h0 : ¬ 0 < T.size) :
    Calls Tryd.prog 87 #[.pointer (some ⟨g1, 0, none⟩), .pointer (some ⟨g2, 0, none⟩)] w (fun e w' => e = .panicked (wrong 2) ∧ But g2 w w') := by
  have x0 := cell_at h1.h 0 _ rfl
  have y0 := cell_at h2.h 0 _ rfl
  have u0 := frozen_at h2.h 0
  have t1 := (Array.getElem?_eq_some_iff.1 h1.h).1
  have t2 := (Array.getElem?_eq_some_iff.1 h2.h).1
  have dm4 : decide ((b : Int) ≤ 36) = true := decide_eq_true (by omega)
  have dS : decide (0 < S.size) = true := decide_eq_true hS
  have hbut : But g2 w ((w.setCell ⟨g2, 0, none⟩ (.string T)).alloc (.cells #[.bool false, .slice none 0 0] 24)) := (But.refl g2 w).set 0 (.string T) |>.on t2 ((Below.refl _ _).alloc (Nat.le_refl _) _)
  have HT : Blk ((w.setCell ⟨g2, 0, none⟩ (.string T)).alloc (.cells #[.bool false, .slice none 0 0] 24)) g2 #[.string T] 9 := ⟨(Below.heap_alloc _ _ _ (by simp [World.setCell]; omega)).trans (set_blk h2.h 0 _)⟩
  have HR : Blk ((w.setCell ⟨g2, 0, none⟩ (.string T)).alloc (.cells #[.bool false, .slice none 0 0] 24)) w.heap.size #[.bool false, .slice none 0 0] 24 := ⟨by have := World.alloc_heap_new (w.setCell ⟨g2, 0, none⟩ (.string T)) (.cells #[.bool false, .slice none 0 0] 24); rwa [show ((w.setCell ⟨g2, 0, none⟩ (.string T))).heap.size = w.heap.size from by simp [World.setCell]] at this⟩
  obtain ⟨W, hW⟩ : ∃ W, (w.setCell ⟨g2, 0, none⟩ (.string T)).alloc (.cells #[.bool false, .slice none 0 0] 24) = W := ⟨_, rfl⟩
  rw [hW] at hbut HT HR
  have h1W := hbut.blk h12 h1
  have p0 := cell_at h1W.h 0 _ rfl
  have p1 := cell_at HT.h 0 _ rfl
  have p2 := frozen_at HT.h 0
  have p3 := cell_at HR.h 0 _ rfl
  have p4 := cell_at HR.h 1 _ rfl
  go_enter Tryd.func87, Tryd.ntmps87
  have dT : decide (0 < T.size) = false := decide_eq_false h0
  go_wp2_with first
    | (go_at_call 56; refine (must_ok' 1 _).mono ?_; rintro e w5 ⟨rfl, rfl⟩)
    | (go_at_call 56; refine (must_no' 2 _).mono ?_; rintro e w5 ⟨rfl, rfl⟩)
  exact ⟨rfl, rfl, hbut⟩

set_option maxRecDepth 100000 in
set_option maxHeartbeats 4000000 in
theorem parse1_empty_e (g1 g2 : Nat) (b : Nat) (S T : ByteArray) (w : World) (h1 : Blk w g1 #[.int .i64 (b : Int)] 3) (h2 : Blk w g2 #[.string S] 9) (h12 : g1 ≠ g2) (hb1 : 2 ≤ b) (hb2 : b ≤ 36) (hS : ¬ 0 < S.size) (hT : S = T) (_hsm : S.size < 35184372088832) (h0 : ¬ 0 < T.size) :
    Calls Tryd.prog 87 #[.pointer (some ⟨g1, 0, none⟩), .pointer (some ⟨g2, 0, none⟩)] w (fun e w' => e = .panicked (wrong 2) ∧ But g2 w w') := by
  subst hT
  have x0 := cell_at h1.h 0 _ rfl
  have y0 := cell_at h2.h 0 _ rfl
  have u0 := frozen_at h2.h 0
  have t1 := (Array.getElem?_eq_some_iff.1 h1.h).1
  have t2 := (Array.getElem?_eq_some_iff.1 h2.h).1
  have dm4 : decide ((b : Int) ≤ 36) = true := decide_eq_true (by omega)
  have dS : decide (0 < S.size) = false := decide_eq_false hS
  have hbut : But g2 w (w.alloc (.cells #[.bool false, .slice none 0 0] 24)) := (But.refl g2 w) |>.on t2 ((Below.refl _ _).alloc (Nat.le_refl _) _)
  have HT : Blk (w.alloc (.cells #[.bool false, .slice none 0 0] 24)) g2 #[.string S] 9 := ⟨(Below.heap_alloc _ _ _ (t2)).trans (h2.h)⟩
  have HR : Blk (w.alloc (.cells #[.bool false, .slice none 0 0] 24)) w.heap.size #[.bool false, .slice none 0 0] 24 := ⟨by have := World.alloc_heap_new w (.cells #[.bool false, .slice none 0 0] 24); exact this⟩
  obtain ⟨W, hW⟩ : ∃ W, w.alloc (.cells #[.bool false, .slice none 0 0] 24) = W := ⟨_, rfl⟩
  rw [hW] at hbut HT HR
  have h1W := hbut.blk h12 h1
  have p0 := cell_at h1W.h 0 _ rfl
  have p1 := cell_at HT.h 0 _ rfl
  have p2 := frozen_at HT.h 0
  have p3 := cell_at HR.h 0 _ rfl
  have p4 := cell_at HR.h 1 _ rfl
  go_enter Tryd.func87, Tryd.ntmps87
  have dT : decide (0 < S.size) = false := decide_eq_false h0
  go_wp2_with first
    | (go_at_call 56; refine (must_ok' 1 _).mono ?_; rintro e w5 ⟨rfl, rfl⟩)
    | (go_at_call 56; refine (must_no' 2 _).mono ?_; rintro e w5 ⟨rfl, rfl⟩)
  exact ⟨rfl, rfl, hbut⟩

set_option maxRecDepth 100000 in
set_option maxHeartbeats 4000000 in
theorem parse1_bad_t (g1 g2 : Nat) (b : Nat) (S T : ByteArray) (w : World) (h1 : Blk w g1 #[.int .i64 (b : Int)] 3) (h2 : Blk w g2 #[.string S] 9) (h12 : g1 ≠ g2) (hb1 : 2 ≤ b) (hb2 : b ≤ 36) (hS : 0 < S.size) (c0 : Nat) (hc0 : ∀ h, (S[0]'h).toNat = c0) (hneg : ((c0 : Int) == 45) = true) (hT : S.extract 1 S.size = T) (hsm : S.size < 35184372088832) (h0 : 0 < T.size) (p : Nat) (hp : p < T.size) (hbad : b ≤ digV 36 ((bytesN T).getD p 0)) :
    Calls Tryd.prog 87 #[.pointer (some ⟨g1, 0, none⟩), .pointer (some ⟨g2, 0, none⟩)] w (fun e w' => e = .panicked (wrong 2) ∧ But g2 w w') := by
  have x0 := cell_at h1.h 0 _ rfl
  have y0 := cell_at h2.h 0 _ rfl
  have u0 := frozen_at h2.h 0
  have t1 := (Array.getElem?_eq_some_iff.1 h1.h).1
  have t2 := (Array.getElem?_eq_some_iff.1 h2.h).1
  have dm4 : decide ((b : Int) ≤ 36) = true := decide_eq_true (by omega)
  have dS : decide (0 < S.size) = true := decide_eq_true hS
  have hbut : But g2 w ((w.setCell ⟨g2, 0, none⟩ (.string T)).alloc (.cells #[.bool false, .slice none 0 0] 24)) := (But.refl g2 w).set 0 (.string T) |>.on t2 ((Below.refl _ _).alloc (Nat.le_refl _) _)
  have HT : Blk ((w.setCell ⟨g2, 0, none⟩ (.string T)).alloc (.cells #[.bool false, .slice none 0 0] 24)) g2 #[.string T] 9 := ⟨(Below.heap_alloc _ _ _ (by simp [World.setCell]; omega)).trans (set_blk h2.h 0 _)⟩
  have HR : Blk ((w.setCell ⟨g2, 0, none⟩ (.string T)).alloc (.cells #[.bool false, .slice none 0 0] 24)) w.heap.size #[.bool false, .slice none 0 0] 24 := ⟨by have := World.alloc_heap_new (w.setCell ⟨g2, 0, none⟩ (.string T)) (.cells #[.bool false, .slice none 0 0] 24); rwa [show ((w.setCell ⟨g2, 0, none⟩ (.string T))).heap.size = w.heap.size from by simp [World.setCell]] at this⟩
  obtain ⟨W, hW⟩ : ∃ W, (w.setCell ⟨g2, 0, none⟩ (.string T)).alloc (.cells #[.bool false, .slice none 0 0] 24) = W := ⟨_, rfl⟩
  rw [hW] at hbut HT HR
  have h1W := hbut.blk h12 h1
  have p0 := cell_at h1W.h 0 _ rfl
  have p1 := cell_at HT.h 0 _ rfl
  have p2 := frozen_at HT.h 0
  have p3 := cell_at HR.h 0 _ rfl
  have p4 := cell_at HR.h 1 _ rfl
  go_enter Tryd.func87, Tryd.ntmps87
  have dT : decide (0 < T.size) = true := decide_eq_true h0
  have Hbad := Lib.hid hbad
  have hTl : T.size < 35184372088832 := by rw [← hT, ByteArray.size_extract]; omega
  clear hbad
  go_wp2_with first
    | (go_at_call 56; refine (must_ok' _ _).mono ?_; rintro e w5 ⟨rfl, rfl⟩)
  go_loop [4, 36] (fun fv iv => ∃ i f : Nat, i ≤ p ∧ fv = .int .i64 (f : Int) ∧ iv = .int .i64 (i : Int) ∧ f ≤ T.size) (fun _ iv => p + 1 - (intOf iv).toNat)
  case atStart => exact ⟨0, T.size, Nat.zero_le _, rfl, rfl, Nat.le_refl _⟩
  case round =>
    obtain ⟨i, f, hip, rfl, rfl, hf⟩ := hrel
    have hiT : i < T.size := by omega
    have hget := getB hiT
    obtain ⟨c, hc⟩ : ∃ c, (bytesN T).getD i 0 = c := ⟨_, rfl⟩
    rw [hc] at hget
    have hc256 : c < 256 := by
      rw [← hc, List.getD_eq_getElem?_getD, List.getElem?_eq_getElem (by rw [bytesN_length]; exact hiT)]
      exact bytesN_lt _ _ (List.getElem_mem _)
    have hval := value_calls c hc256 W
    obtain ⟨d, hd⟩ : ∃ d, digV 36 c = d := ⟨_, rfl⟩
    rw [hd] at hval
    have Hc := Lib.hid hc
    have Hd := Lib.hid hd
    clear hc hd
    have hiI : (i : Int) < (T.size : Int) := by omega
    by_cases hbd : b ≤ d
    · have db : decide (d < b) = false := decide_eq_false (by omega)
      have dbI : decide ((d : Int) < (b : Int)) = false := decide_eq_false (by omega)
      go_wp2_with first
        | (go_at_call 56; refine (must_no' _ _).mono ?_; rintro e w5 ⟨rfl, rfl⟩)
        | (go_at_call 88; refine hval.mono ?_; rintro e w6 ⟨rfl, rfl⟩)
      exact ⟨rfl, rfl, hbut⟩
    · have db : decide (d < b) = true := decide_eq_true (by omega)
      have dbI : decide ((d : Int) < (b : Int)) = true := decide_eq_true (by omega)
      have hne : i < p := by
        rcases Nat.lt_or_ge i p with h | h
        · exact h
        · have hip' : i = p := by omega
          have h1 := Hbad.out
          rw [← hip', Hc.out, Hd.out] at h1
          exact absurd h1 hbd
      clear hbd
      by_cases hd0 : 0 < d
      · go_wp2_with first
          | (go_at_call 56; refine (must_ok' _ _).mono ?_; rintro e w5 ⟨rfl, rfl⟩)
          | (go_at_call 88; refine hval.mono ?_; rintro e w6 ⟨rfl, rfl⟩)
        go_round
        case rel => exact ⟨i + 1, min f i, by omega, by congr 1; omega, by simp, by omega⟩
        case measure => simp only [intOf]; omega
      · go_wp2_with first
          | (go_at_call 56; refine (must_ok' _ _).mono ?_; rintro e w5 ⟨rfl, rfl⟩)
          | (go_at_call 88; refine hval.mono ?_; rintro e w6 ⟨rfl, rfl⟩)
        go_round
        case rel => exact ⟨i + 1, f, by omega, rfl, by simp, hf⟩
        case measure => simp only [intOf]; omega

set_option maxRecDepth 100000 in
set_option maxHeartbeats 4000000 in
theorem parse1_bad_f (g1 g2 : Nat) (b : Nat) (S T : ByteArray) (w : World) (h1 : Blk w g1 #[.int .i64 (b : Int)] 3) (h2 : Blk w g2 #[.string S] 9) (h12 : g1 ≠ g2) (hb1 : 2 ≤ b) (hb2 : b ≤ 36) (hS : 0 < S.size) (c0 : Nat) (hc0 : ∀ h, (S[0]'h).toNat = c0) (hneg : ((c0 : Int) == 45) = false) (hT : S = T) (hsm : S.size < 35184372088832) (h0 : 0 < T.size) (p : Nat) (hp : p < T.size) (hbad : b ≤ digV 36 ((bytesN T).getD p 0)) :
    Calls Tryd.prog 87 #[.pointer (some ⟨g1, 0, none⟩), .pointer (some ⟨g2, 0, none⟩)] w (fun e w' => e = .panicked (wrong 2) ∧ But g2 w w') := by
  subst hT
  have x0 := cell_at h1.h 0 _ rfl
  have y0 := cell_at h2.h 0 _ rfl
  have u0 := frozen_at h2.h 0
  have t1 := (Array.getElem?_eq_some_iff.1 h1.h).1
  have t2 := (Array.getElem?_eq_some_iff.1 h2.h).1
  have dm4 : decide ((b : Int) ≤ 36) = true := decide_eq_true (by omega)
  have dS : decide (0 < S.size) = true := decide_eq_true hS
  have hbut : But g2 w (w.alloc (.cells #[.bool false, .slice none 0 0] 24)) := (But.refl g2 w) |>.on t2 ((Below.refl _ _).alloc (Nat.le_refl _) _)
  have HT : Blk (w.alloc (.cells #[.bool false, .slice none 0 0] 24)) g2 #[.string S] 9 := ⟨(Below.heap_alloc _ _ _ (t2)).trans (h2.h)⟩
  have HR : Blk (w.alloc (.cells #[.bool false, .slice none 0 0] 24)) w.heap.size #[.bool false, .slice none 0 0] 24 := ⟨by have := World.alloc_heap_new w (.cells #[.bool false, .slice none 0 0] 24); exact this⟩
  obtain ⟨W, hW⟩ : ∃ W, w.alloc (.cells #[.bool false, .slice none 0 0] 24) = W := ⟨_, rfl⟩
  rw [hW] at hbut HT HR
  have h1W := hbut.blk h12 h1
  have p0 := cell_at h1W.h 0 _ rfl
  have p1 := cell_at HT.h 0 _ rfl
  have p2 := frozen_at HT.h 0
  have p3 := cell_at HR.h 0 _ rfl
  have p4 := cell_at HR.h 1 _ rfl
  go_enter Tryd.func87, Tryd.ntmps87
  have dT : decide (0 < S.size) = true := decide_eq_true h0
  have Hbad := Lib.hid hbad
  have hTl : S.size < 35184372088832 := by exact hsm
  clear hbad
  go_wp2_with first
    | (go_at_call 56; refine (must_ok' _ _).mono ?_; rintro e w5 ⟨rfl, rfl⟩)
  go_loop [4, 36] (fun fv iv => ∃ i f : Nat, i ≤ p ∧ fv = .int .i64 (f : Int) ∧ iv = .int .i64 (i : Int) ∧ f ≤ S.size) (fun _ iv => p + 1 - (intOf iv).toNat)
  case atStart => exact ⟨0, S.size, Nat.zero_le _, rfl, rfl, Nat.le_refl _⟩
  case round =>
    obtain ⟨i, f, hip, rfl, rfl, hf⟩ := hrel
    have hiT : i < S.size := by omega
    have hget := getB hiT
    obtain ⟨c, hc⟩ : ∃ c, (bytesN S).getD i 0 = c := ⟨_, rfl⟩
    rw [hc] at hget
    have hc256 : c < 256 := by
      rw [← hc, List.getD_eq_getElem?_getD, List.getElem?_eq_getElem (by rw [bytesN_length]; exact hiT)]
      exact bytesN_lt _ _ (List.getElem_mem _)
    have hval := value_calls c hc256 W
    obtain ⟨d, hd⟩ : ∃ d, digV 36 c = d := ⟨_, rfl⟩
    rw [hd] at hval
    have Hc := Lib.hid hc
    have Hd := Lib.hid hd
    clear hc hd
    have hiI : (i : Int) < (S.size : Int) := by omega
    by_cases hbd : b ≤ d
    · have db : decide (d < b) = false := decide_eq_false (by omega)
      have dbI : decide ((d : Int) < (b : Int)) = false := decide_eq_false (by omega)
      go_wp2_with first
        | (go_at_call 56; refine (must_no' _ _).mono ?_; rintro e w5 ⟨rfl, rfl⟩)
        | (go_at_call 88; refine hval.mono ?_; rintro e w6 ⟨rfl, rfl⟩)
      exact ⟨rfl, rfl, hbut⟩
    · have db : decide (d < b) = true := decide_eq_true (by omega)
      have dbI : decide ((d : Int) < (b : Int)) = true := decide_eq_true (by omega)
      have hne : i < p := by
        rcases Nat.lt_or_ge i p with h | h
        · exact h
        · have hip' : i = p := by omega
          have h1 := Hbad.out
          rw [← hip', Hc.out, Hd.out] at h1
          exact absurd h1 hbd
      clear hbd
      by_cases hd0 : 0 < d
      · go_wp2_with first
          | (go_at_call 56; refine (must_ok' _ _).mono ?_; rintro e w5 ⟨rfl, rfl⟩)
          | (go_at_call 88; refine hval.mono ?_; rintro e w6 ⟨rfl, rfl⟩)
        go_round
        case rel => exact ⟨i + 1, min f i, by omega, by congr 1; omega, by simp, by omega⟩
        case measure => simp only [intOf]; omega
      · go_wp2_with first
          | (go_at_call 56; refine (must_ok' _ _).mono ?_; rintro e w5 ⟨rfl, rfl⟩)
          | (go_at_call 88; refine hval.mono ?_; rintro e w6 ⟨rfl, rfl⟩)
        go_round
        case rel => exact ⟨i + 1, f, by omega, rfl, by simp, hf⟩
        case measure => simp only [intOf]; omega

set_option maxRecDepth 100000 in
set_option maxHeartbeats 4000000 in
theorem parse1_good_t (g1 g2 : Nat) (b : Nat) (S T : ByteArray) (w : World) (h1 : Blk w g1 #[.int .i64 (b : Int)] 3) (h2 : Blk w g2 #[.string S] 9) (h12 : g1 ≠ g2) (hb1 : 2 ≤ b) (hb2 : b ≤ 36) (hS : 0 < S.size) (c0 : Nat) (hc0 : ∀ h, (S[0]'h).toNat = c0) (hneg : ((c0 : Int) == 45) = true) (hT : S.extract 1 S.size = T) (hsm : S.size < 35184372088832) (h0 : 0 < T.size) (hgood : ∀ k, k < T.size → digV 36 ((bytesN T).getD k 0) < b) (V : Nat) (hV : Hid (parV b (bytesN T) = V)) :
    Calls Tryd.prog 87 #[.pointer (some ⟨g1, 0, none⟩), .pointer (some ⟨g2, 0, none⟩)] w (PostB g2 (fitZ (-(V : Int))).1 (fitZ (-(V : Int))).2 w) := by
  have x0 := cell_at h1.h 0 _ rfl
  have y0 := cell_at h2.h 0 _ rfl
  have u0 := frozen_at h2.h 0
  have t1 := (Array.getElem?_eq_some_iff.1 h1.h).1
  have t2 := (Array.getElem?_eq_some_iff.1 h2.h).1
  have dm4 : decide ((b : Int) ≤ 36) = true := decide_eq_true (by omega)
  have dS : decide (0 < S.size) = true := decide_eq_true hS
  have hbut : But g2 w ((w.setCell ⟨g2, 0, none⟩ (.string T)).alloc (.cells #[.bool false, .slice none 0 0] 24)) := (But.refl g2 w).set 0 (.string T) |>.on t2 ((Below.refl _ _).alloc (Nat.le_refl _) _)
  have HT : Blk ((w.setCell ⟨g2, 0, none⟩ (.string T)).alloc (.cells #[.bool false, .slice none 0 0] 24)) g2 #[.string T] 9 := ⟨(Below.heap_alloc _ _ _ (by simp [World.setCell]; omega)).trans (set_blk h2.h 0 _)⟩
  have HR : Blk ((w.setCell ⟨g2, 0, none⟩ (.string T)).alloc (.cells #[.bool false, .slice none 0 0] 24)) w.heap.size #[.bool false, .slice none 0 0] 24 := ⟨by have := World.alloc_heap_new (w.setCell ⟨g2, 0, none⟩ (.string T)) (.cells #[.bool false, .slice none 0 0] 24); rwa [show ((w.setCell ⟨g2, 0, none⟩ (.string T))).heap.size = w.heap.size from by simp [World.setCell]] at this⟩
  obtain ⟨W, hW⟩ : ∃ W, (w.setCell ⟨g2, 0, none⟩ (.string T)).alloc (.cells #[.bool false, .slice none 0 0] 24) = W := ⟨_, rfl⟩
  rw [hW] at hbut HT HR
  have h1W := hbut.blk h12 h1
  have p0 := cell_at h1W.h 0 _ rfl
  have p1 := cell_at HT.h 0 _ rfl
  have p2 := frozen_at HT.h 0
  have p3 := cell_at HR.h 0 _ rfl
  have p4 := cell_at HR.h 1 _ rfl
  go_enter Tryd.func87, Tryd.ntmps87
  have dT : decide (0 < T.size) = true := decide_eq_true h0
  have Hgood := Lib.hid hgood
  have hTl : T.size < 35184372088832 := by rw [← hT, ByteArray.size_extract]; omega
  clear hgood
  go_wp2_with first
    | (go_at_call 56; refine (must_ok' _ _).mono ?_; rintro e w5 ⟨rfl, rfl⟩)
  go_loop [4, 36] (fun fv iv => ∃ i f : Nat, i ≤ T.size ∧ fv = .int .i64 (f : Int) ∧ iv = .int .i64 (i : Int) ∧ f ≤ T.size ∧ Hid ((f = T.size ∧ ∀ k, k < i → digV 36 ((bytesN T).getD k 0) = 0) ∨ (f < i ∧ (∀ k, k < f → digV 36 ((bytesN T).getD k 0) = 0) ∧ 0 < digV 36 ((bytesN T).getD f 0)))) (fun _ iv => T.size - (intOf iv).toNat)
  case atStart => exact ⟨0, T.size, Nat.zero_le _, rfl, rfl, Nat.le_refl _, .inl ⟨rfl, fun k hk => absurd hk (Nat.not_lt_zero _)⟩⟩
  case round =>
    obtain ⟨i, f, hip, rfl, rfl, hf, hfi⟩ := hrel
    by_cases hin : i < T.size
    · have hiI : (i : Int) < (T.size : Int) := by omega
      have hiT : i < T.size := by omega
      have hget := getB hiT
      obtain ⟨c, hc⟩ : ∃ c, (bytesN T).getD i 0 = c := ⟨_, rfl⟩
      rw [hc] at hget
      have hc256 : c < 256 := by
        rw [← hc, List.getD_eq_getElem?_getD, List.getElem?_eq_getElem (by rw [bytesN_length]; exact hiT)]
        exact bytesN_lt _ _ (List.getElem_mem _)
      have hval := value_calls c hc256 W
      obtain ⟨d, hd⟩ : ∃ d, digV 36 c = d := ⟨_, rfl⟩
      rw [hd] at hval
      have Hc := Lib.hid hc
      have Hd := Lib.hid hd
      clear hc hd
      have hdb : d < b := by have := Hgood.out i hin; rwa [Hc.out, Hd.out] at this
      have db : decide (d < b) = true := decide_eq_true (by omega)
      have dbI : decide ((d : Int) < (b : Int)) = true := decide_eq_true (by omega)
      by_cases hd0 : 0 < d
      · go_wp2_with first
          | (go_at_call 56; refine (must_ok' _ _).mono ?_; rintro e w5 ⟨rfl, rfl⟩)
          | (go_at_call 88; refine hval.mono ?_; rintro e w6 ⟨rfl, rfl⟩)
        go_round
        case rel =>
          refine ⟨i + 1, min f i, by omega, by congr 1; omega, by simp, by omega, ?_⟩
          rcases hfi.out with ⟨e1, e2⟩ | ⟨e1, e2, e3⟩
          · rw [show min f i = i by omega]
            exact .inr ⟨by omega, e2, by rw [Hc.out, Hd.out]; exact hd0⟩
          · rw [show min f i = f by omega]
            exact .inr ⟨by omega, e2, e3⟩
        case measure => simp only [intOf]; omega
      · go_wp2_with first
          | (go_at_call 56; refine (must_ok' _ _).mono ?_; rintro e w5 ⟨rfl, rfl⟩)
          | (go_at_call 88; refine hval.mono ?_; rintro e w6 ⟨rfl, rfl⟩)
        go_round
        case rel =>
          refine ⟨i + 1, f, by omega, rfl, by simp, hf, ?_⟩
          rcases hfi.out with ⟨e1, e2⟩ | ⟨e1, e2, e3⟩
          · refine .inl ⟨e1, fun k hk => ?_⟩
            rcases Nat.lt_or_ge k i with h | h
            · exact e2 k h
            · obtain rfl : k = i := by omega
              rw [Hc.out, Hd.out]; omega
          · exact .inr ⟨by omega, e2, e3⟩
        case measure => simp only [intOf]; omega
    · have hin' : i = T.size := by omega
      have hnI : ¬ (i : Int) < (T.size : Int) := by omega
      have Hin := Lib.hid hin'
      clear hin'
      obtain ⟨hfz, hfp⟩ : (∀ k, k < f → digV 36 ((bytesN T).getD k 0) = 0) ∧ (f = T.size ∨ 0 < digV 36 ((bytesN T).getD f 0)) := by
        rcases hfi.out with ⟨e1, e2⟩ | ⟨e1, e2, e3⟩
        · exact ⟨fun k hk => e2 k (by have := Hin.out; omega), .inl e1⟩
        · exact ⟨e2, .inr e3⟩
      obtain ⟨U, hU⟩ : ∃ U, T.extract f T.size = U := ⟨_, rfl⟩
      have hUs : U.size = T.size - f := by rw [← hU, ByteArray.size_extract]; omega
      have hUl : U.size < 35184372088832 := by omega
      have hUb : bytesN U = (bytesN T).drop f := by rw [← hU]; exact bytesN_extract _ _ _ rfl
      have hUV : parV b (bytesN U) = parV b (bytesN T) := by rw [hUb]; exact parV_drop b _ f hfz (by rw [bytesN_length]; exact hf)
      have hUd : Hid (∀ k, k < U.size → digV 36 ((bytesN U).getD k 0) < b) := by
        intro k hk
        rw [hUb, List.getD_eq_getElem?_getD, List.getElem?_drop, ← List.getD_eq_getElem?_getD]
        exact Hgood.out _ (by omega)
      have hU1 : Hid (0 < U.size → 0 < digV 36 ((bytesN U).getD 0 0)) := by
        intro h
        rw [hUb, List.getD_eq_getElem?_getD, List.getElem?_drop, ← List.getD_eq_getElem?_getD, Nat.add_zero]
        rcases hfp with h1 | h1
        · omega
        · exact h1
      have hfI : (f : Int) ≤ (T.size : Int) := by omega
      have HUs := Lib.hid hUs
      rw [hV.out] at hUV
      have HUV := Lib.hid hUV
      have hW2b := hbut.set 0 (.string U)
      have B2 : Blk (W.setCell ⟨g2, 0, none⟩ (.string U)) g2 #[.string U] 9 := ⟨set_blk HT.h 0 _⟩
      have R2 : Blk (W.setCell ⟨g2, 0, none⟩ (.string U)) w.heap.size #[.bool false, .slice none 0 0] 24 := ⟨(Below.heap_setCell _ _ _ _ (by dsimp only; omega)).trans HR.h⟩
      obtain ⟨W2, hW2⟩ : ∃ W2, W.setCell ⟨g2, 0, none⟩ (.string U) = W2 := ⟨_, rfl⟩
      rw [hW2] at hW2b B2 R2
      have h12W := hW2b.blk h12 h1
      have q0 := cell_at h12W.h 0 _ rfl
      have q1 := cell_at B2.h 0 _ rfl
      clear hfz hfp hUs hUb hUV
      by_cases hlg : U.size ≤ 9600
      · have dl : decide (U.size ≤ 9600) = true := decide_eq_true hlg
        have dlI : decide ((U.size : Int) ≤ 9600) = true := decide_eq_true (by omega)
        have hcv := run_bytes_of_string (P := Tryd.prog) W2 9 106 5 U (by kernel_rfl) (by kernel_rfl) (by kernel_rfl)
        have hcl : ∀ j, j < U.size → (W2.drew.alloc (.cells (bytesRow U (grownCap W2 U.size 0 5)) 5 ((bytesRow U (grownCap W2 U.size 0 5)).size, (bytesRow U (grownCap W2 U.size 0 5)).size + 1))).cell? ⟨W2.heap.size, j, none⟩ = some (.int .u8 (((bytesN U).getD j 0 : Nat) : Int)) := by
          intro j hj
          have e1 := World.cell?_alloc_mark W2.drew (bytesRow U (grownCap W2 U.size 0 5)) 5 ((bytesRow U (grownCap W2 U.size 0 5)).size, (bytesRow U (grownCap W2 U.size 0 5)).size + 1) j
          refine e1.trans ?_
          rw [bytesRow_at U _ j hj, ← getB hj hj]
          rfl
        have hb3 : Below W2.heap.size W2 (W2.drew.alloc (.cells (bytesRow U (grownCap W2 U.size 0 5)) 5 ((bytesRow U (grownCap W2 U.size 0 5)).size, (bytesRow U (grownCap W2 U.size 0 5)).size + 1))) := (Below.refl _ W2).drew.alloc (Nat.le_refl _) _
        generalize grownCap W2 U.size 0 5 = C at *
        obtain ⟨W3, hW3⟩ : ∃ W3, W2.drew.alloc (.cells (bytesRow U C) 5 ((bytesRow U C).size, (bytesRow U C).size + 1)) = W3 := ⟨_, rfl⟩
        rw [hW3] at hcv hcl hb3
        have Hcl := Lib.hid hcl
        have HW3s : Hid (¬ W3.heap.size ≤ W2.heap.size) := by
          show ¬ _
          rw [← hW3, World.size_alloc]
          exact Nat.not_succ_le_self _
        have h1W2 := h12W
        clear hcl hW3 hW
        go_wp2_with first
          | (go_at_call 56; refine (must_ok' _ _).mono ?_; rintro e w5 ⟨rfl, rfl⟩)
        have hW3s := hb3.size
        have ha3 : W2.heap.size < W3.heap.size := by
          rcases Nat.lt_or_ge W2.heap.size W3.heap.size with h | h
          · exact h
          · exact absurd h HW3s.out
        have B3 := hW2b.on t2 hb3
        go_loopw [7, 63] (fun ov iv X => ∃ (i x : Nat) (A : Option Addr) (c : Nat), i ≤ U.size ∧ iv = .int .i64 (i : Int) ∧ ov = .slice A (lim x).length c ∧ (lim x).length ≤ c ∧ Rd X A (lim x) ∧ Below W3.heap.size W3 X ∧ Hid (x = parV b ((bytesN U).take i))) (fun _ iv _ => U.size - (intOf iv).toNat)
        case atStart =>
          refine ⟨0, 0, none, 0, Nat.zero_le _, rfl, ?_, ?_, ?_, Below.refl _ _, ?_⟩
          · rw [lim_zero]; rfl
          · rw [lim_zero]; exact Nat.le_refl _
          · rw [lim_zero]; exact Rd.nil _ _
          · show 0 = _
            rw [List.take_zero]; rfl
        case round =>
          obtain ⟨i, x, A, c, hiU, rfl, rfl, hcap, hrd, hbl, hx⟩ := hrel
          have h1X := (h1W2.on hb3).on hbl
          have r0 := cell_at h1X.h 0 _ rfl
          have lr0 : g1 < wr.heap.size := (Array.getElem?_eq_some_iff.1 h1X.h).1
          have hxl : (lim x).length ≤ 1800 := by
            refine len_of_bits (m := 6 * i) ?_ (by omega)
            have h1 := numOf_lt (b := b) (((bytesN U).take i).map (digV 36)) (by
              intro d hd
              rw [List.mem_map] at hd
              obtain ⟨c, hc, rfl⟩ := hd
              have hc' := List.mem_of_mem_take hc
              obtain ⟨k, hk, rfl⟩ := List.getElem_of_mem hc'
              have := hUd.out k (by rwa [bytesN_length] at hk)
              rwa [List.getD_eq_getElem?_getD, List.getElem?_eq_getElem hk] at this)
            rw [hx.out]
            refine Nat.lt_of_lt_of_le h1 ?_
            rw [List.length_map, List.length_take, bytesN_length, Nat.min_eq_left hiU]
            refine Nat.le_trans (Nat.pow_le_pow_left (show b ≤ 2 ^ 6 by omega) i) ?_
            rw [← Nat.pow_mul]
            exact Nat.le_refl _
          by_cases hin : i < U.size
          · have hiI : (i : Int) < (U.size : Int) := by omega
            have hcell := (hbl.cell (p := ⟨W2.heap.size, i, none⟩) ha3).trans (Hcl.out i hin)
            obtain ⟨cc, hcc⟩ : ∃ cc, (bytesN U).getD i 0 = cc := ⟨_, rfl⟩
            rw [hcc] at hcell
            have hc256 : cc < 256 := by
              rw [← hcc, List.getD_eq_getElem?_getD, List.getElem?_eq_getElem (by rw [bytesN_length]; exact hin)]
              exact bytesN_lt _ _ (List.getElem_mem _)
            have hnx := parV_take (b := b) (cs := bytesN U) (by rw [bytesN_length]; exact hin) hcc
            have hdb := hUd.out i hin
            rw [hcc] at hdb
            have hval := fun X => value_calls cc hc256 X
            obtain ⟨d, hd⟩ : ∃ d, digV 36 cc = d := ⟨_, rfl⟩
            rw [hd] at hval hnx hdb
            rw [← hx.out] at hnx
            have hsc := fun X (hX : Below wr.heap.size wr X) => scaled_calls A c b d (lim x) X (hrd.on hX) hcap (by omega) (by omega) (by omega)
            rw [val_lim] at hsc
            have Hnx := Lib.hid hnx
            have hd32 : d < 4294967296 := by omega
            have hb32 : b < 4294967296 := by omega
            have wb : IntKind.u32.wrap (b : Int) = (b : Int) := by rw [IntKind.wrap_u32]; omega
            have wd : IntKind.u32.wrap (d : Int) = (d : Int) := by rw [IntKind.wrap_u32]; omega
            clear hnx hd hcc hdb
            go_wp2_with fail
            clear Hgood Hin hfi HUs hUd hU1 hcv x0 y0 u0 p0 p1 p2 p3 p4 q0 q1
            go_region_held3 (fun w'' => w''.cell? ⟨g1, 0, none⟩ = some (.int .i64 (b : Int))) ((first | (with_reducible exact z7) | exact r0))
              ((first
                | (go_at_call 88; refine (hval _).mono ?_; rintro e w6 ⟨rfl, rfl⟩)
                | (go_at_call 89; refine (hsc _ (below_drew (Below.refl _ _))).mono ?_; rintro e w7 ⟨A7, c7, rfl, n7, r7, b7⟩; replace b7 := (below_drew (Below.refl _ wr)).trans b7; have z7 : w7.cell? ⟨g1, 0, none⟩ = some (.int .i64 (b : Int)) := cell_at (h1X.on b7).h 0 _ rfl)))
            go_wp2_with fail
            refine ⟨⟨i + 1, x * b + d, A7, c7, by omega, by simp, rfl, n7, r7, hbl.trans (b7.mono hbl.size), Hnx.out.symm⟩, by simp only [intOf]; omega⟩
          · have hiI : ¬ (i : Int) < (U.size : Int) := by omega
            have hxV : x = V := by
              rw [hx.out, List.take_of_length_le (by rw [bytesN_length]; omega)]
              exact HUV.out
            subst hxV
            have B8 := B3.on t2 hbl
            have R8 := (R2.on hb3).on hbl
            have ha : ∀ n : Nat, ((n : Int)).natAbs = n ∧ (-(n : Int)).natAbs = n := fun n => by omega
            have HA := Lib.hid ha
            clear ha
            by_cases hs : (lim x).length ≤ 300
            · have hwz := whole_z true x hs A c wr hrd hcap
              simp only [if_true] at hwz
              go_wp2_with (go_at_call 60; refine hwz.mono ?_; rintro e w8 ⟨s8, A8, c8, l8, rfl, z8, n8, r8, b8⟩; have hq8 := R8.on b8; have v0 := cell_at hq8.h 0 _ rfl; have v1 := cell_at hq8.h 1 _ rfl; have f0 := frozen_at hq8.h 0; have f1 := frozen_at hq8.h 1)
              have hfit : fitZ (-(x : Int)) = ((-(x : Int)), 0) := by
                unfold fitZ
                rw [if_pos (by rw [(HA.out x).2]; exact hs)]
              refine ret_cell rfl rfl rfl (set_blk (set_blk hq8.h 0 _) 1 _) ?_
              rw [hfit]
              exact ⟨fun _ => ⟨s8, A8, c8, l8, rfl, z8, n8, rd_sets r8 hq8 _ _, ((B8.on t2 b8).setNew t2 (Nat.le_refl _) _).setNew t2 (Nat.le_refl _) _⟩, fun h => absurd rfl h⟩
            · have hwn := whole_no true A c (lim x) wr hrd hcap (by rw [val_lim]; omega)
              go_wp2_with (go_at_call 60; refine hwn.mono ?_; rintro e w8 ⟨rfl, b8⟩)
              have hfit : fitZ (-(x : Int)) = (0, 3) := by
                unfold fitZ
                rw [if_neg (by rw [(HA.out x).2]; exact hs)]
              rw [hfit]
              exact ⟨rfl, fun h => absurd h (by decide), fun _ => ⟨rfl, rfl, B8.on t2 b8⟩⟩
      · have dl : decide (U.size ≤ 9600) = false := decide_eq_false hlg
        have dlI : decide ((U.size : Int) ≤ 9600) = false := decide_eq_false (by omega)
        have hbig : ¬ (lim V).length ≤ 300 := by
          have e1 := HUV.out
          have hl : 0 < (bytesN U).length := by rw [bytesN_length]; omega
          have e2 : bytesN U = (bytesN U).getD 0 0 :: (bytesN U).drop 1 := by
            conv => lhs; rw [← List.drop_zero (l := bytesN U), List.drop_eq_getElem_cons hl]
            rw [List.getD_eq_getElem?_getD, List.getElem?_eq_getElem hl]; rfl
          have h1 := hU1.out (by omega)
          rw [e2] at e1
          unfold parV at e1
          rw [List.map_cons, numOf_cons, List.length_map, List.length_drop, bytesN_length] at e1
          have h2 : 2 ^ (U.size - 1) ≤ b ^ (U.size - 1) := Nat.pow_le_pow_left hb1 _
          have h3 := Nat.le_mul_of_pos_left (b ^ (U.size - 1)) h1
          exact not_small (m := U.size - 1) (Nat.le_trans h2 (Nat.le_trans h3 (by rw [← e1]; exact Nat.le_add_right _ _))) (by omega)
        have Hbig := Lib.hid hbig
        clear hbig hW
        go_wp2_with first
          | (go_at_call 56; refine (must_no' _ _).mono ?_; rintro e w5 ⟨rfl, rfl⟩)
        have hfit : fitZ (-(V : Int)) = (0, 3) := by
          unfold fitZ
          rw [if_neg (by rw [show ((-(V : Int))).natAbs = V by omega]; exact Hbig.out)]
        rw [hfit]
        exact ⟨rfl, fun h => absurd h (by decide), fun _ => ⟨rfl, rfl, hW2b⟩⟩

set_option maxRecDepth 100000 in
set_option maxHeartbeats 4000000 in
theorem parse1_good_f (g1 g2 : Nat) (b : Nat) (S T : ByteArray) (w : World) (h1 : Blk w g1 #[.int .i64 (b : Int)] 3) (h2 : Blk w g2 #[.string S] 9) (h12 : g1 ≠ g2) (hb1 : 2 ≤ b) (hb2 : b ≤ 36) (hS : 0 < S.size) (c0 : Nat) (hc0 : ∀ h, (S[0]'h).toNat = c0) (hneg : ((c0 : Int) == 45) = false) (hT : S = T) (hsm : S.size < 35184372088832) (h0 : 0 < T.size) (hgood : ∀ k, k < T.size → digV 36 ((bytesN T).getD k 0) < b) (V : Nat) (hV : Hid (parV b (bytesN T) = V)) :
    Calls Tryd.prog 87 #[.pointer (some ⟨g1, 0, none⟩), .pointer (some ⟨g2, 0, none⟩)] w (PostB g2 (fitZ (V : Int)).1 (fitZ (V : Int)).2 w) := by
  subst hT
  have x0 := cell_at h1.h 0 _ rfl
  have y0 := cell_at h2.h 0 _ rfl
  have u0 := frozen_at h2.h 0
  have t1 := (Array.getElem?_eq_some_iff.1 h1.h).1
  have t2 := (Array.getElem?_eq_some_iff.1 h2.h).1
  have dm4 : decide ((b : Int) ≤ 36) = true := decide_eq_true (by omega)
  have dS : decide (0 < S.size) = true := decide_eq_true hS
  have hbut : But g2 w (w.alloc (.cells #[.bool false, .slice none 0 0] 24)) := (But.refl g2 w) |>.on t2 ((Below.refl _ _).alloc (Nat.le_refl _) _)
  have HT : Blk (w.alloc (.cells #[.bool false, .slice none 0 0] 24)) g2 #[.string S] 9 := ⟨(Below.heap_alloc _ _ _ (t2)).trans (h2.h)⟩
  have HR : Blk (w.alloc (.cells #[.bool false, .slice none 0 0] 24)) w.heap.size #[.bool false, .slice none 0 0] 24 := ⟨by have := World.alloc_heap_new w (.cells #[.bool false, .slice none 0 0] 24); exact this⟩
  obtain ⟨W, hW⟩ : ∃ W, w.alloc (.cells #[.bool false, .slice none 0 0] 24) = W := ⟨_, rfl⟩
  rw [hW] at hbut HT HR
  have h1W := hbut.blk h12 h1
  have p0 := cell_at h1W.h 0 _ rfl
  have p1 := cell_at HT.h 0 _ rfl
  have p2 := frozen_at HT.h 0
  have p3 := cell_at HR.h 0 _ rfl
  have p4 := cell_at HR.h 1 _ rfl
  go_enter Tryd.func87, Tryd.ntmps87
  have dT : decide (0 < S.size) = true := decide_eq_true h0
  have Hgood := Lib.hid hgood
  have hTl : S.size < 35184372088832 := by exact hsm
  clear hgood
  go_wp2_with first
    | (go_at_call 56; refine (must_ok' _ _).mono ?_; rintro e w5 ⟨rfl, rfl⟩)
  go_loop [4, 36] (fun fv iv => ∃ i f : Nat, i ≤ S.size ∧ fv = .int .i64 (f : Int) ∧ iv = .int .i64 (i : Int) ∧ f ≤ S.size ∧ Hid ((f = S.size ∧ ∀ k, k < i → digV 36 ((bytesN S).getD k 0) = 0) ∨ (f < i ∧ (∀ k, k < f → digV 36 ((bytesN S).getD k 0) = 0) ∧ 0 < digV 36 ((bytesN S).getD f 0)))) (fun _ iv => S.size - (intOf iv).toNat)
  case atStart => exact ⟨0, S.size, Nat.zero_le _, rfl, rfl, Nat.le_refl _, .inl ⟨rfl, fun k hk => absurd hk (Nat.not_lt_zero _)⟩⟩
  case round =>
    obtain ⟨i, f, hip, rfl, rfl, hf, hfi⟩ := hrel
    by_cases hin : i < S.size
    · have hiI : (i : Int) < (S.size : Int) := by omega
      have hiT : i < S.size := by omega
      have hget := getB hiT
      obtain ⟨c, hc⟩ : ∃ c, (bytesN S).getD i 0 = c := ⟨_, rfl⟩
      rw [hc] at hget
      have hc256 : c < 256 := by
        rw [← hc, List.getD_eq_getElem?_getD, List.getElem?_eq_getElem (by rw [bytesN_length]; exact hiT)]
        exact bytesN_lt _ _ (List.getElem_mem _)
      have hval := value_calls c hc256 W
      obtain ⟨d, hd⟩ : ∃ d, digV 36 c = d := ⟨_, rfl⟩
      rw [hd] at hval
      have Hc := Lib.hid hc
      have Hd := Lib.hid hd
      clear hc hd
      have hdb : d < b := by have := Hgood.out i hin; rwa [Hc.out, Hd.out] at this
      have db : decide (d < b) = true := decide_eq_true (by omega)
      have dbI : decide ((d : Int) < (b : Int)) = true := decide_eq_true (by omega)
      by_cases hd0 : 0 < d
      · go_wp2_with first
          | (go_at_call 56; refine (must_ok' _ _).mono ?_; rintro e w5 ⟨rfl, rfl⟩)
          | (go_at_call 88; refine hval.mono ?_; rintro e w6 ⟨rfl, rfl⟩)
        go_round
        case rel =>
          refine ⟨i + 1, min f i, by omega, by congr 1; omega, by simp, by omega, ?_⟩
          rcases hfi.out with ⟨e1, e2⟩ | ⟨e1, e2, e3⟩
          · rw [show min f i = i by omega]
            exact .inr ⟨by omega, e2, by rw [Hc.out, Hd.out]; exact hd0⟩
          · rw [show min f i = f by omega]
            exact .inr ⟨by omega, e2, e3⟩
        case measure => simp only [intOf]; omega
      · go_wp2_with first
          | (go_at_call 56; refine (must_ok' _ _).mono ?_; rintro e w5 ⟨rfl, rfl⟩)
          | (go_at_call 88; refine hval.mono ?_; rintro e w6 ⟨rfl, rfl⟩)
        go_round
        case rel =>
          refine ⟨i + 1, f, by omega, rfl, by simp, hf, ?_⟩
          rcases hfi.out with ⟨e1, e2⟩ | ⟨e1, e2, e3⟩
          · refine .inl ⟨e1, fun k hk => ?_⟩
            rcases Nat.lt_or_ge k i with h | h
            · exact e2 k h
            · obtain rfl : k = i := by omega
              rw [Hc.out, Hd.out]; omega
          · exact .inr ⟨by omega, e2, e3⟩
        case measure => simp only [intOf]; omega
    · have hin' : i = S.size := by omega
      have hnI : ¬ (i : Int) < (S.size : Int) := by omega
      have Hin := Lib.hid hin'
      clear hin'
      obtain ⟨hfz, hfp⟩ : (∀ k, k < f → digV 36 ((bytesN S).getD k 0) = 0) ∧ (f = S.size ∨ 0 < digV 36 ((bytesN S).getD f 0)) := by
        rcases hfi.out with ⟨e1, e2⟩ | ⟨e1, e2, e3⟩
        · exact ⟨fun k hk => e2 k (by have := Hin.out; omega), .inl e1⟩
        · exact ⟨e2, .inr e3⟩
      obtain ⟨U, hU⟩ : ∃ U, S.extract f S.size = U := ⟨_, rfl⟩
      have hUs : U.size = S.size - f := by rw [← hU, ByteArray.size_extract]; omega
      have hUl : U.size < 35184372088832 := by omega
      have hUb : bytesN U = (bytesN S).drop f := by rw [← hU]; exact bytesN_extract _ _ _ rfl
      have hUV : parV b (bytesN U) = parV b (bytesN S) := by rw [hUb]; exact parV_drop b _ f hfz (by rw [bytesN_length]; exact hf)
      have hUd : Hid (∀ k, k < U.size → digV 36 ((bytesN U).getD k 0) < b) := by
        intro k hk
        rw [hUb, List.getD_eq_getElem?_getD, List.getElem?_drop, ← List.getD_eq_getElem?_getD]
        exact Hgood.out _ (by omega)
      have hU1 : Hid (0 < U.size → 0 < digV 36 ((bytesN U).getD 0 0)) := by
        intro h
        rw [hUb, List.getD_eq_getElem?_getD, List.getElem?_drop, ← List.getD_eq_getElem?_getD, Nat.add_zero]
        rcases hfp with h1 | h1
        · omega
        · exact h1
      have hfI : (f : Int) ≤ (S.size : Int) := by omega
      have HUs := Lib.hid hUs
      rw [hV.out] at hUV
      have HUV := Lib.hid hUV
      have hW2b := hbut.set 0 (.string U)
      have B2 : Blk (W.setCell ⟨g2, 0, none⟩ (.string U)) g2 #[.string U] 9 := ⟨set_blk HT.h 0 _⟩
      have R2 : Blk (W.setCell ⟨g2, 0, none⟩ (.string U)) w.heap.size #[.bool false, .slice none 0 0] 24 := ⟨(Below.heap_setCell _ _ _ _ (by dsimp only; omega)).trans HR.h⟩
      obtain ⟨W2, hW2⟩ : ∃ W2, W.setCell ⟨g2, 0, none⟩ (.string U) = W2 := ⟨_, rfl⟩
      rw [hW2] at hW2b B2 R2
      have h12W := hW2b.blk h12 h1
      have q0 := cell_at h12W.h 0 _ rfl
      have q1 := cell_at B2.h 0 _ rfl
      clear hfz hfp hUs hUb hUV
      by_cases hlg : U.size ≤ 9600
      · have dl : decide (U.size ≤ 9600) = true := decide_eq_true hlg
        have dlI : decide ((U.size : Int) ≤ 9600) = true := decide_eq_true (by omega)
        have hcv := run_bytes_of_string (P := Tryd.prog) W2 9 106 5 U (by kernel_rfl) (by kernel_rfl) (by kernel_rfl)
        have hcl : ∀ j, j < U.size → (W2.drew.alloc (.cells (bytesRow U (grownCap W2 U.size 0 5)) 5 ((bytesRow U (grownCap W2 U.size 0 5)).size, (bytesRow U (grownCap W2 U.size 0 5)).size + 1))).cell? ⟨W2.heap.size, j, none⟩ = some (.int .u8 (((bytesN U).getD j 0 : Nat) : Int)) := by
          intro j hj
          have e1 := World.cell?_alloc_mark W2.drew (bytesRow U (grownCap W2 U.size 0 5)) 5 ((bytesRow U (grownCap W2 U.size 0 5)).size, (bytesRow U (grownCap W2 U.size 0 5)).size + 1) j
          refine e1.trans ?_
          rw [bytesRow_at U _ j hj, ← getB hj hj]
          rfl
        have hb3 : Below W2.heap.size W2 (W2.drew.alloc (.cells (bytesRow U (grownCap W2 U.size 0 5)) 5 ((bytesRow U (grownCap W2 U.size 0 5)).size, (bytesRow U (grownCap W2 U.size 0 5)).size + 1))) := (Below.refl _ W2).drew.alloc (Nat.le_refl _) _
        generalize grownCap W2 U.size 0 5 = C at *
        obtain ⟨W3, hW3⟩ : ∃ W3, W2.drew.alloc (.cells (bytesRow U C) 5 ((bytesRow U C).size, (bytesRow U C).size + 1)) = W3 := ⟨_, rfl⟩
        rw [hW3] at hcv hcl hb3
        have Hcl := Lib.hid hcl
        have HW3s : Hid (¬ W3.heap.size ≤ W2.heap.size) := by
          show ¬ _
          rw [← hW3, World.size_alloc]
          exact Nat.not_succ_le_self _
        have h1W2 := h12W
        clear hcl hW3 hW
        go_wp2_with first
          | (go_at_call 56; refine (must_ok' _ _).mono ?_; rintro e w5 ⟨rfl, rfl⟩)
        have hW3s := hb3.size
        have ha3 : W2.heap.size < W3.heap.size := by
          rcases Nat.lt_or_ge W2.heap.size W3.heap.size with h | h
          · exact h
          · exact absurd h HW3s.out
        have B3 := hW2b.on t2 hb3
        go_loopw [7, 63] (fun ov iv X => ∃ (i x : Nat) (A : Option Addr) (c : Nat), i ≤ U.size ∧ iv = .int .i64 (i : Int) ∧ ov = .slice A (lim x).length c ∧ (lim x).length ≤ c ∧ Rd X A (lim x) ∧ Below W3.heap.size W3 X ∧ Hid (x = parV b ((bytesN U).take i))) (fun _ iv _ => U.size - (intOf iv).toNat)
        case atStart =>
          refine ⟨0, 0, none, 0, Nat.zero_le _, rfl, ?_, ?_, ?_, Below.refl _ _, ?_⟩
          · rw [lim_zero]; rfl
          · rw [lim_zero]; exact Nat.le_refl _
          · rw [lim_zero]; exact Rd.nil _ _
          · show 0 = _
            rw [List.take_zero]; rfl
        case round =>
          obtain ⟨i, x, A, c, hiU, rfl, rfl, hcap, hrd, hbl, hx⟩ := hrel
          have h1X := (h1W2.on hb3).on hbl
          have r0 := cell_at h1X.h 0 _ rfl
          have lr0 : g1 < wr.heap.size := (Array.getElem?_eq_some_iff.1 h1X.h).1
          have hxl : (lim x).length ≤ 1800 := by
            refine len_of_bits (m := 6 * i) ?_ (by omega)
            have h1 := numOf_lt (b := b) (((bytesN U).take i).map (digV 36)) (by
              intro d hd
              rw [List.mem_map] at hd
              obtain ⟨c, hc, rfl⟩ := hd
              have hc' := List.mem_of_mem_take hc
              obtain ⟨k, hk, rfl⟩ := List.getElem_of_mem hc'
              have := hUd.out k (by rwa [bytesN_length] at hk)
              rwa [List.getD_eq_getElem?_getD, List.getElem?_eq_getElem hk] at this)
            rw [hx.out]
            refine Nat.lt_of_lt_of_le h1 ?_
            rw [List.length_map, List.length_take, bytesN_length, Nat.min_eq_left hiU]
            refine Nat.le_trans (Nat.pow_le_pow_left (show b ≤ 2 ^ 6 by omega) i) ?_
            rw [← Nat.pow_mul]
            exact Nat.le_refl _
          by_cases hin : i < U.size
          · have hiI : (i : Int) < (U.size : Int) := by omega
            have hcell := (hbl.cell (p := ⟨W2.heap.size, i, none⟩) ha3).trans (Hcl.out i hin)
            obtain ⟨cc, hcc⟩ : ∃ cc, (bytesN U).getD i 0 = cc := ⟨_, rfl⟩
            rw [hcc] at hcell
            have hc256 : cc < 256 := by
              rw [← hcc, List.getD_eq_getElem?_getD, List.getElem?_eq_getElem (by rw [bytesN_length]; exact hin)]
              exact bytesN_lt _ _ (List.getElem_mem _)
            have hnx := parV_take (b := b) (cs := bytesN U) (by rw [bytesN_length]; exact hin) hcc
            have hdb := hUd.out i hin
            rw [hcc] at hdb
            have hval := fun X => value_calls cc hc256 X
            obtain ⟨d, hd⟩ : ∃ d, digV 36 cc = d := ⟨_, rfl⟩
            rw [hd] at hval hnx hdb
            rw [← hx.out] at hnx
            have hsc := fun X (hX : Below wr.heap.size wr X) => scaled_calls A c b d (lim x) X (hrd.on hX) hcap (by omega) (by omega) (by omega)
            rw [val_lim] at hsc
            have Hnx := Lib.hid hnx
            have hd32 : d < 4294967296 := by omega
            have hb32 : b < 4294967296 := by omega
            have wb : IntKind.u32.wrap (b : Int) = (b : Int) := by rw [IntKind.wrap_u32]; omega
            have wd : IntKind.u32.wrap (d : Int) = (d : Int) := by rw [IntKind.wrap_u32]; omega
            clear hnx hd hcc hdb
            go_wp2_with fail
            clear Hgood Hin hfi HUs hUd hU1 hcv x0 y0 u0 p0 p1 p2 p3 p4 q0 q1
            go_region_held3 (fun w'' => w''.cell? ⟨g1, 0, none⟩ = some (.int .i64 (b : Int))) ((first | (with_reducible exact z7) | exact r0))
              ((first
                | (go_at_call 88; refine (hval _).mono ?_; rintro e w6 ⟨rfl, rfl⟩)
                | (go_at_call 89; refine (hsc _ (below_drew (Below.refl _ _))).mono ?_; rintro e w7 ⟨A7, c7, rfl, n7, r7, b7⟩; replace b7 := (below_drew (Below.refl _ wr)).trans b7; have z7 : w7.cell? ⟨g1, 0, none⟩ = some (.int .i64 (b : Int)) := cell_at (h1X.on b7).h 0 _ rfl)))
            go_wp2_with fail
            refine ⟨⟨i + 1, x * b + d, A7, c7, by omega, by simp, rfl, n7, r7, hbl.trans (b7.mono hbl.size), Hnx.out.symm⟩, by simp only [intOf]; omega⟩
          · have hiI : ¬ (i : Int) < (U.size : Int) := by omega
            have hxV : x = V := by
              rw [hx.out, List.take_of_length_le (by rw [bytesN_length]; omega)]
              exact HUV.out
            subst hxV
            have B8 := B3.on t2 hbl
            have R8 := (R2.on hb3).on hbl
            have ha : ∀ n : Nat, ((n : Int)).natAbs = n ∧ (-(n : Int)).natAbs = n := fun n => by omega
            have HA := Lib.hid ha
            clear ha
            by_cases hs : (lim x).length ≤ 300
            · have hwz := whole_z false x hs A c wr hrd hcap
              simp only [Bool.false_eq_true, if_false] at hwz
              go_wp2_with (go_at_call 60; refine hwz.mono ?_; rintro e w8 ⟨s8, A8, c8, l8, rfl, z8, n8, r8, b8⟩; have hq8 := R8.on b8; have v0 := cell_at hq8.h 0 _ rfl; have v1 := cell_at hq8.h 1 _ rfl; have f0 := frozen_at hq8.h 0; have f1 := frozen_at hq8.h 1)
              have hfit : fitZ (x : Int) = ((x : Int), 0) := by
                unfold fitZ
                rw [if_pos (by rw [(HA.out x).1]; exact hs)]
              refine ret_cell rfl rfl rfl (set_blk (set_blk hq8.h 0 _) 1 _) ?_
              rw [hfit]
              exact ⟨fun _ => ⟨s8, A8, c8, l8, rfl, z8, n8, rd_sets r8 hq8 _ _, ((B8.on t2 b8).setNew t2 (Nat.le_refl _) _).setNew t2 (Nat.le_refl _) _⟩, fun h => absurd rfl h⟩
            · have hwn := whole_no false A c (lim x) wr hrd hcap (by rw [val_lim]; omega)
              go_wp2_with (go_at_call 60; refine hwn.mono ?_; rintro e w8 ⟨rfl, b8⟩)
              have hfit : fitZ (x : Int) = (0, 3) := by
                unfold fitZ
                rw [if_neg (by rw [(HA.out x).1]; exact hs)]
              rw [hfit]
              exact ⟨rfl, fun h => absurd h (by decide), fun _ => ⟨rfl, rfl, B8.on t2 b8⟩⟩
      · have dl : decide (U.size ≤ 9600) = false := decide_eq_false hlg
        have dlI : decide ((U.size : Int) ≤ 9600) = false := decide_eq_false (by omega)
        have hbig : ¬ (lim V).length ≤ 300 := by
          have e1 := HUV.out
          have hl : 0 < (bytesN U).length := by rw [bytesN_length]; omega
          have e2 : bytesN U = (bytesN U).getD 0 0 :: (bytesN U).drop 1 := by
            conv => lhs; rw [← List.drop_zero (l := bytesN U), List.drop_eq_getElem_cons hl]
            rw [List.getD_eq_getElem?_getD, List.getElem?_eq_getElem hl]; rfl
          have h1 := hU1.out (by omega)
          rw [e2] at e1
          unfold parV at e1
          rw [List.map_cons, numOf_cons, List.length_map, List.length_drop, bytesN_length] at e1
          have h2 : 2 ^ (U.size - 1) ≤ b ^ (U.size - 1) := Nat.pow_le_pow_left hb1 _
          have h3 := Nat.le_mul_of_pos_left (b ^ (U.size - 1)) h1
          exact not_small (m := U.size - 1) (Nat.le_trans h2 (Nat.le_trans h3 (by rw [← e1]; exact Nat.le_add_right _ _))) (by omega)
        have Hbig := Lib.hid hbig
        clear hbig hW
        go_wp2_with first
          | (go_at_call 56; refine (must_no' _ _).mono ?_; rintro e w5 ⟨rfl, rfl⟩)
        have hfit : fitZ (V : Int) = (0, 3) := by
          unfold fitZ
          rw [if_neg (by rw [show ((V : Int)).natAbs = V by omega]; exact Hbig.out)]
        rw [hfit]
        exact ⟨rfl, fun h => absurd h (by decide), fun _ => ⟨rfl, rfl, hW2b⟩⟩

end Nm
end Go.Proofs.YtlhmbbpkhahbeaaDoor
namespace Go.Proofs.YtlhmbbpkhahbeaaDoor
namespace Nm
open Go.RowKit Go.Shelf Go.BigFrame
attribute [local go_sem] Oper.semAt_some

theorem parR_zero (b : Int) (cs : List Nat) : (parR b cs).2 ≠ 0 → (parR b cs).1 = 0 := by
  unfold parR
  split
  · split
    · exact fit_zero _
    · intro _; rfl
  · intro _; rfl

theorem parOk_true {b : Nat} {cs : List Nat} (h : parOk b cs = true) : 0 < cs.length ∧ ∀ k, k < cs.length → digV 36 (cs.getD k 0) < b := by
  unfold parOk at h
  rw [Bool.and_eq_true, List.all_eq_true] at h
  refine ⟨?_, fun k hk => ?_⟩
  · cases cs
    · simp at h
    · exact Nat.succ_pos _
  · have := h.2 (cs.getD k 0) (by rw [List.getD_eq_getElem?_getD, List.getElem?_eq_getElem hk]; exact List.getElem_mem _)
    simpa using this
theorem parOk_false {b : Nat} {cs : List Nat} (h : parOk b cs = false) : cs.length = 0 ∨ ∃ p, p < cs.length ∧ b ≤ digV 36 (cs.getD p 0) := by
  rcases Nat.eq_zero_or_pos cs.length with h0 | h0
  · exact .inl h0
  · right
    unfold parOk at h
    have h1 : (!cs.isEmpty) = true := by cases cs <;> simp_all
    rw [h1, Bool.true_and, List.all_eq_false] at h
    obtain ⟨c, hc, hb⟩ := h
    obtain ⟨p, hp, rfl⟩ := List.getElem_of_mem hc
    refine ⟨p, hp, ?_⟩
    rw [List.getD_eq_getElem?_getD, List.getElem?_eq_getElem hp]
    simpa using hb

theorem PostB.no {g : Nat} {er : Int} {w : World} {e : Ending} {w' : World} (h : e = .panicked (wrong er) ∧ But g w w') (hn : er ≠ 0) : PostB g 0 er w e w' := ⟨fun h => absurd h hn, fun _ => ⟨h.1, rfl, h.2⟩⟩

theorem parse1_calls (g1 g2 : Nat) (b : Int) (S : ByteArray) (w : World) (h1 : Blk w g1 #[.int .i64 b] 3) (h2 : Blk w g2 #[.string S] 9) (h12 : g1 ≠ g2) (hsm : S.size < 35184372088832) :
    Calls Tryd.prog 87 #[.pointer (some ⟨g1, 0, none⟩), .pointer (some ⟨g2, 0, none⟩)] w (PostB g2 (parR b (bytesN S)).1 (parR b (bytesN S)).2 w) := by
  unfold parR
  by_cases hr : 2 ≤ b ∧ b ≤ 36
  · rw [if_pos hr]
    obtain ⟨m, rfl⟩ : ∃ m : Nat, b = (m : Int) := ⟨b.toNat, by omega⟩
    rw [Int.toNat_natCast]
    have hm1 : 2 ≤ m := by omega
    have hm2 : m ≤ 36 := by omega
    have hlen := bytesN_length S
    by_cases hS : 0 < S.size
    · have hl : 0 < (bytesN S).length := by omega
      obtain ⟨c0, hc0⟩ : ∃ c0, (bytesN S).getD 0 0 = c0 := ⟨_, rfl⟩
      have hget := getB hS
      rw [hc0] at hget
      have hh : (bytesN S).head? = some c0 := by
        rw [List.head?_eq_getElem?, List.getElem?_eq_getElem hl, ← hc0, List.getD_eq_getElem?_getD, List.getElem?_eq_getElem hl]; rfl
      by_cases hn : c0 = 45
      · have hp : pneg (bytesN S) = true := by unfold pneg; rw [hh, hn]; rfl
        have hbd : pbody (bytesN S) = bytesN (S.extract 1 S.size) := by
          unfold pbody; rw [if_pos hp, bytesN_extract _ _ _ rfl, List.drop_one]
        have hTl := bytesN_length (S.extract 1 S.size)
        have hneg : ((c0 : Int) == 45) = true := by subst hn; rfl
        rw [hbd, hp]
        cases hok : parOk m (bytesN (S.extract 1 S.size))
        · rw [if_neg (by decide)]
          rcases parOk_false hok with h0 | ⟨p, hp, hbad⟩
          · exact (parse1_empty_t g1 g2 m S _ w h1 h2 h12 hm1 hm2 hS c0 hget hneg rfl hsm (by omega)).mono fun e w' h => .no h (by decide)
          · exact (parse1_bad_t g1 g2 m S _ w h1 h2 h12 hm1 hm2 hS c0 hget hneg rfl hsm (by omega) p (by omega) hbad).mono fun e w' h => .no h (by decide)
        · rw [if_pos rfl, if_pos rfl]
          obtain ⟨h0, hg⟩ := parOk_true hok
          exact parse1_good_t g1 g2 m S _ w h1 h2 h12 hm1 hm2 hS c0 hget hneg rfl hsm (by omega) (fun k hk => hg k (by omega)) _ rfl
      · have hp : pneg (bytesN S) = false := by
          unfold pneg
          rw [hh, beq_eq_false_iff_ne]
          intro e; exact hn (by injection e)
        have hbd : pbody (bytesN S) = bytesN S := by unfold pbody; rw [hp]; rfl
        have hneg : ((c0 : Int) == 45) = false := by rw [beq_eq_false_iff_ne]; omega
        rw [hbd, hp]
        cases hok : parOk m (bytesN S)
        · rw [if_neg (by decide)]
          rcases parOk_false hok with h0 | ⟨p, hp, hbad⟩
          · omega
          · exact (parse1_bad_f g1 g2 m S _ w h1 h2 h12 hm1 hm2 hS c0 hget hneg rfl hsm (by omega) p (by omega) hbad).mono fun e w' h => .no h (by decide)
        · rw [if_pos rfl, if_neg (by decide)]
          obtain ⟨h0, hg⟩ := parOk_true hok
          exact parse1_good_f g1 g2 m S _ w h1 h2 h12 hm1 hm2 hS c0 hget hneg rfl hsm (by omega) (fun k hk => hg k (by omega)) _ rfl
    · have he : bytesN S = [] := List.length_eq_zero_iff.1 (by omega)
      rw [he]
      have hok : parOk m (pbody []) = false := rfl
      rw [hok, if_neg (by decide)]
      exact (parse1_empty_e g1 g2 m S _ w h1 h2 h12 hm1 hm2 hS rfl hsm (by omega)).mono fun e w' h => .no h (by decide)
  · rw [if_neg hr]
    have t2 := (Array.getElem?_eq_some_iff.1 h2.h).1
    exact (parse1_range g1 g2 b S w h1 h2 hr).mono fun e w' h => .no ⟨h.1, (But.refl _ _).on t2 h.2⟩ (by decide)

set_option maxRecDepth 100000 in
set_option maxHeartbeats 4000000 in
theorem Parse_calls (b : Int) (S : ByteArray) (w : World) (hsm : S.size < 35184372088832) :
    Calls Tryd.prog 33 #[.string S, .int .i64 b] w (RetZE (parR b (bytesN S)).1 (parR b (bytesN S)).2 w) := by
  have hmf : ∀ (fn : Fn) (first cap : Array Value) (w : World), (Instr.makeFunc fn first cap).run Tryd.prog w = .ok (.func fn first cap) w := fun _ _ _ _ => rfl
  obtain ⟨W3, hW3⟩ : ∃ W3, ((w.alloc (.cells #[.string S] 9)).alloc (.cells #[.int .i64 b] 3)).alloc (.cells #[.bool false, .slice none 0 0] 24) = W3 := ⟨_, rfl⟩
  have hb3 : Below w.heap.size w W3 := by rw [← hW3]; exact (((Below.refl _ w).alloc (Nat.le_refl _) _).alloc (by simp) _).alloc (by simp; omega) _
  have B1 : Blk W3 w.heap.size #[.string S] 9 := ⟨by rw [← hW3]; exact (Below.heap_alloc _ _ _ (by simp; omega)).trans ((Below.heap_alloc _ _ _ (by simp)).trans (World.alloc_heap_new w _))⟩
  have B2 : Blk W3 (w.heap.size + 1) #[.int .i64 b] 3 := ⟨by rw [← hW3]; exact (Below.heap_alloc _ _ _ (by simp)).trans (two_blk w _ _)⟩
  have hsz : W3.heap.size = w.heap.size + 3 := by rw [← hW3]; simp
  have hR : Blk W3 (w.heap.size + 1 + 1) #[.bool false, .slice none 0 0] 24 := ⟨by rw [← hW3]; have := World.alloc_heap_new ((w.alloc (.cells #[.string S] 9)).alloc (.cells #[.int .i64 b] 3)) (.cells #[.bool false, .slice none 0 0] 24); rwa [World.size_alloc, World.size_alloc] at this⟩
  have hB4 : ∀ o o', Below W3.heap.size W3 ((W3.alloc o).alloc o') := fun o o' => ((Below.refl _ W3).alloc (Nat.le_refl _) _).alloc (by simp) _
  have hcl := fun o o' => parse1_calls (w.heap.size + 1) w.heap.size b S ((W3.alloc o).alloc o') (B2.on (hB4 o o')) (B1.on (hB4 o o')) (by omega) hsm
  have hfz := parR_zero b (bytesN S)
  generalize (parR b (bytesN S)).1 = z at *
  generalize (parR b (bytesN S)).2 = er at *
  have hlt : w.heap.size < W3.heap.size := by omega
  have ht := try_low w.heap.size 87 #[.pointer (some ⟨w.heap.size + 1, 0, none⟩), .pointer (some ⟨w.heap.size, 0, none⟩)] (enters_of Tryd.func87 (by kernel_rfl) rfl) W3 hlt z er (hcl _ _) hfz
  clear hsz hcl hfz
  go_enter Tryd.func33, Tryd.ntmps33
  go_wp2_with (go_at_call 63; refine ht.mono ?_; rintro e w' ⟨s, A, c, l, rfl, hz, hc, hr, hb⟩; have hq := hb.blk (by omega) hR; have z0 := cell_at hq.h 0 _ rfl; have z1 := cell_at hq.h 1 _ rfl; have u0 := frozen_at hq.h 0; have u1 := frozen_at hq.h 1)
  exact ret_cell_tmp (x := .bool s) (y := .slice A l.length c) rfl rfl rfl (set_blk (set_blk hq.h 0 _) 1 _) ⟨s, A, c, l, rfl, hz, hc, rd_sets hr hq _ _, ((hb3.trans hb.low).setCell (by dsimp only; omega) _).setCell (by dsimp only; omega) _⟩

end Nm
end Go.Proofs.YtlhmbbpkhahbeaaDoor
namespace Go.Proofs.YtlhmbbpkhahbeaaDoor
namespace Nm
open Go.RowKit Go.Shelf Go.BigFrame
attribute [local go_sem] Oper.semAt_some

set_option maxRecDepth 100000 in
set_option maxHeartbeats 1000000 in
theorem Formed_calls (neg : Bool) (A : Option Addr) (c : Nat) (l : List Nat) (w : World) (hA : Rd w A l) (hc : l.length ≤ c) :
    Calls Tryd.prog 16 #[iv neg A l.length c] w fun e w' => e = .returned (.bool (okI neg l)) ∧ Below w.heap.size w w' := by
  have hs := hA.small
  by_cases h300 : 300 < l.length
  · have hk : okI neg l = false := by unfold okI; rw [if_neg (by omega), show decide (l.length ≤ 300) = false from decide_eq_false (by omega)]; rfl
    rw [hk]
    clear hk
    have h0' : ((l.length : Int) == 0) = false := by rw [beq_eq_false_iff_ne]; omega
    have h3' : decide ((l.length : Int) ≤ 300) = false := decide_eq_false (by omega)
    go_enter Tryd.func16, Tryd.ntmps16
    go_wp2
    go_ret
    exact ⟨rfl, (Below.refl _ _).alloc (Nat.le_refl _) _⟩
  · by_cases h0 : l.length = 0
    · obtain rfl : l = [] := List.length_eq_zero_iff.1 h0
      have hk : okI neg [] = !neg := rfl
      rw [hk]
      clear hk
      cases neg
      all_goals
        go_enter Tryd.func16, Tryd.ntmps16
        go_wp2
        go_ret
        exact ⟨rfl, (Below.refl _ _).alloc (Nat.le_refl _) _⟩
    · obtain ⟨b, o, x, rfl, hcx, hx, hxb⟩ := hA.get (l.length - 1) (by omega)
      have hbl : b < w.heap.size := World.block_lt_of_cell? w _ hcx
      have h0' : ((l.length : Int) == 0) = false := by rw [beq_eq_false_iff_ne]; omega
      have hp : 0 < l.length := by omega
      have hk : okI neg l = (x != 0) := by unfold okI; rw [if_neg h0, hx.out, show decide (l.length ≤ 300) = true from decide_eq_true (by omega)]; rfl
      have h300' : decide ((l.length : Int) ≤ 300) = true := decide_eq_true (by omega)
      rw [hk]
      clear hk h0
      have hx0 : ((x : Int) != 0) = (x != 0) := by rw [Bool.eq_iff_iff]; simp
      go_enter Tryd.func16, Tryd.ntmps16
      go_wp2
      go_ret
      exact ⟨rfl, (Below.refl _ _).alloc (Nat.le_refl _) _⟩

set_option maxHeartbeats 1000000 in
theorem both_calls (n1 n2 : Bool) (A1 A2 : Option Addr) (c1 c2 : Nat) (l1 l2 : List Nat) (w : World) (h1 : Rd w A1 l1) (h2 : Rd w A2 l2) (hc1 : l1.length ≤ c1) (hc2 : l2.length ≤ c2) :
    Calls Tryd.prog 61 #[iv n1 A1 l1.length c1, iv n2 A2 l2.length c2] w fun e w' => e = .returned (.bool (okI n1 l1 && okI n2 l2)) ∧ Below w.heap.size w w' := by
  have f1 := fun W (hW : Below w.heap.size w W) => Formed_calls n1 A1 c1 l1 W (h1.on hW) hc1
  have f2 := fun W (hW : Below w.heap.size w W) => Formed_calls n2 A2 c2 l2 W (h2.on hW) hc2
  have hb2 : ∀ a b, Below w.heap.size w ((w.alloc a).alloc b) := fun a b => ((Below.refl _ w).alloc (Nat.le_refl _) _).alloc (by simp) _
  have hbk : Blk ((w.alloc (.cells #[.bool n1, .slice A1 l1.length c1] 24)).alloc (.cells #[.bool n2, .slice A2 l2.length c2] 24)) (w.heap.size + 1) #[.bool n2, .slice A2 l2.length c2] 24 := ⟨two_blk w _ _⟩
  generalize okI n1 l1 = b1 at *
  generalize okI n2 l2 = b2 at *
  cases b1
  all_goals
    go_enter Tryd.func61, Tryd.ntmps61
    go_wp2_with first
      | (go_at_call 16; have hmark := m1; refine (f2 _ ((hb2 _ _).trans (hb.mono (hb2 _ _).size))).mono ?_; rintro e w4 ⟨rfl, hb'⟩)
      | (go_at_call 16; refine (f1 _ (hb2 _ _)).mono ?_; rintro e w3 ⟨rfl, hb⟩; have m1 : True := trivial; have x0 := cell_at (hbk.on hb).h 0 _ rfl; have x1 := cell_at (hbk.on hb).h 1 _ rfl)
    go_ret
  · exact ⟨rfl, (hb2 _ _).trans (hb.mono (hb2 _ _).size)⟩
  · exact ⟨by simp, ((hb2 _ _).trans (hb.mono (hb2 _ _).size)).trans (hb'.mono ((hb2 _ _).trans (hb.mono (hb2 _ _).size)).size)⟩

def sameI (n1 : Bool) (l1 : List Nat) (n2 : Bool) (l2 : List Nat) : Bool := n1 == n2 && l1 == l2

theorem two_on {w : World} {A : Option Addr} {l : List Nat} (h : Rd w A l) (a b : Obj) : Rd ((w.alloc a).alloc b) A l := h.on (((Below.refl _ w).alloc (Nat.le_refl _) _).alloc (by simp) _)

set_option maxRecDepth 100000 in
set_option maxHeartbeats 2000000 in
theorem Same_calls (n1 n2 : Bool) (A1 A2 : Option Addr) (c1 c2 : Nat) (l1 l2 : List Nat) (w : World) (h1 : Rd w A1 l1) (h2 : Rd w A2 l2) (_hc1 : l1.length ≤ c1) (hc2 : l2.length ≤ c2) :
    Calls Tryd.prog 20 #[iv n1 A1 l1.length c1, iv n2 A2 l2.length c2] w fun e w' => e = .returned (.bool (sameI n1 l1 n2 l2)) ∧ Below w.heap.size w w' := by
  have hs1 := h1.small
  have hs2 := h2.small
  by_cases hn : n1 = n2
  · by_cases hl : l1.length = l2.length
    · subst hn
      have hne : (n1 != n1) = false := by simp
      rw [← hl]
      have hc2' : l1.length ≤ c2 := by omega
      have H := Lib.hid hl
      have hne0 : ((l1.length : Int) != (l1.length : Int)) = false := by simp
      clear hl hc2 hs2
      have g1 : Rd ((w.alloc (.cells #[.bool n1, .slice A1 l1.length c1] 24)).alloc (.cells #[.bool n1, .slice A2 l1.length c2] 24)) A1 l1 := two_on h1 _ _
      have g2 : Rd ((w.alloc (.cells #[.bool n1, .slice A1 l1.length c1] 24)).alloc (.cells #[.bool n1, .slice A2 l1.length c2] 24)) A2 l2 := two_on h2 _ _
      have b1 : Blk ((w.alloc (.cells #[.bool n1, .slice A1 l1.length c1] 24)).alloc (.cells #[.bool n1, .slice A2 l1.length c2] 24)) w.heap.size #[.bool n1, .slice A1 l1.length c1] 24 := two_old w _ _ rfl
      have b2 : Blk ((w.alloc (.cells #[.bool n1, .slice A1 l1.length c1] 24)).alloc (.cells #[.bool n1, .slice A2 l1.length c2] 24)) (w.heap.size + 1) #[.bool n1, .slice A2 l1.length c2] 24 := ⟨two_blk w _ _⟩
      have hB : ∀ a b, Below w.heap.size w ((w.alloc a).alloc b) := fun a b => ((Below.refl _ w).alloc (Nat.le_refl _) _).alloc (by simp) _
      have hBB := hB (.cells #[.bool n1, .slice A1 l1.length c1] 24) (.cells #[.bool n1, .slice A2 l1.length c2] 24)
      go_enter Tryd.func20, Tryd.ntmps20
      go_wp2
      generalize ((w.alloc (.cells #[.bool n1, .slice A1 l1.length c1] 24)).alloc (.cells #[.bool n1, .slice A2 l1.length c2] 24)) = V at *
      have x0 := cell_at b1.h 1 _ rfl
      have y0 := cell_at b2.h 1 _ rfl
      go_loopw [5] (fun i w' => ∃ k : Nat, k ≤ l1.length ∧ i = .int .i64 (k : Int) ∧ (∃ n, w' = V.drewN n) ∧ Hid (l1.take k = l2.take k)) (fun i _ => l1.length - (intOf i).toNat)
      case atStart => exact ⟨0, Nat.zero_le _, rfl, ⟨0, rfl⟩, rfl⟩
      case round =>
        obtain ⟨k, hk, rfl, ⟨n0, rfl⟩, hd⟩ := hrel
        by_cases h0 : k < l1.length
        · obtain ⟨b1', o1, x, rfl, hcx, hx, hxb⟩ := g1.get k h0
          obtain ⟨b2', o2, y, rfl, hcy, hy, hyb⟩ := g2.get k (by have := H.out; omega)
          have hlt : ((k : Int) < (l1.length : Int)) ↔ True := by rw [iff_true]; omega
          by_cases hxy : x = y
          · subst hxy
            have hne : ((x : Int) != (x : Int)) = false := by simp
            go_wp2
            go_quiet (fail)
            go_wp2
            go_roundw
            case rel =>
              refine ⟨k + 1, by omega, rfl, ⟨_, rfl⟩, ?_⟩
              show _ = _
              have hx' := hx.out
              have hy' := hy.out
              rw [List.getD_eq_getElem?_getD, List.getElem?_eq_getElem (by omega)] at hx'
              rw [List.getD_eq_getElem?_getD, List.getElem?_eq_getElem (by have := H.out; omega)] at hy'
              rw [List.take_succ_eq_append_getElem (by omega), List.take_succ_eq_append_getElem (by have := H.out; omega), hd.out]
              rw [show l1[k] = x by simpa using hx', show l2[k] = x by simpa using hy']
            case measure => simp [intOf]; omega
          · have hne : ((x : Int) != (y : Int)) = true := by rw [bne_iff_ne]; omega
            go_wp2
            go_quiet (fail)
            go_wp2
            go_ret
            have hf : sameI n1 l1 n1 l2 = false := by
              unfold sameI
              rw [Bool.and_eq_false_iff]
              right
              rw [beq_eq_false_iff_ne]
              rintro rfl
              exact hxy (hx.out.symm.trans hy.out)
            rw [hf]
            exact ⟨rfl, below_drewN (below_drewN hBB _) _⟩
        · have hlt : ((k : Int) < (l1.length : Int)) ↔ False := by rw [iff_false]; omega
          go_wp2
          go_ret
          have e : l1 = l2 := by
            have := hd.out
            rwa [List.take_of_length_le (by omega), List.take_of_length_le (by have := H.out; omega)] at this
          have hf : sameI n1 l1 n1 l2 = true := by
            unfold sameI
            rw [e]
            simp
          rw [hf]
          exact ⟨rfl, below_drewN hBB _⟩
    · have hf : sameI n1 l1 n2 l2 = false := by
        unfold sameI
        rw [Bool.and_eq_false_iff]
        right
        rw [beq_eq_false_iff_ne]
        rintro rfl
        exact hl rfl
      rw [hf]
      have hne : ((l1.length : Int) != (l2.length : Int)) = true := by rw [bne_iff_ne]; omega
      subst hn
      have hne' : (n1 != n1) = false := by simp
      clear hl hf
      go_enter Tryd.func20, Tryd.ntmps20
      go_wp2
      go_ret
      exact ⟨rfl, ((Below.refl _ w).alloc (Nat.le_refl _) _).alloc (by simp) _⟩
  · have hf : sameI n1 l1 n2 l2 = false := by
      unfold sameI
      rw [Bool.and_eq_false_iff]
      left
      rw [beq_eq_false_iff_ne]
      exact hn
    rw [hf]
    have hne : (n1 == n2) = false := by rw [beq_eq_false_iff_ne]; exact hn
    clear hn hf
    go_enter Tryd.func20, Tryd.ntmps20
    go_wp2
    go_ret
    exact ⟨rfl, ((Below.refl _ w).alloc (Nat.le_refl _) _).alloc (by simp) _⟩

set_option maxHeartbeats 1000000 in
theorem larger_ne (A1 A2 : Option Addr) (c1 c2 : Nat) (l1 l2 : List Nat) (w : World) (h : l1.length ≠ l2.length) :
    Calls Tryd.prog 73 #[.slice A1 l1.length c1, .slice A2 l2.length c2] w fun e w' => e = .returned (.int .i64 (cmpZ l1.length l2.length)) ∧ ∃ n, w' = w.drewN n := by
  have h' : ((l1.length : Int) != (l2.length : Int)) = true := by rw [bne_iff_ne]; omega
  by_cases hl : (l1.length : Int) < (l2.length : Int)
  · rw [show cmpZ l1.length l2.length = -1 from if_pos hl]
    clear h
    go_enter Tryd.func73, Tryd.ntmps73
    go_wp2
    go_ret
    exact ⟨rfl, 0, rfl⟩
  · rw [show cmpZ l1.length l2.length = 1 from by unfold cmpZ; rw [if_neg hl, if_pos (by omega)]]
    clear h
    go_enter Tryd.func73, Tryd.ntmps73
    go_wp2
    go_ret
    exact ⟨rfl, 0, rfl⟩

set_option maxRecDepth 100000 in
set_option maxHeartbeats 2000000 in
theorem larger_eq (A1 A2 : Option Addr) (c1 c2 : Nat) (l1 l2 : List Nat) (w : World) (h1 : Rd w A1 l1) (h2 : Rd w A2 l2) (_hc1 : l1.length ≤ c1) (hc2 : l2.length ≤ c2) (h : l1.length = l2.length) :
    Calls Tryd.prog 73 #[.slice A1 l1.length c1, .slice A2 l2.length c2] w fun e w' => e = .returned (.int .i64 (cmpZ (val l1) (val l2))) ∧ ∃ n, w' = w.drewN n := by
  have hs := h1.small
  rw [← h]
  have hc2' : l1.length ≤ c2 := by omega
  have H := Lib.hid h
  have hne0 : ((l1.length : Int) != (l1.length : Int)) = false := by simp
  clear h hc2
  go_enter Tryd.func73, Tryd.ntmps73
  go_wp2
  go_loopw [5] (fun i w' => ∃ k : Nat, k ≤ l1.length ∧ i = .int .i64 ((k : Int) - 1) ∧ (∃ n, w' = w.drewN n) ∧ Hid (l1.drop k = l2.drop k)) (fun i _ => (intOf i + 1).toNat)
  case atStart => exact ⟨l1.length, Nat.le_refl _, rfl, ⟨0, rfl⟩, by show _ = _; rw [List.drop_of_length_le (Nat.le_refl _), List.drop_of_length_le (by have := H.out; omega)]⟩
  case round =>
    obtain ⟨k, hk, rfl, ⟨n0, rfl⟩, hd⟩ := hrel
    by_cases h0 : 0 < k
    · obtain ⟨k, rfl⟩ : ∃ j, k = j + 1 := ⟨k - 1, by omega⟩
      obtain ⟨b1, o1, x, rfl, hcx, hx, hxb⟩ := h1.get k (by omega)
      obtain ⟨b2, o2, y, rfl, hcy, hy, hyb⟩ := h2.get k (by have := H.out; omega)
      rw [show ((k + 1 : Nat) : Int) - 1 = (k : Int) by omega]
      clear h0
      by_cases hxy : x = y
      · subst hxy
        have hne : ((x : Int) < (x : Int)) ↔ False := by simp
        go_wp2
        go_quiet (fail)
        go_wp2
        go_quiet (fail)
        go_wp2
        go_roundw
        case rel =>
          refine ⟨k, by omega, rfl, ⟨_, rfl⟩, ?_⟩
          show _ = _
          have e1 : l1.drop k = x :: l1.drop (k + 1) := by
            have := hx.out
            rw [List.getD_eq_getElem?_getD, List.getElem?_eq_getElem (by omega)] at this
            rw [List.drop_eq_getElem_cons (by omega)]; rw [show l1[k] = x by simpa using this]
          have e2 : l2.drop k = x :: l2.drop (k + 1) := by
            have := hy.out
            rw [List.getD_eq_getElem?_getD, List.getElem?_eq_getElem (by have := H.out; omega)] at this
            rw [List.drop_eq_getElem_cons (by have := H.out; omega)]; rw [show l2[k] = x by simpa using this]
          rw [e1, e2, hd.out]
        case measure => simp [intOf]
      · have hl := H.out
        by_cases hlt' : x < y
        · have hlt : ((x : Int) < (y : Int)) ↔ True := by rw [iff_true]; omega
          have hf : cmpZ (val l1) (val l2) = -1 := by
            have := val_drop_lt h1.words h2.words H.out (k := k) (by omega) hd.out (by rw [hx.out, hy.out]; exact hlt')
            exact if_pos (by omega)
          have Hf := Lib.hid hf
          clear hlt' hf hxy hl
          go_wp2
          go_quiet (fail)
          go_wp2
          go_ret
          exact ⟨ret_int Hf.out.symm, _, by rw [World.drewN_drewN]⟩
        · have hlt : ((x : Int) < (y : Int)) ↔ False := by rw [iff_false]; omega
          have hgt : ((y : Int) < (x : Int)) ↔ True := by rw [iff_true]; omega
          have hf : cmpZ (val l1) (val l2) = 1 := by
            have := val_drop_lt h2.words h1.words H.out.symm (k := k) (by omega) hd.out.symm (by rw [hx.out, hy.out]; omega)
            unfold cmpZ
            rw [if_neg (by omega), if_pos (by omega)]
          have Hf := Lib.hid hf
          clear hlt' hf hxy hl
          go_wp2
          go_quiet (fail)
          go_wp2
          go_quiet (fail)
          go_wp2
          go_ret
          exact ⟨ret_int Hf.out.symm, _, by rw [World.drewN_drewN, World.drewN_drewN]⟩
    · obtain rfl : k = 0 := by omega
      go_wp2
      go_ret
      have e : l1 = l2 := by simpa using hd.out
      exact ⟨ret_int (by rw [e]; simp [cmpZ]), n0, rfl⟩

theorem larger_calls (A1 A2 : Option Addr) (c1 c2 : Nat) (l1 l2 : List Nat) (w : World) (h1 : Rd w A1 l1) (h2 : Rd w A2 l2) (hc1 : l1.length ≤ c1) (hc2 : l2.length ≤ c2) (k1 : Canon l1) (k2 : Canon l2) :
    Calls Tryd.prog 73 #[.slice A1 l1.length c1, .slice A2 l2.length c2] w fun e w' => e = .returned (.int .i64 (cmpZ (val l1) (val l2))) ∧ ∃ n, w' = w.drewN n := by
  by_cases h : l1.length = l2.length
  · exact larger_eq A1 A2 c1 c2 l1 l2 w h1 h2 hc1 hc2 h
  · refine (larger_ne A1 A2 c1 c2 l1 l2 w h).mono ?_
    rintro e w' ⟨rfl, h'⟩
    refine ⟨ret_int ?_, h'⟩
    unfold cmpZ
    rcases Nat.lt_or_gt_of_ne h with hlt | hgt
    · have := val_lt_of_length k1.1 k2 hlt
      rw [if_pos (by omega), if_pos (by omega)]
    · have := val_lt_of_length k2.1 k1 hgt
      rw [if_neg (by omega), if_pos (by omega), if_neg (by omega), if_pos (by omega)]

theorem cmp_neg_pos {z1 z2 : Int} (h1 : z1 < 0) (h2 : ¬ z2 < 0) : cmpZ z1 z2 = -1 := if_pos (by omega)
theorem cmp_pos_neg {z1 z2 : Int} (h1 : ¬ z1 < 0) (h2 : z2 < 0) : cmpZ z1 z2 = 1 := by unfold cmpZ; rw [if_neg (by omega), if_pos (by omega)]
theorem cmp_pos {z1 z2 : Int} (h1 : ¬ z1 < 0) (h2 : ¬ z2 < 0) : cmpZ (z1.natAbs : Int) (z2.natAbs : Int) = cmpZ z1 z2 := by rw [show (z1.natAbs : Int) = z1 by omega, show (z2.natAbs : Int) = z2 by omega]
theorem cmp_neg {z1 z2 : Int} (h1 : z1 < 0) (h2 : z2 < 0) : cmpZ (z2.natAbs : Int) (z1.natAbs : Int) = cmpZ z1 z2 := by
  rw [show (z1.natAbs : Int) = -z1 by omega, show (z2.natAbs : Int) = -z2 by omega]
  unfold cmpZ
  split <;> split <;> (try split) <;> (try split) <;> omega

set_option maxRecDepth 100000 in
set_option maxHeartbeats 2000000 in
theorem RCompare_calls (n1 n2 : Bool) (A1 A2 : Option Addr) (c1 c2 : Nat) (l1 l2 : List Nat) (z1 z2 : Int) (w : World) (h1 : Rd w A1 l1) (h2 : Rd w A2 l2) (hc1 : l1.length ≤ c1) (hc2 : l2.length ≤ c2) (k1 : IsZ n1 l1 z1) (k2 : IsZ n2 l2 z2) :
    Calls Tryd.prog 37 #[iv n1 A1 l1.length c1, iv n2 A2 l2.length c2] w fun e w' => e = .returned (.int .i64 (cmpZ z1 z2)) ∧ Below w.heap.size w w' := by
  have hb2 : ∀ a b, Below w.heap.size w ((w.alloc a).alloc b) := fun a b => ((Below.refl _ w).alloc (Nat.le_refl _) _).alloc (by simp) _
  have hl := fun W (hW : Below w.heap.size w W) => larger_calls A1 A2 c1 c2 l1 l2 W (h1.on hW) (h2.on hW) hc1 hc2 k1.canon k2.canon
  have hl' := fun W (hW : Below w.heap.size w W) => larger_calls A2 A1 c2 c1 l2 l1 W (h2.on hW) (h1.on hW) hc2 hc1 k2.canon k1.canon
  rw [k1.val, k2.val] at hl hl'
  have s1 := k1.sgn
  have s2 := k2.sgn
  by_cases e1 : z1 < 0 <;> by_cases e2 : z2 < 0
  · rw [decide_eq_true e1] at s1
    rw [decide_eq_true e2] at s2
    subst s1 s2
    rw [cmp_neg e1 e2] at hl'
    generalize cmpZ z1 z2 = r at *
    clear e1 e2
    go_enter Tryd.func37, Tryd.ntmps37
    go_wp2_with (go_at_call 73; refine (hl' _ (hb2 _ _)).mono ?_; rintro e w3 ⟨rfl, n, rfl⟩)
    go_ret
    exact ⟨rfl, below_drewN (hb2 _ _) _⟩
  · rw [decide_eq_true e1] at s1
    rw [decide_eq_false e2] at s2
    subst s1 s2
    rw [cmp_neg_pos e1 e2]
    clear e1 e2
    go_enter Tryd.func37, Tryd.ntmps37
    go_wp2_with fail
    go_ret
    exact ⟨rfl, hb2 _ _⟩
  · rw [decide_eq_false e1] at s1
    rw [decide_eq_true e2] at s2
    subst s1 s2
    rw [cmp_pos_neg e1 e2]
    clear e1 e2
    go_enter Tryd.func37, Tryd.ntmps37
    go_wp2_with fail
    go_ret
    exact ⟨rfl, hb2 _ _⟩
  · rw [decide_eq_false e1] at s1
    rw [decide_eq_false e2] at s2
    subst s1 s2
    rw [cmp_pos e1 e2] at hl
    generalize cmpZ z1 z2 = r at *
    clear e1 e2
    go_enter Tryd.func37, Tryd.ntmps37
    go_wp2_with (go_at_call 73; refine (hl _ (hb2 _ _)).mono ?_; rintro e w3 ⟨rfl, n, rfl⟩)
    go_ret
    exact ⟨rfl, below_drewN (hb2 _ _) _⟩

end Nm
end Go.Proofs.YtlhmbbpkhahbeaaDoor
namespace Go
variable {P : Program}
theorem run_append_zero (t u e e' : TypeId) (i : TypeInfo) (ht : P.underlying t = some (.slice e)) (hu : P.underlying u = some (.slice e')) (hi : P.info? e = some i) (ty : TypeId) (D : Addr) (cd c : Nat) (w : World) :
    (Builtin.append_ #[t, u] ty #[.slice (some D) 0 cd, .slice none 0 c]).run P w = .ok (.slice (some D) 0 cd) w := by
  simp only [Builtin.append_, underlying]
  simp [go_sem, ht, hu, sizeOf, typeInfo, hi, Result.andThen]
theorem wpList_append_zero (w : World) {ops : Array Oper} {rest : List Oper} {o : Oper} {a : Act} {Q : Exit → Act → World → Prop} (hgd : o.guard = none) (s x : Operand) (t u : TypeId)
    (ho : o.op = .call { callee := .builtin .append, args := #[s, x], argTypes := #[t, u] }) (e e' : TypeId) (i : TypeInfo) (ht : P.underlying t = some (.slice e)) (hu : P.underlying u = some (.slice e')) (hi : P.info? e = some i)
    (D : Addr) (cd c : Nat) (hs : a.eval s = .slice (some D) 0 cd) (hx : a.eval x = .slice none 0 c)
    (h : wpList P ops Q rest (a.put o.dst (.slice (some D) 0 cd)) w) : wpList P ops Q (o :: rest) a w :=
  wpList_plain hgd fun _ hK => by
    have hr := run_append_zero (P := P) t u e e' i ht hu hi o.type D cd c w
    unfold Oper.wp execOp
    simp only [ho, resolve, invoke, builtin, Sem.run_bind, Sem.run_pure, Result.andThen_ok, List.map_toArray, List.map_cons, List.map_nil, hs, hx, hr]
    exact hK _ _ h
end Go
namespace Go.Proofs.YtlhmbbpkhahbeaaDoor
namespace Nm
open Go.RowKit Go.Shelf Go.BigFrame
attribute [local go_sem] Oper.semAt_some

theorem rd_news' {w : World} {ad : Addr} {l : List Nat} (h : Rd w (some ad) l) : ∀ j u, (wvals l)[j]? = some u → w.cell? (ad.add j) = some u := by
  rcases Nat.eq_zero_or_pos l.length with h0 | h0
  · obtain rfl : l = [] := List.length_eq_zero_iff.1 h0
    intro j u hu
    simp [wvals] at hu
  · obtain ⟨b, o, e⟩ := h.head h0
    cases e
    exact rd_news h

theorem made_fin {neg : Bool} {k : Nat} {l : List Nat} (hk : k ≤ l.length) (ht : trim l = l.take k) : IsZ (neg && decide ((0 : Int) < (k : Int))) (l.take k) (if neg then -(val l : Int) else val l) := by
  have h := isZ_of neg (val l)
  have hl : (lim (val l)).length = k := by
    have : (trim l).length = k := by rw [ht, List.length_take]; omega
    exact this
  have e : (val l != 0) = decide ((0 : Int) < (k : Int)) := by
    rcases Nat.eq_zero_or_pos (val l) with h0 | h0
    · rw [h0, lim_zero] at hl
      rw [h0, ← hl]
      rfl
    · have := lim_length_pos h0
      rw [show (val l != 0) = true by simp; omega]
      exact (decide_eq_true (by omega)).symm
  rw [← e, ← ht]
  exact h

set_option maxRecDepth 100000 in
set_option maxHeartbeats 2000000 in
theorem made_calls (neg : Bool) (A : Option Addr) (c : Nat) (l : List Nat) (w : World) (hA : Rd w A l) (hl : l.length ≤ c) :
    Calls Tryd.prog 70 #[.bool neg, .slice A l.length c] w (RetZ (if neg then -(val l : Int) else val l) w) := by
  have hfin := fun k hk ht => made_fin (neg := neg) (k := k) (l := l) hk ht
  generalize (if neg = true then -(val l : Int) else (val l : Int)) = z at *
  have hs := hA.small
  have hb : ∀ o, Below w.heap.size w (w.alloc o) := fun o => (Below.refl _ _).alloc (Nat.le_refl _) _
  obtain ⟨i0, hi, hz0, hz1, hz2⟩ := info_parts info_u32
  have hbt : Tryd.prog.underlying 22 = some (.slice 72) := by kernel_rfl
  obtain ⟨W, hW⟩ : ∃ W, w.alloc (.cells #[.bool false, .slice none 0 0] 24) = W := ⟨_, rfl⟩
  have hrw : Rd W A l := by rw [← hW]; exact hA.on (hb _)
  have hbk : Blk W w.heap.size #[.bool false, .slice none 0 0] 24 := ⟨by rw [← hW]; exact World.alloc_heap_new w _⟩
  have hbw : Below w.heap.size w W := by rw [← hW]; exact hb _
  have hsz : W.heap.size = w.heap.size + 1 := by rw [← hW]; simp
  have hbW : ∀ o, Below W.heap.size W (W.alloc o) := fun o => (Below.refl _ _).alloc (Nat.le_refl _) _
  go_enter Tryd.func70, Tryd.ntmps70
  have Hsz := Lib.hid hsz
  clear hsz
  go_wp2
  clear hW
  go_loop [5] (fun n => ∃ k : Nat, k ≤ l.length ∧ n = .int .i64 k ∧ Hid (∀ i, k ≤ i → l.getD i 0 = 0)) (fun n => (intOf n).toNat)
  case atStart => exact ⟨l.length, Nat.le_refl _, rfl, fun i hi => by rw [List.getD_eq_getElem?_getD, List.getElem?_eq_none (by omega)]; rfl⟩
  case round =>
    obtain ⟨k, hk, rfl, hz⟩ := hrel
    by_cases h0 : 0 < k
    · obtain ⟨b, o, x, rfl, hc, hx, hxb⟩ := hrw.get (k - 1) (by omega)
      by_cases hx0 : x = 0
      · subst hx0
        go_wp2
        go_round
        case rel => 
          refine ⟨k - 1, by omega, by go_num, fun i hi => ?_⟩
          by_cases e : i = k - 1
          · rw [e]; exact hx.out
          · exact hz.out i (by omega)
        case measure => simp [intOf]; omega
      · have hx1 : ((x : Int) == 0) = false := by simp; omega
        have htr := trim_eq_take hrw.words hk hz.out (.inr (by rw [hx.out]; exact hx0))
        have hf := hfin k hk htr
        have hlk : (l.take k).length = k := by rw [List.length_take]; omega
        have hown0 := own_empty (W.alloc (.cells #[] 72)) W.heap.size W.heap.size (World.alloc_heap_new W _) (Nat.le_refl _)
        have hlk0 : ((0 : Int) < (k : Int)) ↔ True := by rw [iff_true]; omega
        have hnw : ∀ j u, (wvals (l.take k))[j]? = some u → (W.alloc (.cells #[] 72)).cell? ((⟨b, o, none⟩ : Addr).add j) = some u := rd_news' ((hrw.take k).on (hbW _))
        have hwt := words_take hrw.words k
        have hwl : (wvals (l.take k)).length = k * 1 := by simp [wvals]; omega
        have Hwl := Lib.hid hwl
        have Hlk := Lib.hid hlk
        have Hf := Lib.hid hf
        rw [decide_eq_true (show (0 : Int) < (k : Int) by omega)] at hf
        clear hwl hlk hx0
        cases neg
        all_goals
          go_wp2_with first
            | (at_builtin; (refine wpList_append_own2 _ rfl _ _ 22 22 rfl W.heap.size 72 72 i0 (.int .u32 0) 1 4 hbt hbt hi hz0 hz1 hz2 rfl (by decide) _ _ _ rfl hown0 ⟨b, o, none⟩ k c (wvals (l.take k)) rfl Hwl.out hnw (wvals_one _) (by unfold maxLen; omega) (by omega) (by simp) ?_); intro v' w4 hown' hg4 _; obtain ⟨A', c', hv', hn', hc', hrd', hab⟩ := own_rd (l := l.take k) hown' hwt (by omega); subst hv'; have hb4 : Below W.heap.size W w4 := (hbW _).grown hg4 (by simp) (fun j e => by cases e; exact Nat.le_refl _); have hq := hbk.on hb4; have x0 := cell_at hq.h 0 _ rfl; have x1 := cell_at hq.h 1 _ rfl; have y0 := frozen_at hq.h 0; have y1 := frozen_at hq.h 1)
          refine ret_cell rfl rfl rfl (set_blk (set_blk hq.h 0 _) 1 _) ⟨_, A', c', l.take k, ?_, hf, ?_, rd_sets hrd' hq _ _, ((hbw.trans (hb4.mono hbw.size)).setCell (Nat.le_refl _) _).setCell (Nat.le_refl _) _⟩
          · rw [Hlk.out]; simp
          · rw [Hlk.out]; omega
    · obtain rfl : k = 0 := by omega
      have hf := hfin 0 hk (trim_eq_take hrw.words hk hz.out (.inl rfl))
      rw [List.take_zero] at hf
      have hx0 : ∀ o, (W.alloc o).cell? ⟨w.heap.size, 0, none⟩ = some (.bool false) := fun o => cell_at (hbk.on (hbW o)).h 0 _ rfl
      have hx1 : ∀ o, (W.alloc o).cell? ⟨w.heap.size, 1, none⟩ = some (.slice none 0 0) := fun o => cell_at (hbk.on (hbW o)).h 1 _ rfl
      have hy0 : ∀ o, (W.alloc o).frozen? ⟨w.heap.size, 0, none⟩ = false := fun o => frozen_at (hbk.on (hbW o)).h 0
      have hy1 : ∀ o, (W.alloc o).frozen? ⟨w.heap.size, 1, none⟩ = false := fun o => frozen_at (hbk.on (hbW o)).h 1
      cases A <;> cases neg
      all_goals
        go_wp2
        refine ret_cell rfl rfl rfl (set_blk (set_blk (hbk.on (hbW _)).h 0 _) 1 _) ⟨_, _, _, [], rfl, hf, Nat.zero_le _, Rd.nil _ _, ((hbw.trans ((hbW _).mono hbw.size)).setCell (Nat.le_refl _) _).setCell (Nat.le_refl _) _⟩

end Nm
end Go.Proofs.YtlhmbbpkhahbeaaDoor
namespace Go.Proofs.YtlhmbbpkhahbeaaDoor
namespace Nm
open Go.RowKit Go.Shelf Go.BigFrame
attribute [local go_sem] Oper.semAt_some

theorem own_base {w : World} {base n : Nat} {v : Value} {xs : List Value} (h : w.ownsRow base 72 1 v n xs) : ∀ j, v.ownBlock = some j → base ≤ j := by
  intro j e
  rcases h.2 with ⟨rfl, rfl⟩ | ⟨g, cap, cur, rfl, hb, _⟩
  · cases e
  · cases e; exact hb

set_option maxHeartbeats 1000000 in
theorem limb_calls (A : Option Addr) (c i x : Nat) (l : List Nat) (w : World) (hA : Rd w A l) (_hc : l.length ≤ c) (hx : l.getD i 0 = x) :
    Calls Tryd.prog 86 #[.slice A l.length c, .int .i64 (i : Int)] w fun e w' => e = .returned (.int .u64 (x : Int)) ∧ w = w' := by
  have hs := hA.small
  by_cases h : i < l.length
  · obtain ⟨b, o, y, rfl, hcy, hy, hyb⟩ := hA.get i h
    obtain rfl : y = x := hy.out.symm.trans hx
    clear hx
    go_enter Tryd.func86, Tryd.ntmps86
    go_wp2
    go_ret
    exact ⟨rfl, rfl⟩
  · have h' : ((i : Int) < (l.length : Int)) ↔ False := by rw [iff_false]; omega
    obtain rfl : x = 0 := by rw [← hx, List.getD_eq_getElem?_getD, List.getElem?_eq_none (by omega)]; rfl
    clear hx
    go_enter Tryd.func86, Tryd.ntmps86
    go_wp2
    go_ret
    exact ⟨rfl, rfl⟩

/-- limbs that are handed back -/
def RetL (n m : Nat) (w : World) (e : Ending) (w' : World) : Prop :=
  ∃ A c l, e = .returned (.slice A l.length c) ∧ val l = n ∧ l.length ≤ m ∧ l.length ≤ c ∧ Rd w' A l ∧ Below w.heap.size w w'

theorem take_val {l : List Nat} {k : Nat} : val (l.take (k + 1)) = val (l.take k) + BB ^ k * l.getD k 0 := by
  by_cases h : k < l.length
  · rw [List.take_succ_eq_append_getElem h, val_snoc, List.length_take, Nat.min_eq_left (by omega), List.getD_eq_getElem?_getD, List.getElem?_eq_getElem h]; rfl
  · rw [List.take_of_length_le (by omega), List.take_of_length_le (by omega), List.getD_eq_getElem?_getD, List.getElem?_eq_none (by omega)]; simp

theorem sum_next {ds : List Nat} {k cr x y z c' : Nat} {a b X Y : Nat} (hl : ds.length = k) (h : val ds + BB ^ k * cr = a + b) (ha : X = a + BB ^ k * x) (hb : Y = b + BB ^ k * y)
    (hz : z = (x + y + cr) % BB) (hc : c' = (x + y + cr) / BB) : val (ds ++ [z]) + BB ^ (k + 1) * c' = X + Y := by
  have := Nat.div_add_mod (x + y + cr) BB
  rw [← hz, ← hc] at this
  rw [val_snoc, hl, ha, hb, Nat.pow_succ]
  have e : BB ^ k * BB * c' + BB ^ k * z = BB ^ k * (x + y + cr) := by rw [← this, Nat.mul_add, Nat.mul_assoc]
  rw [Nat.mul_add, Nat.mul_add] at e
  omega

theorem canon_of_pow {l : List Nat} (hw : Words l) (h : l.length = 0 ∨ BB ^ (l.length - 1) ≤ val l) : Canon l := by
  refine ⟨hw, fun hne hz => ?_⟩
  have e := List.dropLast_concat_getLast hne
  rw [hz] at e
  have h1 : val l = val l.dropLast := by
    conv => lhs; rw [← e]
    rw [val_snoc]; simp
  have h2 := val_lt (l := l.dropLast) (by rw [List.dropLast_eq_take]; exact words_take hw _)
  rw [List.length_dropLast] at h2
  rcases h with h | h
  · exact hne (List.length_eq_zero_iff.1 h)
  · omega

theorem pow_le_of_canon {l : List Nat} (h : Canon l) (hl : 0 < l.length) : BB ^ (l.length - 1) ≤ val l := by
  have : l.length - 1 < (lim (val l)).length := by rw [lim_val h]; omega
  exact pow_le_of_length this

set_option maxRecDepth 100000 in
set_option maxHeartbeats 4000000 in
theorem sum_calls (A1 A2 : Option Addr) (c1 c2 : Nat) (l1 l2 : List Nat) (w : World) (h1 : Rd w A1 l1) (h2 : Rd w A2 l2) (hc1 : l1.length ≤ c1) (hc2 : l2.length ≤ c2) (hs1 : l1.length ≤ 1048576) (hs2 : l2.length ≤ 1048576) (k1 : Canon l1) (k2 : Canon l2) :
    Calls Tryd.prog 78 #[.slice A1 l1.length c1, .slice A2 l2.length c2] w (RetNat (val l1 + val l2) w) := by
  obtain ⟨i0, hi, hz0, hz1, hz2⟩ := info_parts info_u32
  have hbt : Tryd.prog.underlying 22 = some (.slice 72) := by kernel_rfl
  obtain ⟨M, hM1, hM2, hM3, hM4⟩ : ∃ M, max l1.length l2.length = M ∧ l1.length ≤ M ∧ l2.length ≤ M ∧ M ≤ 1048576 := ⟨_, rfl, by omega, by omega, by omega⟩
  have K1 := Lib.hid k1
  have K2 := Lib.hid k2
  clear k1 k2
  have HM := Lib.hid hM1
  clear hM1
  go_enter Tryd.func78, Tryd.ntmps78
  go_wp2
  go_loopw [5, 6, 7] (fun v cv iv W => ∃ (k cr : Nat) (ds : List Nat), iv = .int .i64 (k : Int) ∧ cv = .int .u64 (cr : Int) ∧ cr ≤ 1 ∧ k ≤ M + 1 ∧ (k = M + 1 → cr = 0) ∧ Hid (k = M + 1 → BB ^ M ≤ val l1 + val l2) ∧ Hid (ds.length = k) ∧ Words ds ∧ W.ownsRow w.heap.size 72 1 v k (wvals ds) ∧ Below w.heap.size w W ∧ Hid (val ds + BB ^ k * cr = val (l1.take k) + val (l2.take k))) (fun _ _ i _ => M + 2 - (intOf i).toNat)
  case atStart => exact ⟨0, 0, [], rfl, rfl, by omega, by omega, fun _ => rfl, fun h => by omega, rfl, words_nil, World.ownsRow_nil _ _ _ _, Below.refl _ _, by simp [Hid, val]⟩
  case round =>
    obtain ⟨k, cr, ds, rfl, rfl, hcr, hkM, hend, hbig, hdl, hdw, hown, hbl, hval⟩ := hrel
    rename_i wr
    obtain ⟨x, hx, hxb⟩ : ∃ x : Nat, Hid (l1.getD k 0 = x) ∧ x < 4294967296 := ⟨_, rfl, words_getD h1.words k⟩
    obtain ⟨y, hy, hyb⟩ : ∃ y : Nat, Hid (l2.getD k 0 = y) ∧ y < 4294967296 := ⟨_, rfl, words_getD h2.words k⟩
    have f1 := limb_calls A1 c1 k x l1 wr (h1.on hbl) hc1 hx.out
    have f2 := limb_calls A2 c2 k y l2 wr (h2.on hbl) hc2 hy.out
    obtain ⟨s, s1, s2, s3⟩ : ∃ s : Nat, (x : Int) + (y : Int) + (cr : Int) = (s : Int) ∧ Hid (s = x + y + cr) ∧ s < 18446744073709551616 := ⟨x + y + cr, by omega, rfl, by omega⟩
    obtain ⟨z, z1, z2, z3⟩ : ∃ z : Nat, (s : Int) % 4294967296 = (z : Int) ∧ Hid (z = (x + y + cr) % BB) ∧ z < 4294967296 := ⟨s % 4294967296, by omega, by rw [s2.out]; rfl, by omega⟩
    obtain ⟨c', e1, e2, e3⟩ : ∃ c' : Nat, (s : Int) / 4294967296 = (c' : Int) ∧ Hid (c' = (x + y + cr) / BB) ∧ c' ≤ 1 := ⟨s / 4294967296, by omega, by rw [s2.out]; rfl, by have := s2.out; omega⟩
    have hvn := Lib.hid (sum_next (k := k) hdl.out hval.out ((take_val (l := l1) (k := k)).trans (by rw [hx.out])) ((take_val (l := l2) (k := k)).trans (by rw [hy.out])) z2.out e2.out)
    have hz1' : Hid (k = M → k < l1.length ∨ k < l2.length ∨ cr = 1 → cr = 1) := by
      intro h1 h2
      omega
    have hlast := Lib.hid (show k = M → c' = 0 from fun hk => by
      have hx0 : x = 0 := by rw [← hx.out, List.getD_eq_getElem?_getD, List.getElem?_eq_none (by omega)]; rfl
      have hy0 : y = 0 := by rw [← hy.out, List.getD_eq_getElem?_getD, List.getElem?_eq_none (by omega)]; rfl
      rw [e2.out, hx0, hy0]; exact Nat.div_eq_of_lt (show 0 + 0 + cr < 4294967296 by omega))
    have hob := own_base hown
    have hbig' : Hid (k = M → cr = 1 → BB ^ M ≤ val l1 + val l2) := by
      intro hk hc
      have := hval.out
      rw [List.take_of_length_le (by omega), List.take_of_length_le (by omega), hc, hk] at this
      omega
    by_cases hgo : k < l1.length ∨ k < l2.length ∨ cr = 1
    · have HG := Lib.hid hgo
      have hkM' : k ≤ M := by rcases hgo with h | h | h <;> first | omega | (have := hend; omega)
      have tail : True := trivial
      rcases (show (k < l1.length) ∨ (¬ k < l1.length ∧ k < l2.length) ∨ (¬ k < l1.length ∧ ¬ k < l2.length ∧ cr = 1) by omega) with q1 | ⟨q1, q2⟩ | ⟨q1, q2, q3⟩
      · have p1 : ((k : Int) < (l1.length : Int)) ↔ True := by rw [iff_true]; omega
        clear hgo hend q1
        go_wp2_with first
          | (go_at_call 86; have hmark := m1; refine f2.mono ?_; rintro e w2 ⟨rfl, rfl⟩)
          | (go_at_call 86; refine f1.mono ?_; rintro e w2 ⟨rfl, rfl⟩; have m1 : True := trivial)
          | (at_builtin; (refine wpList_append_own2 _ rfl _ _ 22 22 rfl w.heap.size 72 72 i0 (.int .u32 0) 1 4 hbt hbt hi hz0 hz1 hz2 rfl (by decide) _ _ _ rfl (hown.alloc _) ⟨wr.heap.size, 0, none⟩ 1 1 [.int .u32 (z : Int)] rfl rfl (cell_one_new _ _ _) (by simp [Value.oneCell']) (by unfold maxLen; omega) (by omega) (by have := hbl.size; simp; omega) ?_); intro v' w4 hown' hg4 _)
        have hcl : ds.length + 1 = k + 1 := by rw [hdl.out]
        refine ⟨⟨k + 1, c', ds ++ [z], rfl, rfl, e3, by omega, ?_, ?_, by show _ = _; rw [List.length_append, hdl.out]; rfl, words_append.2 ⟨hdw, fun u hu => by simp at hu; rw [hu]; exact z3⟩, ?_, (hbl.alloc hbl.size _).grown hg4 (by have := hbl.size; simp; omega) (fun j e => hob j e), hvn⟩, by simp only [intOf]; omega⟩
        · intro hk; exact hlast.out (by omega)
        · intro hk; exact hbig'.out (by omega) (hz1'.out (by omega) HG.out)
        · rw [show wvals (ds ++ [z]) = wvals ds ++ [.int .u32 (z : Int)] from List.map_append]; exact hown'
      · have p1 : ((k : Int) < (l1.length : Int)) ↔ False := by rw [iff_false]; omega
        have p2 : ((k : Int) < (l2.length : Int)) ↔ True := by rw [iff_true]; omega
        clear hgo hend q1 q2
        go_wp2_with first
          | (go_at_call 86; have hmark := m1; refine f2.mono ?_; rintro e w2 ⟨rfl, rfl⟩)
          | (go_at_call 86; refine f1.mono ?_; rintro e w2 ⟨rfl, rfl⟩; have m1 : True := trivial)
          | (at_builtin; (refine wpList_append_own2 _ rfl _ _ 22 22 rfl w.heap.size 72 72 i0 (.int .u32 0) 1 4 hbt hbt hi hz0 hz1 hz2 rfl (by decide) _ _ _ rfl (hown.alloc _) ⟨wr.heap.size, 0, none⟩ 1 1 [.int .u32 (z : Int)] rfl rfl (cell_one_new _ _ _) (by simp [Value.oneCell']) (by unfold maxLen; omega) (by omega) (by have := hbl.size; simp; omega) ?_); intro v' w4 hown' hg4 _)
        have hcl : ds.length + 1 = k + 1 := by rw [hdl.out]
        refine ⟨⟨k + 1, c', ds ++ [z], rfl, rfl, e3, by omega, ?_, ?_, by show _ = _; rw [List.length_append, hdl.out]; rfl, words_append.2 ⟨hdw, fun u hu => by simp at hu; rw [hu]; exact z3⟩, ?_, (hbl.alloc hbl.size _).grown hg4 (by have := hbl.size; simp; omega) (fun j e => hob j e), hvn⟩, by simp only [intOf]; omega⟩
        · intro hk; exact hlast.out (by omega)
        · intro hk; exact hbig'.out (by omega) (hz1'.out (by omega) HG.out)
        · rw [show wvals (ds ++ [z]) = wvals ds ++ [.int .u32 (z : Int)] from List.map_append]; exact hown'
      · have p1 : ((k : Int) < (l1.length : Int)) ↔ False := by rw [iff_false]; omega
        have p2 : ((k : Int) < (l2.length : Int)) ↔ False := by rw [iff_false]; omega
        have p3 : 0 < cr := by omega
        clear hgo hend q1 q2 q3
        go_wp2_with first
          | (go_at_call 86; have hmark := m1; refine f2.mono ?_; rintro e w2 ⟨rfl, rfl⟩)
          | (go_at_call 86; refine f1.mono ?_; rintro e w2 ⟨rfl, rfl⟩; have m1 : True := trivial)
          | (at_builtin; (refine wpList_append_own2 _ rfl _ _ 22 22 rfl w.heap.size 72 72 i0 (.int .u32 0) 1 4 hbt hbt hi hz0 hz1 hz2 rfl (by decide) _ _ _ rfl (hown.alloc _) ⟨wr.heap.size, 0, none⟩ 1 1 [.int .u32 (z : Int)] rfl rfl (cell_one_new _ _ _) (by simp [Value.oneCell']) (by unfold maxLen; omega) (by omega) (by have := hbl.size; simp; omega) ?_); intro v' w4 hown' hg4 _)
        have hcl : ds.length + 1 = k + 1 := by rw [hdl.out]
        refine ⟨⟨k + 1, c', ds ++ [z], rfl, rfl, e3, by omega, ?_, ?_, by show _ = _; rw [List.length_append, hdl.out]; rfl, words_append.2 ⟨hdw, fun u hu => by simp at hu; rw [hu]; exact z3⟩, ?_, (hbl.alloc hbl.size _).grown hg4 (by have := hbl.size; simp; omega) (fun j e => hob j e), hvn⟩, by simp only [intOf]; omega⟩
        · intro hk; exact hlast.out (by omega)
        · intro hk; exact hbig'.out (by omega) (hz1'.out (by omega) HG.out)
        · rw [show wvals (ds ++ [z]) = wvals ds ++ [.int .u32 (z : Int)] from List.map_append]; exact hown'
    · obtain rfl : cr = 0 := by omega
      have p1 : ((k : Int) < (l1.length : Int)) ↔ False := by rw [iff_false]; omega
      have p2 : ((k : Int) < (l2.length : Int)) ↔ False := by rw [iff_false]; omega
      have hv : val ds = val l1 + val l2 := by
        have := hval.out
        rw [List.take_of_length_le (by omega), List.take_of_length_le (by omega)] at this
        simpa using this
      have hcd : Canon ds := by
        refine canon_of_pow hdw ?_
        have h1 := hdl.out
        have hb := hbig.out
        have hM := HM.out
        rcases (show k = M + 1 ∨ k = M by omega) with e | e
        · right; rw [h1, e, hv]; exact hb e
        · rcases Nat.eq_zero_or_pos M with h0 | h0
          · left; omega
          · right
            rw [h1, e, hv]
            rcases (show l1.length = M ∨ l2.length = M by omega) with e1 | e1
            · have := pow_le_of_canon K1.out (by omega)
              rw [e1] at this
              omega
            · have := pow_le_of_canon K2.out (by omega)
              rw [e1] at this
              omega
      have hll := lim_val hcd
      rw [hv] at hll
      obtain ⟨A', cc, rfl, hn', hc', hrd', hab⟩ := own_rd (l := ds) hown hdw (by omega)
      have Hl := Lib.hid hll
      clear hgo hv hn' hll
      go_wp2_with fail
      go_ret
      refine ⟨A', cc, ?_, ?_, ?_, hbl⟩
      · rw [Hl.out, hdl.out]; rfl
      · rw [Hl.out, hdl.out]; exact hc'
      · rw [Hl.out]; exact hrd'

theorem less_next {ds : List Nat} {k br x y z b' : Nat} {a b X Y : Nat} (hl : ds.length = k) (h : val ds + b = a + BB ^ k * br) (ha : X = a + BB ^ k * x) (hb : Y = b + BB ^ k * y)
    (hz : z + y + br = x + BB * b') : val (ds ++ [z]) + Y = X + BB ^ (k + 1) * b' := by
  rw [val_snoc, hl, ha, hb, Nat.pow_succ]
  have e : BB ^ k * (z + y + br) = BB ^ k * (x + BB * b') := by rw [hz]
  rw [Nat.mul_add, Nat.mul_add, Nat.mul_add, ← Nat.mul_assoc] at e
  omega

set_option maxRecDepth 100000 in
set_option maxHeartbeats 4000000 in
theorem less_calls (A1 A2 : Option Addr) (c1 c2 : Nat) (l1 l2 : List Nat) (w : World) (h1 : Rd w A1 l1) (h2 : Rd w A2 l2) (hc1 : l1.length ≤ c1) (hc2 : l2.length ≤ c2) (hs1 : l1.length ≤ 1048576) (hll : l2.length ≤ l1.length) (hle : val l2 ≤ val l1) :
    Calls Tryd.prog 79 #[.slice A1 l1.length c1, .slice A2 l2.length c2] w (RetL (val l1 - val l2) l1.length w) := by
  obtain ⟨i0, hi, hz0, hz1, hz2⟩ := info_parts info_u32
  have hbt : Tryd.prog.underlying 22 = some (.slice 72) := by kernel_rfl
  have Hll := Lib.hid hll
  have Hle := Lib.hid hle
  clear hll hle
  go_enter Tryd.func79, Tryd.ntmps79
  go_wp2
  go_loopw [5, 6, 7] (fun v cv iv W => ∃ (k br : Nat) (ds : List Nat), iv = .int .i64 (k : Int) ∧ cv = .int .u64 (br : Int) ∧ br ≤ 1 ∧ k ≤ l1.length ∧ Hid (ds.length = k) ∧ Words ds ∧ W.ownsRow w.heap.size 72 1 v k (wvals ds) ∧ Below w.heap.size w W ∧ Hid (val ds + val (l2.take k) = val (l1.take k) + BB ^ k * br)) (fun _ _ i _ => l1.length - (intOf i).toNat)
  case atStart => exact ⟨0, 0, [], rfl, rfl, by omega, Nat.zero_le _, rfl, words_nil, World.ownsRow_nil _ _ _ _, Below.refl _ _, by simp [Hid, val]⟩
  case round =>
    obtain ⟨k, br, ds, rfl, rfl, hbr, hk, hdl, hdw, hown, hbl, hval⟩ := hrel
    rename_i wr
    obtain ⟨x, hx, hxb⟩ : ∃ x : Nat, Hid (l1.getD k 0 = x) ∧ x < 4294967296 := ⟨_, rfl, words_getD h1.words k⟩
    obtain ⟨y, hy, hyb⟩ : ∃ y : Nat, Hid (l2.getD k 0 = y) ∧ y < 4294967296 := ⟨_, rfl, words_getD h2.words k⟩
    have f1 := limb_calls A1 c1 k x l1 wr (h1.on hbl) hc1 hx.out
    have f2 := limb_calls A2 c2 k y l2 wr (h2.on hbl) hc2 hy.out
    obtain ⟨s, s1, s2, s3⟩ : ∃ s : Nat, (4294967296 : Int) + (x : Int) - (y : Int) - (br : Int) = (s : Int) ∧ Hid (s + y + br = 4294967296 + x) ∧ s < 8589934592 := ⟨4294967296 + x - y - br, by omega, by show _ = _; omega, by omega⟩
    obtain ⟨z, z1, z2, z3⟩ : ∃ z : Nat, (s : Int) % 4294967296 = (z : Int) ∧ Hid (z = s % 4294967296) ∧ z < 4294967296 := ⟨s % 4294967296, by omega, rfl, by omega⟩
    obtain ⟨q, e1, e2, e3⟩ : ∃ q : Nat, (s : Int) / 4294967296 = (q : Int) ∧ Hid (q = s / 4294967296) ∧ q ≤ 1 := ⟨s / 4294967296, by omega, rfl, by omega⟩
    obtain ⟨b', t1, t2, t3⟩ : ∃ b' : Nat, (1 : Int) - (q : Int) = (b' : Int) ∧ Hid (b' + q = 1) ∧ b' ≤ 1 := ⟨1 - q, by omega, by show _ = _; omega, by omega⟩
    have hvn := Lib.hid (less_next (k := k) (z := z) (b' := b') hdl.out hval.out ((take_val (l := l1) (k := k)).trans (by rw [hx.out])) ((take_val (l := l2) (k := k)).trans (by rw [hy.out])) (by
      have := s2.out; have := z2.out; have := e2.out; have := t2.out
      show z + y + br = x + 4294967296 * b'
      omega))
    have hob := own_base hown
    by_cases hgo : k < l1.length
    · have p1 : ((k : Int) < (l1.length : Int)) ↔ True := by rw [iff_true]; omega
      go_wp2_with first
        | (go_at_call 86; have hmark := m1; refine f2.mono ?_; rintro e w2 ⟨rfl, rfl⟩)
        | (go_at_call 86; refine f1.mono ?_; rintro e w2 ⟨rfl, rfl⟩; have m1 : True := trivial)
        | (at_builtin; (refine wpList_append_own2 _ rfl _ _ 22 22 rfl w.heap.size 72 72 i0 (.int .u32 0) 1 4 hbt hbt hi hz0 hz1 hz2 rfl (by decide) _ _ _ rfl (hown.alloc _) ⟨wr.heap.size, 0, none⟩ 1 1 [.int .u32 (z : Int)] rfl rfl (cell_one_new _ _ _) (by simp [Value.oneCell']) (by unfold maxLen; omega) (by omega) (by have := hbl.size; simp; omega) ?_); intro v' w4 hown' hg4 _)
      refine ⟨⟨k + 1, b', ds ++ [z], rfl, rfl, t3, by omega, by show _ = _; rw [List.length_append, hdl.out]; rfl, words_append.2 ⟨hdw, fun u hu => by simp at hu; rw [hu]; exact z3⟩, ?_, (hbl.alloc hbl.size _).grown hg4 (by have := hbl.size; simp; omega) (fun j e => hob j e), hvn⟩, by simp only [intOf]; omega⟩
      rw [show wvals (ds ++ [z]) = wvals ds ++ [.int .u32 (z : Int)] from List.map_append]; exact hown'
    · have p1 : ((k : Int) < (l1.length : Int)) ↔ False := by rw [iff_false]; omega
      have hv : val ds = val l1 - val l2 := by
        have hv := hval.out
        have hds := val_lt hdw
        rw [hdl.out] at hds
        rw [List.take_of_length_le (by have := Hll.out; omega), List.take_of_length_le (by omega)] at hv
        have hk' : k = l1.length := by omega
        have h1v := val_lt h1.words
        rw [← hk'] at h1v
        have hle := Hle.out
        rcases (show br = 0 ∨ br = 1 by omega) with rfl | rfl
        · omega
        · omega
      have Hv := Lib.hid hv
      obtain ⟨A', cc, rfl, hn', hc', hrd', hab⟩ := own_rd (l := ds) hown hdw (by omega)
      clear hgo hv hn'
      go_wp2_with fail
      go_ret
      refine ⟨A', cc, ds, ?_, Hv.out, ?_, ?_, hrd', hbl⟩
      · rw [hdl.out]; rfl
      · rw [hdl.out]; exact hk
      · rw [hdl.out]; exact hc'

end Nm
end Go.Proofs.YtlhmbbpkhahbeaaDoor
namespace Go.Proofs.YtlhmbbpkhahbeaaDoor
namespace Nm
open Go.RowKit Go.Shelf Go.BigFrame
attribute [local go_sem] Oper.semAt_some

/-- two boxes with integers and a block behind them -/
theorem boxes3 (w : World) (n1 n2 : Bool) (A1 A2 : Option Addr) (c1 c2 : Nat) (l1 l2 : List Nat) (h1 : Rd w A1 l1) (h2 : Rd w A2 l2) (hc1 : l1.length ≤ c1) (hc2 : l2.length ≤ c2) (cur : Array Value) (t : TypeId) :
    ∃ W3, (((w.alloc (.cells #[.bool n1, .slice A1 l1.length c1] 24)).alloc (.cells #[.bool n2, .slice A2 l2.length c2] 24)).alloc (.cells cur t)) = W3 ∧ Below w.heap.size w W3 ∧
      IntBox W3 w.heap.size n1 A1 c1 l1 ∧ IntBox W3 (w.heap.size + 1) n2 A2 c2 l2 ∧ Blk W3 (w.heap.size + 1 + 1) cur t ∧ W3.heap.size = w.heap.size + 3 := by
  obtain ⟨W3, hW3⟩ : ∃ W3, (((w.alloc (.cells #[.bool n1, .slice A1 l1.length c1] 24)).alloc (.cells #[.bool n2, .slice A2 l2.length c2] 24)).alloc (.cells cur t)) = W3 := ⟨_, rfl⟩
  have hb3 : Below w.heap.size w W3 := by rw [← hW3]; exact (((Below.refl _ w).alloc (Nat.le_refl _) _).alloc (by simp) _).alloc (by simp; omega) _
  refine ⟨W3, hW3, hb3, ?_, ?_, ?_, ?_⟩
  · exact ⟨by rw [← hW3]; exact (Below.heap_alloc _ _ _ (by simp; omega)).trans ((Below.heap_alloc _ _ _ (by simp)).trans (World.alloc_heap_new w _)), h1.on hb3, hc1⟩
  · exact ⟨by rw [← hW3]; exact (Below.heap_alloc _ _ _ (by simp)).trans (two_blk w _ _), h2.on hb3, hc2⟩
  · exact ⟨by rw [← hW3]; have := World.alloc_heap_new ((w.alloc (.cells #[.bool n1, .slice A1 l1.length c1] 24)).alloc (.cells #[.bool n2, .slice A2 l2.length c2] 24)) (.cells cur t); rwa [World.size_alloc, World.size_alloc] at this⟩
  · rw [← hW3]; simp

theorem IsZ.of {s : Bool} {l : List Nat} {z z' : Int} (h : IsZ s l z) (e : z = z') : IsZ s l z' := e ▸ h

set_option maxRecDepth 100000 in
set_option maxHeartbeats 2000000 in
theorem Sum_calls (n1 n2 : Bool) (A1 A2 : Option Addr) (c1 c2 : Nat) (l1 l2 : List Nat) (y1 y2 : Int) (w : World) (h1 : Rd w A1 l1) (h2 : Rd w A2 l2) (hc1 : l1.length ≤ c1) (hc2 : l2.length ≤ c2) (k1 : IsZ n1 l1 y1) (k2 : IsZ n2 l2 y2) (hs1 : l1.length ≤ 65536) (hs2 : l2.length ≤ 65536) :
    Calls Tryd.prog 29 #[iv n1 A1 l1.length c1, iv n2 A2 l2.length c2] w (RetZ (y1 + y2) w) := by
  obtain ⟨W3, hW3, hb3, B1, B2, hR, hsz⟩ := boxes3 w n1 n2 A1 A2 c1 c2 l1 l2 h1 h2 hc1 hc2 #[.bool false, .slice none 0 0] 24
  have Hsz := Lib.hid hsz
  clear hsz
  have hsum := fun W (hW : Below W3.heap.size W3 W) => sum_calls A1 A2 c1 c2 l1 l2 W (B1.rd.on hW) (B2.rd.on hW) hc1 hc2 (by omega) (by omega) k1.canon k2.canon
  have hlar := larger_calls A1 A2 c1 c2 l1 l2 W3 B1.rd B2.rd hc1 hc2 k1.canon k2.canon
  have v1 := k1.toZ
  have v2 := k2.toZ
  unfold toZ at v1 v2
  have hlen : ∀ {a b : List Nat}, Canon a → Canon b → val a ≤ val b → a.length ≤ b.length := fun ka kb h => by have := length_mono h; rwa [lim_val ka, lim_val kb] at this
  have d1 : ¬ w.heap.size = w.heap.size + 1 + 1 := by omega
  have d2 : ¬ w.heap.size + 1 = w.heap.size + 1 + 1 := by omega
  have d3 : ¬ w.heap.size + 1 + 1 = w.heap.size := by omega
  have d4 : ¬ w.heap.size + 1 + 1 = w.heap.size + 1 := by omega
  have x0 := cell_at B1.blk 0 _ rfl
  have x1 := cell_at B1.blk 1 _ rfl
  have x2 := cell_at B2.blk 0 _ rfl
  have x3 := cell_at B2.blk 1 _ rfl
  by_cases hn : n1 = n2
  · subst hn
    have hbe : (n1 == n1) = true := by simp
    have hm := fun W A c (h : Rd W A (lim (val l1 + val l2))) (hc : (lim (val l1 + val l2)).length ≤ c) => made_calls n1 A c (lim (val l1 + val l2)) W h hc
    rw [val_lim] at hm
    have hfin : (if n1 = true then -((val l1 + val l2 : Nat) : Int) else ((val l1 + val l2 : Nat) : Int)) = y1 + y2 := by rw [← v1, ← v2]; split <;> omega
    rw [hfin] at hm
    have HV1 := Lib.hid v1
    clear v1 v2 hfin hlen hlar
    go_enter Tryd.func29, Tryd.ntmps29
    go_wp2_with fail
    clear hW3
    go_region_held3 (fun w'' => w''.cell? ⟨w.heap.size, 0, none⟩ = some (.bool n1) ∧ w''.cell? ⟨w.heap.size, 1, none⟩ = some (.slice A1 l1.length c1) ∧ w''.cell? ⟨w.heap.size + 1, 0, none⟩ = some (.bool n1) ∧ w''.cell? ⟨w.heap.size + 1, 1, none⟩ = some (.slice A2 l2.length c2)) ((first | assumption | go_keep))
      ((first
        | (go_at_call 78; refine (hsum _ (below_drew (Below.refl _ _))).mono ?_; rintro e w4 ⟨A4, c4, rfl, n4, r4, b4⟩; replace b4 := (below_drew (Below.refl _ W3)).trans b4; have i0 := cell_at (B1.on b4).blk 0 _ rfl; have i1 := cell_at (B1.on b4).blk 1 _ rfl; have i2 := cell_at (B2.on b4).blk 0 _ rfl; have i3 := cell_at (B2.on b4).blk 1 _ rfl)
        | (go_at_call 70; refine (hm _ A4 c4 r4 n4).mono ?_; rintro e w5 ⟨s5, A5, c5, l5, rfl, z5, n5, r5, b5⟩; have bb5 := b4.trans (b5.mono b4.size); have j0 := cell_at (B1.on bb5).blk 0 _ rfl; have j1 := cell_at (B1.on bb5).blk 1 _ rfl; have j2 := cell_at (B2.on bb5).blk 0 _ rfl; have j3 := cell_at (B2.on bb5).blk 1 _ rfl; have hq5 := hR.on bb5; have z0 := cell_at hq5.h 0 _ rfl; have z1 := cell_at hq5.h 1 _ rfl; have u0 := frozen_at hq5.h 0; have u1 := frozen_at hq5.h 1)))
    go_wp2_with fail
    exact ret_cell rfl rfl rfl (set_blk (set_blk hq5.h 0 _) 1 _) ⟨s5, A5, c5, l5, rfl, z5, n5, rd_sets r5 hq5 _ _, ((hb3.trans (bb5.mono hb3.size)).setCell (by dsimp only; omega) _).setCell (by dsimp only; omega) _⟩
  · have hbe : (n1 == n2) = false := by rw [beq_eq_false_iff_ne]; exact hn
    by_cases hle : val l2 ≤ val l1
    · have hge : (0 : Int) ≤ cmpZ (val l1 : Int) (val l2 : Int) := by unfold cmpZ; split <;> (try split) <;> omega
      generalize cmpZ (val l1 : Int) (val l2 : Int) = cz at *
      have hless := fun W (hW : Below W3.heap.size W3 W) => less_calls A1 A2 c1 c2 l1 l2 W (B1.rd.on hW) (B2.rd.on hW) hc1 hc2 (by omega) (hlen k2.canon k1.canon hle) hle
      have hfin : (if n1 = true then -((val l1 - val l2 : Nat) : Int) else ((val l1 - val l2 : Nat) : Int)) = y1 + y2 := by
        rw [← v1, ← v2]
        cases n1 <;> cases n2 <;> simp_all <;> omega
      have hm := fun W A c l (h : Rd W A l) (hc : l.length ≤ c) (hv : val l = val l1 - val l2) => made_calls n1 A c l W h hc
      have Hfin := Lib.hid hfin
      clear v1 v2 hfin hlen hsum hn hle
      go_enter Tryd.func29, Tryd.ntmps29
      go_wp2_with (go_at_call 73; refine hlar.mono ?_; rintro e w3 ⟨rfl, nn, rfl⟩)
      clear hW3
      go_region_held3 (fun w'' => w''.cell? ⟨w.heap.size, 0, none⟩ = some (.bool n1) ∧ w''.cell? ⟨w.heap.size, 1, none⟩ = some (.slice A1 l1.length c1) ∧ w''.cell? ⟨w.heap.size + 1, 0, none⟩ = some (.bool n2) ∧ w''.cell? ⟨w.heap.size + 1, 1, none⟩ = some (.slice A2 l2.length c2)) ((first | assumption | go_keep))
      ((first
        | (go_at_call 79; refine (hless _ (below_drewN (Below.refl _ _) (nn + 1))).mono ?_; rintro e w4 ⟨A4, c4, l4, rfl, v4, -, n4, r4, b4⟩; replace b4 := (below_drewN (Below.refl _ W3) (nn + 1)).trans b4; have V4 := Lib.hid v4; clear v4; have i0 := cell_at (B1.on b4).blk 0 _ rfl; have i1 := cell_at (B1.on b4).blk 1 _ rfl; have i2 := cell_at (B2.on b4).blk 0 _ rfl; have i3 := cell_at (B2.on b4).blk 1 _ rfl)
        | (go_at_call 70; refine (hm _ A4 c4 l4 r4 n4 V4.out).mono ?_; rintro e w5 ⟨s5, A5, c5, l5, rfl, z5, n5, r5, b5⟩; have bb5 := b4.trans (b5.mono b4.size); have j0 := cell_at (B1.on bb5).blk 0 _ rfl; have j1 := cell_at (B1.on bb5).blk 1 _ rfl; have j2 := cell_at (B2.on bb5).blk 0 _ rfl; have j3 := cell_at (B2.on bb5).blk 1 _ rfl; have hq5 := hR.on bb5; have z0 := cell_at hq5.h 0 _ rfl; have z1 := cell_at hq5.h 1 _ rfl; have u0 := frozen_at hq5.h 0; have u1 := frozen_at hq5.h 1)))
      go_wp2_with fail
      exact ret_cell rfl rfl rfl (set_blk (set_blk hq5.h 0 _) 1 _) ⟨s5, A5, c5, l5, rfl, (z5.of (by rw [V4.out]; exact Hfin.out)), n5, rd_sets r5 hq5 _ _, ((hb3.trans (bb5.mono hb3.size)).setCell (by dsimp only; omega) _).setCell (by dsimp only; omega) _⟩
    · have hge : cmpZ (val l1 : Int) (val l2 : Int) < 0 := by unfold cmpZ; split <;> (try split) <;> omega
      generalize cmpZ (val l1 : Int) (val l2 : Int) = cz at *
      have hless := fun W (hW : Below W3.heap.size W3 W) => less_calls A2 A1 c2 c1 l2 l1 W (B2.rd.on hW) (B1.rd.on hW) hc2 hc1 (by omega) (hlen k1.canon k2.canon (by omega)) (by omega)
      have hfin : (if n2 = true then -((val l2 - val l1 : Nat) : Int) else ((val l2 - val l1 : Nat) : Int)) = y1 + y2 := by
        rw [← v1, ← v2]
        cases n1 <;> cases n2 <;> simp_all <;> omega
      have hm := fun W A c l (h : Rd W A l) (hc : l.length ≤ c) (hv : val l = val l2 - val l1) => made_calls n2 A c l W h hc
      have Hfin := Lib.hid hfin
      have hge' : ¬ (0 : Int) ≤ cz := by omega
      clear v1 v2 hfin hlen hsum hn hle
      go_enter Tryd.func29, Tryd.ntmps29
      go_wp2_with (go_at_call 73; refine hlar.mono ?_; rintro e w3 ⟨rfl, nn, rfl⟩)
      clear hW3
      go_region_held3 (fun w'' => w''.cell? ⟨w.heap.size, 0, none⟩ = some (.bool n1) ∧ w''.cell? ⟨w.heap.size, 1, none⟩ = some (.slice A1 l1.length c1) ∧ w''.cell? ⟨w.heap.size + 1, 0, none⟩ = some (.bool n2) ∧ w''.cell? ⟨w.heap.size + 1, 1, none⟩ = some (.slice A2 l2.length c2)) ((first | assumption | go_keep))
      ((first
        | (go_at_call 79; refine (hless _ (below_drewN (Below.refl _ _) (nn + 1))).mono ?_; rintro e w4 ⟨A4, c4, l4, rfl, v4, -, n4, r4, b4⟩; replace b4 := (below_drewN (Below.refl _ W3) (nn + 1)).trans b4; have V4 := Lib.hid v4; clear v4; have i0 := cell_at (B1.on b4).blk 0 _ rfl; have i1 := cell_at (B1.on b4).blk 1 _ rfl; have i2 := cell_at (B2.on b4).blk 0 _ rfl; have i3 := cell_at (B2.on b4).blk 1 _ rfl)
        | (go_at_call 70; refine (hm _ A4 c4 l4 r4 n4 V4.out).mono ?_; rintro e w5 ⟨s5, A5, c5, l5, rfl, z5, n5, r5, b5⟩; have bb5 := b4.trans (b5.mono b4.size); have j0 := cell_at (B1.on bb5).blk 0 _ rfl; have j1 := cell_at (B1.on bb5).blk 1 _ rfl; have j2 := cell_at (B2.on bb5).blk 0 _ rfl; have j3 := cell_at (B2.on bb5).blk 1 _ rfl; have hq5 := hR.on bb5; have z0 := cell_at hq5.h 0 _ rfl; have z1 := cell_at hq5.h 1 _ rfl; have u0 := frozen_at hq5.h 0; have u1 := frozen_at hq5.h 1)))
      go_wp2_with fail
      exact ret_cell rfl rfl rfl (set_blk (set_blk hq5.h 0 _) 1 _) ⟨s5, A5, c5, l5, rfl, (z5.of (by rw [V4.out]; exact Hfin.out)), n5, rd_sets r5 hq5 _ _, ((hb3.trans (bb5.mono hb3.size)).setCell (by dsimp only; omega) _).setCell (by dsimp only; omega) _⟩

end Nm
end Go.Proofs.YtlhmbbpkhahbeaaDoor
namespace Go.Proofs.YtlhmbbpkhahbeaaDoor
namespace Nm
open Go.RowKit Go.Shelf Go.BigFrame
attribute [local go_sem] Oper.semAt_some

theorem ret_cellT {fn : Func} {p : Tmp} {T : TypeId} {cur : Array Value} {n : Nat} {fs : Array Field} (h : fn.results = #[.cell p T]) (hu : Tryd.prog.underlying T = some (.struct fs)) (hi : (Tryd.prog.info? T).map (·.size) = some n)
    {a : Act} {w : World} {g : Nat} {R : Ending → World → Prop} (hd0 : a.defers = []) (hp : a.tmps.getD p undef = .pointer (some ⟨g, 0, none⟩))
    (hg : w.heap[g]? = some (.cells cur T (0, 0))) (hn : n = cur.size) (hR : R (.returned (.agg cur)) w) : bodyPost Tryd.prog fn R .ret a w :=
  bodyPost_ret (results_cell_row h _ _ g T cur (0, 0) _ hp hg hu rfl (hn ▸ hi)) hd0 hR

theorem IsZ.neg {s : Bool} {l : List Nat} {z : Int} (h : IsZ s l z) : IsZ (!s && decide ((0 : Int) < (l.length : Int))) l (-z) := by
  constructor
  · rw [h.sgn]
    by_cases hz : z = 0
    · have : l = [] := by rw [h.abs, hz]; exact lim_zero
      subst this; subst hz; rfl
    · have h1 : 0 < l.length := by rw [h.abs]; exact lim_length_pos (by omega)
      rw [decide_eq_true (show (0 : Int) < (l.length : Int) by omega), Bool.and_true]
      by_cases h2 : z < 0
      · rw [decide_eq_true h2, decide_eq_false (by omega)]; rfl
      · rw [decide_eq_false h2, decide_eq_true (by omega)]; rfl
  · rw [h.abs]; congr 1; omega

set_option maxRecDepth 100000 in
set_option maxHeartbeats 2000000 in
theorem Minus_calls (n : Bool) (A : Option Addr) (c : Nat) (l : List Nat) (z : Int) (w : World) (h : Rd w A l) (hc : l.length ≤ c) (k : IsZ n l z) :
    Calls Tryd.prog 38 #[iv n A l.length c] w (RetZ (-z) w) := by
  have hk := k.neg
  have hs := h.small
  have hb2 : ∀ a b, Below w.heap.size w ((w.alloc a).alloc b) := fun a b => ((Below.refl _ w).alloc (Nat.le_refl _) _).alloc (by simp) _
  rcases Nat.eq_zero_or_pos l.length with h0 | h0
  · obtain rfl : l = [] := List.length_eq_zero_iff.1 h0
    rw [show (!n && decide ((0 : Int) < (([] : List Nat).length : Int))) = false by simp] at hk
    clear h0
    cases n
    all_goals
      go_enter Tryd.func38, Tryd.ntmps38
      go_wp2_with fail
      exact ret_cell rfl rfl rfl (two_blk w _ _) ⟨_, A, c, [], rfl, hk, hc, h.on (hb2 _ _), hb2 _ _⟩
  · have h0' : ((0 : Int) < (l.length : Int)) ↔ True := by rw [iff_true]; omega
    rw [decide_eq_true (show (0 : Int) < (l.length : Int) by omega), Bool.and_true] at hk
    cases n
    all_goals
      go_enter Tryd.func38, Tryd.ntmps38
      go_wp2_with fail
      exact ret_cell rfl rfl rfl (two_blk w _ _) ⟨_, A, c, l, rfl, hk, hc, h.on (hb2 _ _), hb2 _ _⟩

/-- a result of the specification: an integer, or an error -/
def RetGot (z er : Int) (w : World) (e : Ending) (w' : World) : Prop :=
  ∃ s A c l, e = .returned (.agg #[.bool s, .slice A l.length c, .int .i64 er]) ∧ IsZ s l z ∧ l.length ≤ c ∧ Rd w' A l ∧ Below w.heap.size w w'

theorem got_size : (Tryd.prog.info? 41).map (·.size) = some 3 := by kernel_rfl

theorem set3 {W : World} {B : Nat} {a0 a1 a2 : Value} {t : TypeId} (h : W.heap[B]? = some (.cells #[a0, a1, a2] t (0, 0))) (v0 v1 v2 : Value) :
    (((W.setCell ⟨B, 0, none⟩ v0).setCell ⟨B, 1, none⟩ v1).setCell ⟨B, 2, none⟩ v2).heap[B]? = some (.cells #[v0, v1, v2] t (0, 0)) := by
  have h0 : (W.setCell ⟨B, 0, none⟩ v0).heap[B]? = some (.cells #[v0, a1, a2] t (0, 0)) := set_blk h 0 v0
  generalize W.setCell ⟨B, 0, none⟩ v0 = W at *
  have h1 : (W.setCell ⟨B, 1, none⟩ v1).heap[B]? = some (.cells #[v0, v1, a2] t (0, 0)) := set_blk h0 1 v1
  generalize W.setCell ⟨B, 1, none⟩ v1 = W at *
  exact set_blk h1 2 v2

set_option maxRecDepth 100000 in
set_option maxHeartbeats 2000000 in
theorem fit_calls (n : Bool) (A : Option Addr) (c : Nat) (l : List Nat) (z : Int) (w : World) (h : Rd w A l) (hc : l.length ≤ c) (k : IsZ n l z) :
    Calls Tryd.prog 75 #[iv n A l.length c] w (RetGot (fitZ z).1 (fitZ z).2 w) := by
  have hs := h.small
  have hb2 : ∀ a b, Below w.heap.size w ((w.alloc a).alloc b) := fun a b => ((Below.refl _ w).alloc (Nat.le_refl _) _).alloc (by simp) _
  unfold fitZ
  rw [← k.abs]
  by_cases h0 : l.length ≤ 300
  · rw [if_pos h0]
    have h0' : ((300 : Int) < (l.length : Int)) ↔ False := by rw [iff_false]; omega
    go_enter Tryd.func75, Tryd.ntmps75
    go_wp2_with fail
    exact ret_cellT rfl Tryd.underlying41 got_size rfl rfl (two_blk w _ _) rfl ⟨_, A, c, l, rfl, k, hc, h.on (hb2 _ _), hb2 _ _⟩
  · rw [if_neg h0]
    have h0' : ((300 : Int) < (l.length : Int)) ↔ True := by rw [iff_true]; omega
    go_enter Tryd.func75, Tryd.ntmps75
    go_wp2_with fail
    exact ret_cellT rfl Tryd.underlying41 got_size rfl rfl (two_blk w _ _) rfl ⟨false, none, 0, [], rfl, isZ_zero, Nat.le_refl _, Rd.nil _ _, hb2 _ _⟩

set_option maxRecDepth 100000 in
set_option maxHeartbeats 2000000 in
theorem ROf_calls (n : Int) (w : World) (h1 : -9223372036854775808 ≤ n) (h2 : n < 9223372036854775808) :
    Calls Tryd.prog 40 #[.int .i64 n] w (RetZ n w) := by
  obtain ⟨m, hm⟩ : ∃ m : Nat, n.natAbs = m := ⟨_, rfl⟩
  have hm1 : m ≤ 9223372036854775808 := by omega
  have hb2 : ∀ a b, Below w.heap.size w ((w.alloc a).alloc b) := fun a b => ((Below.refl _ w).alloc (Nat.le_refl _) _).alloc (by simp) _
  obtain ⟨z, z1, z2, z3⟩ : ∃ z : Nat, (m : Int) % 4294967296 = (z : Int) ∧ Hid (z = m % 4294967296) ∧ z < 4294967296 := ⟨m % 4294967296, by omega, rfl, by omega⟩
  obtain ⟨q, e1, e2, e3⟩ : ∃ q : Nat, (m : Int) / 4294967296 = (q : Int) ∧ Hid (q = m / 4294967296) ∧ q < 4294967296 := ⟨m / 4294967296, by omega, rfl, by omega⟩
  have hv : val [z, q] = m := by
    have := z2.out; have := e2.out
    show z + 4294967296 * (q + 4294967296 * 0) = m
    omega
  have hwd : Words [z, q] := words_cons.2 ⟨z3, words_cons.2 ⟨e3, words_nil⟩⟩
  have hrd : ∀ o, Rd ((w.alloc o).alloc (.cells #[.int .u32 (z : Int), .int .u32 (q : Int)] 72)) (some ⟨w.heap.size + 1, 0, none⟩) [z, q] := fun o => arr_rd (arr_of (two_blk w o _)) hwd (by simp)
  have hq0 : ∀ o, Blk ((w.alloc (.cells #[.bool false, .slice none 0 0] 24)).alloc o) w.heap.size #[.bool false, .slice none 0 0] 24 := fun o => two_old w _ o rfl
  have hmade : ∀ (s : Bool) W A c, Rd W A [z, q] → 2 ≤ c → Calls Tryd.prog 70 #[.bool s, .slice A 2 c] W (RetZ (if s = true then -(m : Int) else m) W) := fun s W A c h hc => by
    have := made_calls s A c [z, q] W h hc
    rwa [hv] at this
  by_cases hn : n < 0
  · obtain rfl : n = -(m : Int) := by omega
    obtain ⟨u, u1, u2, u3⟩ : ∃ u : Nat, (-(m : Int)) % 18446744073709551616 = (u : Int) ∧ Hid (u + m = 18446744073709551616) ∧ u < 18446744073709551616 := ⟨18446744073709551616 - m, by omega, by show _ = _; omega, by omega⟩
    have u4 : IntKind.u64.wrap (-(m : Int)) = (u : Int) := by rw [IntKind.wrap_u64]; have := u2.out; omega
    have u5 : IntKind.u64.wrap (-(u : Int)) = (m : Int) := by rw [IntKind.wrap_u64]; have := u2.out; omega
    have hdl : decide (-(m : Int) < 0) = true := decide_eq_true hn
    have hdl' : decide ((0 : Int) < (m : Int)) = true := decide_eq_true (by omega)
    have hm0 : 0 < m := by omega
    have hm2 : m < 18446744073709551616 := by omega
    have hmade := hmade true
    simp only [if_true] at hmade
    have Hv := Lib.hid hv
    clear hm hn h1 h2 hv hm1
    go_enter Tryd.func40, Tryd.ntmps40
    go_wp2_with first
      | (go_at_call 70; (refine (hmade _ _ _ (hrd _) (Nat.le_refl _)).mono ?_); rintro e w5 ⟨s5, A5, c5, l5, rfl, k5, n5, r5, b5⟩; have hq5 := (hq0 _).on b5; have x0 := cell_at hq5.h 0 _ rfl; have x1 := cell_at hq5.h 1 _ rfl; have y0 := frozen_at hq5.h 0; have y1 := frozen_at hq5.h 1)
    exact ret_cell rfl rfl rfl (set_blk (set_blk hq5.h 0 _) 1 _) ⟨s5, A5, c5, l5, rfl, k5, n5, rd_sets r5 hq5 _ _, (((hb2 _ _).trans (b5.mono (hb2 _ _).size)).setCell (Nat.le_refl _) _).setCell (Nat.le_refl _) _⟩
  · obtain rfl : n = (m : Int) := by omega
    have hm2 : m < 9223372036854775808 := by omega
    have hdl : decide ((m : Int) < 0) = false := decide_eq_false hn
    have hmade := hmade false
    simp only [Bool.false_eq_true, if_false] at hmade
    have Hv := Lib.hid hv
    clear hm hn h1 h2 hm1 hv
    go_enter Tryd.func40, Tryd.ntmps40
    go_wp2_with first
      | (go_at_call 70; (refine (hmade _ _ _ (hrd _) (Nat.le_refl _)).mono ?_); rintro e w5 ⟨s5, A5, c5, l5, rfl, k5, n5, r5, b5⟩; have hq5 := (hq0 _).on b5; have x0 := cell_at hq5.h 0 _ rfl; have x1 := cell_at hq5.h 1 _ rfl; have y0 := frozen_at hq5.h 0; have y1 := frozen_at hq5.h 1)
    exact ret_cell rfl rfl rfl (set_blk (set_blk hq5.h 0 _) 1 _) ⟨s5, A5, c5, l5, rfl, k5, n5, rd_sets r5 hq5 _ _, (((hb2 _ _).trans (b5.mono (hb2 _ _).size)).setCell (Nat.le_refl _) _).setCell (Nat.le_refl _) _⟩

set_option maxRecDepth 100000 in
set_option maxHeartbeats 2000000 in
theorem Of_calls (n : Int) (w : World) (h1 : -9223372036854775808 ≤ n) (h2 : n < 9223372036854775808) :
    Calls Tryd.prog 52 #[.int .i64 n] w (RetZ n w) := by
  obtain ⟨m, hm⟩ : ∃ m : Nat, n.natAbs = m := ⟨_, rfl⟩
  have hm1 : m ≤ 9223372036854775808 := by omega
  have hb2 : ∀ a b, Below w.heap.size w ((w.alloc a).alloc b) := fun a b => ((Below.refl _ w).alloc (Nat.le_refl _) _).alloc (by simp) _
  obtain ⟨z, z1, z2, z3⟩ : ∃ z : Nat, (m : Int) % 4294967296 = (z : Int) ∧ Hid (z = m % 4294967296) ∧ z < 4294967296 := ⟨m % 4294967296, by omega, rfl, by omega⟩
  obtain ⟨q, e1, e2, e3⟩ : ∃ q : Nat, (m : Int) / 4294967296 = (q : Int) ∧ Hid (q = m / 4294967296) ∧ q < 4294967296 := ⟨m / 4294967296, by omega, rfl, by omega⟩
  have hv : val [z, q] = m := by
    have := z2.out; have := e2.out
    show z + 4294967296 * (q + 4294967296 * 0) = m
    omega
  have hwd : Words [z, q] := words_cons.2 ⟨z3, words_cons.2 ⟨e3, words_nil⟩⟩
  have hrd : ∀ o, Rd ((w.alloc o).alloc (.cells #[.int .u32 (z : Int), .int .u32 (q : Int)] 72)) (some ⟨w.heap.size + 1, 0, none⟩) [z, q] := fun o => arr_rd (arr_of (two_blk w o _)) hwd (by simp)
  have hq0 : ∀ o, Blk ((w.alloc (.cells #[.bool false, .slice none 0 0] 24)).alloc o) w.heap.size #[.bool false, .slice none 0 0] 24 := fun o => two_old w _ o rfl
  have hq1 : ∀ o i, (((w.alloc (.cells #[.bool false, .slice none 0 0] 24)).alloc o)).frozen? ⟨w.heap.size, i, none⟩ = false := fun o i => frozen_at (hq0 o).h i
  have hq2 : ∀ o, (((w.alloc (.cells #[.bool false, .slice none 0 0] 24)).alloc o)).cell? ⟨w.heap.size, 0, none⟩ = some (.bool false) := fun o => cell_at (hq0 o).h 0 _ rfl
  have hq3 : ∀ o, (((w.alloc (.cells #[.bool false, .slice none 0 0] 24)).alloc o)).cell? ⟨w.heap.size, 1, none⟩ = some (.slice none 0 0) := fun o => cell_at (hq0 o).h 1 _ rfl
  have htr : ∀ W A c, Rd W A [z, q] → 2 ≤ c → Calls Tryd.prog 101 #[.slice A 2 c] W fun e w' => e = .returned (.slice A (lim m).length c) ∧ W = w' := fun W A c h hc => by
    have := trim_calls A c [z, q] W h hc
    unfold trim at this
    rwa [hv] at this
  have hlen : (lim m).length ≤ 2 := by have := trim_length_le hwd; unfold trim at this; rwa [hv] at this
  have hrt : ∀ o, Rd ((w.alloc o).alloc (.cells #[.int .u32 (z : Int), .int .u32 (q : Int)] 72)) (some ⟨w.heap.size + 1, 0, none⟩) (lim m) := fun o => by
    have := (hrd o).trim
    unfold trim at this
    rwa [hv] at this
  by_cases hn : n < 0
  · obtain rfl : n = -(m : Int) := by omega
    obtain ⟨u, u1, u2, u3⟩ : ∃ u : Nat, (-(m : Int)) % 18446744073709551616 = (u : Int) ∧ Hid (u + m = 18446744073709551616) ∧ u < 18446744073709551616 := ⟨18446744073709551616 - m, by omega, by show _ = _; omega, by omega⟩
    have u4 : IntKind.u64.wrap (-(m : Int)) = (u : Int) := by rw [IntKind.wrap_u64]; have := u2.out; omega
    have u5 : IntKind.u64.wrap (-(u : Int)) = (m : Int) := by rw [IntKind.wrap_u64]; have := u2.out; omega
    have hdl : decide (-(m : Int) < 0) = true := decide_eq_true hn
    have hdl' : decide ((0 : Int) < (m : Int)) = true := decide_eq_true (by omega)
    have hm0 : 0 < m := by omega
    have hm2 : m < 18446744073709551616 := by omega
    have hz : IsZ true (lim m) (-(m : Int)) := by have := isZ_of true m; rwa [show (true && m != 0) = true by simp; omega, if_pos rfl] at this
    have Hv := Lib.hid hv
    clear hm hn h1 h2 hv hm1
    go_enter Tryd.func52, Tryd.ntmps52
    go_wp2_with first
      | (go_at_call 101; (refine (htr _ _ _ (hrd _) (Nat.le_refl _)).mono ?_); rintro e w5 ⟨rfl, rfl⟩)
    exact ret_cell rfl rfl rfl (two_old w _ _ rfl).h ⟨_, _, _, lim m, rfl, hz, hlen, hrt _, hb2 _ _⟩
  · obtain rfl : n = (m : Int) := by omega
    have hm2 : m < 9223372036854775808 := by omega
    have hdl : decide ((m : Int) < 0) = false := decide_eq_false hn
    have hz : IsZ false (lim m) (m : Int) := isZ_nat m
    have Hv := Lib.hid hv
    clear hm hn h1 h2 hm1 hv
    go_enter Tryd.func52, Tryd.ntmps52
    go_wp2_with first
      | (go_at_call 101; (refine (htr _ _ _ (hrd _) (Nat.le_refl _)).mono ?_); rintro e w5 ⟨rfl, rfl⟩)
    exact ret_cell rfl rfl rfl (two_old w _ _ rfl).h ⟨_, _, _, lim m, rfl, hz, hlen, hrt _, hb2 _ _⟩

/-- what Compare returns -/
def cmpR (n1 : Bool) (l1 : List Nat) (n2 : Bool) (l2 : List Nat) : Int := if (okI n1 l1 && okI n2 l2) = true then cmpZ (toZ n1 l1) (toZ n2 l2) else 0

set_option maxRecDepth 100000 in
set_option maxHeartbeats 2000000 in
theorem Compare_calls (n1 n2 : Bool) (A1 A2 : Option Addr) (c1 c2 : Nat) (l1 l2 : List Nat) (w : World) (h1 : Rd w A1 l1) (h2 : Rd w A2 l2) (hc1 : l1.length ≤ c1) (hc2 : l2.length ≤ c2) :
    Calls Tryd.prog 47 #[iv n1 A1 l1.length c1, iv n2 A2 l2.length c2] w fun e w' => e = .returned (.int .i64 (cmpR n1 l1 n2 l2)) ∧ Below w.heap.size w w' := by
  have f1 := fun W (hW : Below w.heap.size w W) => Check_calls n1 A1 c1 l1 W (h1.on hW) hc1
  have f2 := fun W (hW : Below w.heap.size w W) => Check_calls n2 A2 c2 l2 W (h2.on hW) hc2
  have hb2 : ∀ a b, Below w.heap.size w ((w.alloc a).alloc b) := fun a b => ((Below.refl _ w).alloc (Nat.le_refl _) _).alloc (by simp) _
  have k1 := Blk.mk (two_blk w (.cells #[.bool n1, .slice A1 l1.length c1] 24) (.cells #[.bool n2, .slice A2 l2.length c2] 24))
  have k0 : Blk ((w.alloc (.cells #[.bool n1, .slice A1 l1.length c1] 24)).alloc (.cells #[.bool n2, .slice A2 l2.length c2] 24)) w.heap.size #[.bool n1, .slice A1 l1.length c1] 24 := two_old w _ _ rfl
  have hor : (okI n1 l1 && okI n2 l2) = true → ∀ W, Below w.heap.size w W → Calls Tryd.prog 98 #[iv n1 A1 l1.length c1, iv n2 A2 l2.length c2] W fun e w' => e = .returned (.int .i64 (cmpZ (toZ n1 l1) (toZ n2 l2))) ∧ Below W.heap.size W w' := fun hk W hW => by
    rw [Bool.and_eq_true] at hk
    exact order_calls n1 n2 A1 A2 c1 c2 l1 l2 W (h1.on hW) (h2.on hW) hc1 hc2 (okI_isInt h1.words hk.1) (okI_isInt h2.words hk.2)
  unfold cmpR
  generalize cmpZ (toZ n1 l1) (toZ n2 l2) = cz at *
  generalize okI n1 l1 = b1 at *
  generalize okI n2 l2 = b2 at *
  cases b1 <;> cases b2
  all_goals
    simp only [Bool.false_eq_true, if_false, if_true, Bool.and_true, Bool.and_false] at *
    go_enter Tryd.func47, Tryd.ntmps47
    go_wp2_with first
      | (go_at_call 98; refine (hor trivial _ hbb2).mono ?_; rintro e w5 ⟨rfl, hb''⟩; have hbb3 := hbb2.trans (hb''.mono hbb2.size))
      | (go_at_call 48; have hmark := m1; refine (f2 _ hbb).mono ?_; rintro e w4 ⟨rfl, hb'⟩; have hbb2 := hbb.trans (hb'.mono hbb.size); have x2 := cell_at ((k0.on hb).on hb').h 0 _ rfl; have x3 := cell_at ((k0.on hb).on hb').h 1 _ rfl; have x4 := cell_at ((k1.on hb).on hb').h 0 _ rfl; have x5 := cell_at ((k1.on hb).on hb').h 1 _ rfl)
      | (go_at_call 48; refine (f1 _ (hb2 _ _)).mono ?_; rintro e w3 ⟨rfl, hb⟩; have m1 : True := trivial; have hbb := (hb2 _ _).trans (hb.mono (hb2 _ _).size); have x0 := cell_at (k1.on hb).h 0 _ rfl; have x1 := cell_at (k1.on hb).h 1 _ rfl)
    go_ret
    first | exact ⟨rfl, hbb3⟩ | exact ⟨rfl, hbb2⟩ | exact ⟨rfl, hbb⟩

end Nm
end Go.Proofs.YtlhmbbpkhahbeaaDoor
