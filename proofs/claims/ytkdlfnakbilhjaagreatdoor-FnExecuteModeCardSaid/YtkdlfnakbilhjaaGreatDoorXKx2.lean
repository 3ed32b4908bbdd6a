-- Made by this session's gprint.py out of the translation. Not trusted: Lean checks it.
import Derived.Test.YtkdlfnakbilhjaaGreatDoorShelf
import Derived.Test.YtkdlfnakbilhjaaGreatDoorXKx0
namespace Go.Proofs.YtkdlfnakbilhjaaGreatDoor.XK
open Go.RowKit Go.Proofs.YtkdlfnakbilhjaaGreatDoorW.PrintWords Go.Proofs.YtkdlfnakbilhjaaGreatDoorW.PrintLast Go.Proofs.YtkdlfnakbilhjaaGreatDoorW.PrintMore
attribute [local go_sem] max2_int min2_int max_two min_two max_three min_three max_four min_four   -- for this text's walks alone
set_option linter.unusedVariables false
set_option linter.unusedSimpArgs false

-- NOT PRINTED: function 79 (abi_NoEscape)

-- NOT PRINTED: function 53 (strings_Builder_copyCheck)

-- NOT PRINTED: function 80 (bytealg_MakeNoZero)

-- NOT PRINTED: function 54 (strings_Builder_grow)

-- NOT PRINTED: function 38 (strings_Builder_Grow)

-- NOT PRINTED: function 39 (strings_Builder_WriteString)

-- NOT PRINTED: function 40 (strings_Builder_String)

-- NOT PRINTED: function 83 (utf8_RuneCountInString)

-- NOT PRINTED: function 106 (utf8_decodeRuneInStringSlow)

-- NOT PRINTED: function 84 (utf8_DecodeRuneInString)

-- NOT PRINTED: function 60 (strings_explode)

-- NOT PRINTED: function 81 (bytealg_IndexByteString)

-- NOT PRINTED: function 56 (stringslite_IndexByte)

-- NOT PRINTED: function 57 (bytealg_IndexString)

/-- A state of type 41 at block g of W; what its slices lead to came in by w0. -/
def IsS41 (w0 W : World) (g : Nat) (f0 : List (S49)) (f1 : List (S127)) : Prop := ∃ A0 c0, ∃ A1 c1, W.heap[g]? = some (.cells #[.slice A0 f0.length c0, .slice A1 f1.length c1] 41 (0, 0)) ∧ w0.heap.size ≤ g ∧ Kd.C k49 w0 A0 f0.length f0 ∧ Kd.C k127 w0 A1 f1.length f1
theorem IsS41.grown {w0 W : World} {g : Nat} {f0 : List (S49)} {f1 : List (S127)} {W1 : World} {row : Option Nat} (h : IsS41 w0 W g f0 f1) (hw : W.grownBy W1 row) (hne : some g ≠ row) : IsS41 w0 W1 g f0 f1 := by
 obtain ⟨A0, c0, A1, c1, hb, hg, hr0, hr1⟩ := h
 exact ⟨A0, c0, A1, c1, blk_grown hb hw hne, hg, hr0, hr1⟩
theorem IsS41.fresh {w0 W : World} {g : Nat} {f0 : List (S49)} {f1 : List (S127)} (h : IsS41 w0 W g f0 f1) : ∀ k, W.heap.size ≤ k → k ≠ g := by
 obtain ⟨A0, c0, A1, c1, hb, hg, hr0, hr1⟩ := h
 exact Kd.freshB hb
theorem IsS41.below {w0 W : World} {g : Nat} {f0 : List (S49)} {f1 : List (S127)} {W1 : World} (h : IsS41 w0 W g f0 f1) (hw : Below W.heap.size W W1) : IsS41 w0 W1 g f0 f1 := h.grown (grown_of_below hw none) (by simp)
theorem IsS41.alloc {w0 W : World} {g : Nat} {f0 : List (S49)} {f1 : List (S127)} (h : IsS41 w0 W g f0 f1) (o : Obj) : IsS41 w0 (W.alloc o) g f0 f1 := h.below (below_alloc (Below.refl _ _) o)
theorem IsS41.drewN {w0 W : World} {g : Nat} {f0 : List (S49)} {f1 : List (S127)} (h : IsS41 w0 W g f0 f1) (m : Nat) : IsS41 w0 (W.drewN m) g f0 f1 := h
theorem IsS41.drew {w0 W : World} {g : Nat} {f0 : List (S49)} {f1 : List (S127)} (h : IsS41 w0 W g f0 f1) : IsS41 w0 W.drew g f0 f1 := h
theorem IsS41.apart {w0 W : World} {g : Nat} {f0 : List (S49)} {f1 : List (S127)} {α : Type} {d : Kd α} {e : Nat} {base : Nat} {ok : Nat → Prop} {v : Value} {xs : List α} (h : IsS41 w0 W g f0 f1) (ho : d.R e W base ok v xs) (ht : ∀ q, q ∈ e :: d.E → q ≠ 41) : d.R e W base (fun k => ok k ∧ k ≠ g) v xs := by
 obtain ⟨A0, c0, A1, c1, hb, hg, hr0, hr1⟩ := h
 exact Kd.R_types ho hb ht
theorem IsS41.own_ne {w0 W : World} {g : Nat} {f0 : List (S49)} {f1 : List (S127)} {α : Type} {d : Kd α} {e : Nat} {base : Nat} {ok : Nat → Prop} {v : Value} {xs : List α} (h : IsS41 w0 W g f0 f1) (ho : d.R e W base ok v xs) (ht : e ≠ 41) : some g ≠ v.ownBlock := by
 obtain ⟨A0, c0, A1, c1, hb, hg, hr0, hr1⟩ := h
 exact Kd.R_ne ho hb ht
theorem IsS41.lt {w0 W : World} {g : Nat} {f0 : List (S49)} {f1 : List (S127)} (h : IsS41 w0 W g f0 f1) : g < W.heap.size := by
 obtain ⟨A0, c0, A1, c1, hb, hg, hr0, hr1⟩ := h
 exact blk_lt hb
theorem IsS41.ge {w0 W : World} {g : Nat} {f0 : List (S49)} {f1 : List (S127)} (h : IsS41 w0 W g f0 f1) : w0.heap.size ≤ g := by
 obtain ⟨A0, c0, A1, c1, hb, hg, hr0, hr1⟩ := h
 exact hg
theorem IsS41.far {w0 W : World} {g : Nat} {f0 : List (S49)} {f1 : List (S127)} {p : Addr} (h : IsS41 w0 W g f0 f1) (hne : g ≠ p.block) (u : Value) : IsS41 w0 (W.setCell p u) g f0 f1 := by
 obtain ⟨A0, c0, A1, c1, hb, hg, hr0, hr1⟩ := h
 exact ⟨A0, c0, A1, c1, blk_far hb hne u, hg, hr0, hr1⟩
/-! ### bytealg_Cutover: function 58 -/
-- NOT PRINTED: function 49 (stringslite_Index)

-- NOT PRINTED: function 62 (strings_Index)

-- NOT PRINTED: function 85 (bytealg_CountString)

-- NOT PRINTED: function 61 (strings_Count)

-- NOT PRINTED: function 50 (strings_genSplit)

def decS (i : Nat) : ByteArray := if i < 10 then ⟨#[(48 + i).toUInt8]⟩ else ⟨#[(48 + i / 10).toUInt8, (48 + i % 10).toUInt8]⟩
set_option maxHeartbeats 4000000 in
set_option maxRecDepth 100000 in
theorem small_any (i : Nat) (h : i < 25) (w : World) : Calls Tryz.prog 75 #[.int .i64 (i : Int)] w fun e w' => e = .returned (.string (decS i)) ∧ w' = w := by
 have : i = 0 ∨ i = 1 ∨ i = 2 ∨ i = 3 ∨ i = 4 ∨ i = 5 ∨ i = 6 ∨ i = 7 ∨ i = 8 ∨ i = 9 ∨ i = 10 ∨ i = 11 ∨ i = 12 ∨ i = 13 ∨ i = 14 ∨ i = 15 ∨ i = 16 ∨ i = 17 ∨ i = 18 ∨ i = 19 ∨ i = 20 ∨ i = 21 ∨ i = 22 ∨ i = 23 ∨ i = 24 := by omega
 rcases this with rfl | rfl | rfl | rfl | rfl | rfl | rfl | rfl | rfl | rfl | rfl | rfl | rfl | rfl | rfl | rfl | rfl | rfl | rfl | rfl | rfl | rfl | rfl | rfl | rfl
 all_goals
  go_enter Tryz.func75, Tryz.ntmps75
  go_wp2
  go_ret
  exact ⟨rfl, rfl⟩
set_option maxHeartbeats 1000000 in
set_option maxRecDepth 100000 in
theorem formatInt_any (i : Nat) (h : i < 25) (w : World) : Calls Tryz.prog 52 #[.int .i64 (i : Int), .int .i64 10] w fun e w' => e = .returned (.string (decS i)) ∧ w' = w := by
 go_enter Tryz.func52, Tryz.ntmps52
 go_wp2_with (go_at_call 75; refine (small_any i h _).mono ?_; rintro e w' ⟨rfl, rfl⟩)
 go_ret
 exact ⟨rfl, rfl⟩
set_option maxRecDepth 100000 in
theorem itoaIn_any (i : Nat) (h : i < 25) (w : World) : Calls Tryz.prog 35 #[.int .i64 (i : Int)] w fun e w' => e = .returned (.string (decS i)) ∧ w' = w := by
 go_enter Tryz.func35, Tryz.ntmps35
 go_wp2_with (go_at_call 52; refine (formatInt_any i h _).mono ?_; rintro e w' ⟨rfl, rfl⟩)
 go_ret
 exact ⟨rfl, rfl⟩
def strconv_Itoa_19.f (a0 : Int) : Option ByteArray := if 0 ≤ a0 then (if a0 < 25 then some (decS a0.toNat) else none) else none
set_option maxRecDepth 100000 in
theorem strconv_Itoa_19.calls (a0 : Int) (r : ByteArray) (w : World) (h : strconv_Itoa_19.f a0 = some r) : Calls Tryz.prog 19 #[.int .i64 a0] w fun e w' => e = .returned (.string r) ∧ Drawn0 w w' := by
 unfold strconv_Itoa_19.f at h
 by_cases h0 : 0 ≤ a0
 ·by_cases h1 : a0 < 25
  ·rw [if_pos h0, if_pos h1] at h
   have e1 := Option.some.inj h
   subst e1
   obtain ⟨i, rfl⟩ := Int.eq_ofNat_of_zero_le h0
   clear h
   rw [Int.toNat_natCast]
   go_enter Tryz.func19, Tryz.ntmps19
   go_wp2_with (go_at_call 35; refine (itoaIn_any i (by omega) _).mono ?_; rintro e w' ⟨rfl, rfl⟩)
   go_ret
   exact ⟨rfl, ⟨0, rfl⟩⟩
  ·rw [if_pos h0, if_neg h1] at h
   exact absurd h (by simp)
 ·rw [if_neg h0] at h
  exact absurd h (by simp)
theorem itoaD (n : Nat) (d : ByteArray) (hn : n < 25) (hd : d = decS n) (w : World) : Calls Tryz.prog 19 #[.int .i64 (n : Int)] w fun e w' => e = .returned (.string d) ∧ ∃ nd, w' = w.drewN nd := by
 refine (strconv_Itoa_19.calls (n : Int) d w ?_).mono ?_
 ·unfold strconv_Itoa_19.f
  rw [if_pos (by omega), if_pos (by omega), Int.toNat_natCast, hd]
 ·rintro e w' ⟨rfl, nd, rfl⟩
  exact ⟨rfl, nd, rfl⟩


def letStr (r : Nat) : ByteArray := if r = 0 then ⟨#[71]⟩ else if r = 1 then ⟨#[65]⟩ else if r = 2 then ⟨#[66]⟩ else if r = 3 then ⟨#[67]⟩ else if r = 4 then ⟨#[68]⟩ else if r = 5 then ⟨#[69]⟩ else ⟨#[70]⟩
def impl_Tone_letter.f (a0 : Int) (b0 : Bool) : Option ByteArray := if 0 ≤ a0 then some (letStr (a0 % 7).toNat) else none
set_option maxHeartbeats 1000000 in
set_option maxRecDepth 100000 in
theorem impl_Tone_letter.calls (a0 : Int) (b0 : Bool) (r : ByteArray) (w : World) (hTL : TabL w) (h : impl_Tone_letter.f a0 b0 = some r) :
  Calls Tryz.prog 37 #[.agg #[.int .i64 a0, .bool b0]] w fun e w' => e = .returned (.string r) ∧ Below w.heap.size w w' := by
 have hu2 := Tryz.underlying49
 have hT := hTL.alloc (.cells #[.int .i64 a0, .bool b0] 49)
 have HB0 := am (below_alloc (Below.refl w.heap.size w) (.cells #[.int .i64 a0, .bool b0] 49))
 unfold impl_Tone_letter.f at h
 by_cases h0 : 0 ≤ a0
 ·rw [if_pos h0] at h
  have e1 := Option.some.inj h
  subst e1
  have hx : a0 % 7 = 0 ∨ a0 % 7 = 1 ∨ a0 % 7 = 2 ∨ a0 % 7 = 3 ∨ a0 % 7 = 4 ∨ a0 % 7 = 5 ∨ a0 % 7 = 6 := by omega
  have c0 : (w.alloc (.cells #[.int .i64 a0, .bool b0] 49)).cell? ⟨0, 0, none⟩ = some (.string ⟨#[71]⟩) := hT 0 _ rfl
  have c1 : (w.alloc (.cells #[.int .i64 a0, .bool b0] 49)).cell? ⟨0, 1, none⟩ = some (.string ⟨#[65]⟩) := hT 1 _ rfl
  have c2 : (w.alloc (.cells #[.int .i64 a0, .bool b0] 49)).cell? ⟨0, 2, none⟩ = some (.string ⟨#[66]⟩) := hT 2 _ rfl
  have c3 : (w.alloc (.cells #[.int .i64 a0, .bool b0] 49)).cell? ⟨0, 3, none⟩ = some (.string ⟨#[67]⟩) := hT 3 _ rfl
  have c4 : (w.alloc (.cells #[.int .i64 a0, .bool b0] 49)).cell? ⟨0, 4, none⟩ = some (.string ⟨#[68]⟩) := hT 4 _ rfl
  have c5 : (w.alloc (.cells #[.int .i64 a0, .bool b0] 49)).cell? ⟨0, 5, none⟩ = some (.string ⟨#[69]⟩) := hT 5 _ rfl
  have c6 : (w.alloc (.cells #[.int .i64 a0, .bool b0] 49)).cell? ⟨0, 6, none⟩ = some (.string ⟨#[70]⟩) := hT 6 _ rfl
  clear hT hTL h
  have k0 : (w.alloc (.cells #[.int .i64 a0, .bool b0] 49)).cell? ⟨w.heap.size, 0, none⟩ = some (.int .i64 a0) := blk_cell (blk_new w _) 0
  have htm : a0.tmod 7 = a0 % 7 := Int.tmod_eq_emod_of_nonneg h0
  rcases hx with hx | hx | hx | hx | hx | hx | hx
  all_goals
   rw [hx]
   go_enter Tryz.func37, Tryz.ntmps37
   rw [hx] at htm
   go_wp2
   go_ret
   exact ⟨rfl, HB0.out⟩
 ·rw [if_neg h0] at h
  exact absurd h (by simp)


/-! ### impl_Tone_text: function 22 -/
def impl_Tone_text.f (a0_0 : Int) (a0_1 : Bool) : Option (ByteArray) := (impl_Tone_letter.f a0_0 a0_1).bind fun t102 => (if a0_1 = true then ((strconv_Itoa_19.f (wrap64 (Int.tdiv a0_0 7))).bind fun t103 => (if 1 + t103.size ≤ 9223372036854775807 then (some ((⟨#[98]⟩ : ByteArray) ++ t103)) else (none))) else ((strconv_Itoa_19.f (wrap64 (Int.tdiv a0_0 7))).bind fun t104 => (if t102.size + t104.size ≤ 9223372036854775807 then (some (t102 ++ t104)) else (none))))
set_option maxHeartbeats 8000000 in
set_option maxRecDepth 100000 in
theorem impl_Tone_text.calls (a0_0 : Int) (a0_1 : Bool) (r : ByteArray) (w : World) (hTL : TabL w) (h : impl_Tone_text.f a0_0 a0_1 = some r) :
  Calls Tryz.prog 22 #[.agg #[.int .i64 a0_0, .bool a0_1]] w fun e w' => e = .returned (.string r) ∧ Below w.heap.size w w' := by
 have hu49 := Tryz.underlying49
 have HTL := am hTL
 clear hTL
 have HB := am (Below.refl w.heap.size w)
 have H : ((impl_Tone_letter.f a0_0 a0_1).bind fun t102 => (if a0_1 = true then ((strconv_Itoa_19.f (wrap64 (Int.tdiv a0_0 7))).bind fun t103 => (if 1 + t103.size ≤ 9223372036854775807 then (some ((⟨#[98]⟩ : ByteArray) ++ t103)) else (none))) else ((strconv_Itoa_19.f (wrap64 (Int.tdiv a0_0 7))).bind fun t104 => (if t102.size + t104.size ≤ 9223372036854775807 then (some (t102 ++ t104)) else (none))))) = some r := h
 clear h
 replace H := Option.bind_eq_some_iff.mp H
 obtain ⟨t102, A20, H⟩ := H
 replace H : (if a0_1 = true then ((strconv_Itoa_19.f (wrap64 (Int.tdiv a0_0 7))).bind fun t103 => (if 1 + t103.size ≤ 9223372036854775807 then (some ((⟨#[98]⟩ : ByteArray) ++ t103)) else (none))) else ((strconv_Itoa_19.f (wrap64 (Int.tdiv a0_0 7))).bind fun t104 => (if t102.size + t104.size ≤ 9223372036854775807 then (some (t102 ++ t104)) else (none)))) = some r := H
 have A2 := am A20
 clear A20
 by_cases c3 : a0_1 = true
 ·subst c3
  have H1 : ((strconv_Itoa_19.f (wrap64 (Int.tdiv a0_0 7))).bind fun t103 => (if 1 + t103.size ≤ 9223372036854775807 then (some ((⟨#[98]⟩ : ByteArray) ++ t103)) else (none))) = some r := by rw [if_pos rfl] at H; exact H
  clear H
  have H := H1
  clear H1
  replace H := Option.bind_eq_some_iff.mp H
  obtain ⟨t103, A40, H⟩ := H
  replace H : (if 1 + t103.size ≤ 9223372036854775807 then (some ((⟨#[98]⟩ : ByteArray) ++ t103)) else (none)) = some r := H
  have A4 := am A40
  clear A40
  by_cases c5 : 1 + t103.size ≤ 9223372036854775807
  ·rw [if_pos c5] at H
   have c5b0 := eq_true c5
   have c5b1 : decide (1 + t103.size ≤ 9223372036854775807) = true := decide_eq_true c5
   try have c5b2 : (9223372036854775807 < 1 + t103.size) = False := eq_false (Nat.not_lt.2 c5)
   obtain rfl := Option.some.inj H
   go_enter Tryz.func22, Tryz.ntmps22
   go_wp2_with (first | ((with_reducible refine gate_dst (N := 1) rfl ?_); refine box_event ?hg (N := 1) ?hd (cs := #[.int .i64 a0_0, .bool true]) (t := 49) ?hr ?_; (case hd => rfl); (case hg => rfl); (case hr => first | (go_simp; done) | (go_simp; rfl)); intro gb101 hg w6 hbox hb; have n0_ := am (below_step (bu HB.out) hb); have n1_ := am (hbox); have n2_ := am ((by rw [hg]; exact (below_size (bu HB.out)) : w.heap.size ≤ gb101)); have n3_ := am ((by rw [hg]; exact (below_size (bu HB.out)) : w.heap.size ≤ gb101)); clear HB; have HB := n0_; have BK101 := n1_; have GW101 := n2_; have GE101 := n3_; clear n0_ n1_ n2_ n3_; clear hb hbox hg; have hcz7_0 : w6.cell? ⟨gb101, 0, none⟩ = some (.int .i64 a0_0) := (blk_cell BK101.out 0).trans rfl; have hcz7_1 : w6.cell? ⟨gb101, 1, none⟩ = some (.bool true) := (blk_cell BK101.out 1).trans rfl; have hfz7_0 := blk_frozen BK101.out 0; have hfz7_1 := blk_frozen BK101.out 1) | ((with_reducible refine gate_callee (f := 37) rfl ?_); refine goesL_ (some 5) rfl rfl Tryz.func37 (by kernel_rfl) rfl #[.agg #[.int .i64 a0_0, .bool true]] rfl (by (try simp only [List.map_toArray, List.map_cons, List.map_nil]); first | done | rfl | (simp only [List.length_drop, List.length_take]; rfl)) ?_; (with_reducible refine (impl_Tone_letter.calls a0_0 true t102 _ ?side1 A2.out).mono ?_); (case side1 => first | exact HTL.out | exact TabAt.below HTL.out (bu HB.out)); rintro e w8 ⟨rfl, hb⟩; refine ⟨_, rfl, ?_⟩; have n0_ := am (blk_below (g := gb101) (o := .cells #[.int .i64 a0_0, .bool true] 49 (0, 0)) (gu BK101.out) hb); have n1_ := am (below_step (bu HB.out) hb); clear BK101; clear HB; have BK101 := n0_; have HB := n1_; clear n0_ n1_; (try clear hb); (try clear hb2); (try clear hk); (try clear hi); have hcz9_0 : w8.cell? ⟨gb101, 0, none⟩ = some (.int .i64 a0_0) := (blk_cell BK101.out 0).trans rfl; have hcz9_1 : w8.cell? ⟨gb101, 1, none⟩ = some (.bool true) := (blk_cell BK101.out 1).trans rfl; have hfz9_0 := blk_frozen BK101.out 0; have hfz9_1 := blk_frozen BK101.out 1) | ((with_reducible refine gate_callee (f := 19) rfl ?_); refine goesL_ (some 12) rfl rfl Tryz.func19 (by kernel_rfl) rfl #[.int .i64 (wrap64 (Int.tdiv a0_0 7))] rfl (by (try simp only [List.map_toArray, List.map_cons, List.map_nil]); first | done | rfl | (simp only [List.length_drop, List.length_take]; rfl)) ?_; (with_reducible refine (strconv_Itoa_19.calls (wrap64 (Int.tdiv a0_0 7)) t103 _ A4.out).mono ?_); rintro e w' ⟨rfl, ⟨nd, rfl⟩⟩; refine ⟨_, rfl, ?_⟩))
   go_ret
   exact ⟨by first | rfl | (simp [errW_none, errW_some] <;> rfl) | (simp [*, errW_none, errW_some] <;> rfl), bu HB.out⟩
  ·rw [if_neg c5] at H
   exact absurd H (by simp)
 ·replace c3 := Bool.eq_false_iff.mpr c3
  subst c3
  have H1 : ((strconv_Itoa_19.f (wrap64 (Int.tdiv a0_0 7))).bind fun t104 => (if t102.size + t104.size ≤ 9223372036854775807 then (some (t102 ++ t104)) else (none))) = some r := by rw [if_neg (show ¬ (false = true) by decide)] at H; exact H
  clear H
  have H := H1
  clear H1
  replace H := Option.bind_eq_some_iff.mp H
  obtain ⟨t104, A100, H⟩ := H
  replace H : (if t102.size + t104.size ≤ 9223372036854775807 then (some (t102 ++ t104)) else (none)) = some r := H
  have A10 := am A100
  clear A100
  by_cases c11 : t102.size + t104.size ≤ 9223372036854775807
  ·rw [if_pos c11] at H
   have c11b0 := eq_true c11
   have c11b1 : decide (t102.size + t104.size ≤ 9223372036854775807) = true := decide_eq_true c11
   try have c11b2 : (9223372036854775807 < t102.size + t104.size) = False := eq_false (Nat.not_lt.2 c11)
   obtain rfl := Option.some.inj H
   go_enter Tryz.func22, Tryz.ntmps22
   go_wp2_with (first | ((with_reducible refine gate_dst (N := 1) rfl ?_); refine box_event ?hg (N := 1) ?hd (cs := #[.int .i64 a0_0, .bool false]) (t := 49) ?hr ?_; (case hd => rfl); (case hg => rfl); (case hr => first | (go_simp; done) | (go_simp; rfl)); intro gb101 hg w12 hbox hb; have n0_ := am (below_step (bu HB.out) hb); have n1_ := am (hbox); have n2_ := am ((by rw [hg]; exact (below_size (bu HB.out)) : w.heap.size ≤ gb101)); have n3_ := am ((by rw [hg]; exact (below_size (bu HB.out)) : w.heap.size ≤ gb101)); clear HB; have HB := n0_; have BK101 := n1_; have GW101 := n2_; have GE101 := n3_; clear n0_ n1_ n2_ n3_; clear hb hbox hg; have hcz13_0 : w12.cell? ⟨gb101, 0, none⟩ = some (.int .i64 a0_0) := (blk_cell BK101.out 0).trans rfl; have hcz13_1 : w12.cell? ⟨gb101, 1, none⟩ = some (.bool false) := (blk_cell BK101.out 1).trans rfl; have hfz13_0 := blk_frozen BK101.out 0; have hfz13_1 := blk_frozen BK101.out 1) | ((with_reducible refine gate_callee (f := 37) rfl ?_); refine goesL_ (some 5) rfl rfl Tryz.func37 (by kernel_rfl) rfl #[.agg #[.int .i64 a0_0, .bool false]] rfl (by (try simp only [List.map_toArray, List.map_cons, List.map_nil]); first | done | rfl | (simp only [List.length_drop, List.length_take]; rfl)) ?_; (with_reducible refine (impl_Tone_letter.calls a0_0 false t102 _ ?side1 A2.out).mono ?_); (case side1 => first | exact HTL.out | exact TabAt.below HTL.out (bu HB.out)); rintro e w14 ⟨rfl, hb⟩; refine ⟨_, rfl, ?_⟩; have n0_ := am (blk_below (g := gb101) (o := .cells #[.int .i64 a0_0, .bool false] 49 (0, 0)) (gu BK101.out) hb); have n1_ := am (below_step (bu HB.out) hb); clear BK101; clear HB; have BK101 := n0_; have HB := n1_; clear n0_ n1_; (try clear hb); (try clear hb2); (try clear hk); (try clear hi); have hcz15_0 : w14.cell? ⟨gb101, 0, none⟩ = some (.int .i64 a0_0) := (blk_cell BK101.out 0).trans rfl; have hcz15_1 : w14.cell? ⟨gb101, 1, none⟩ = some (.bool false) := (blk_cell BK101.out 1).trans rfl; have hfz15_0 := blk_frozen BK101.out 0; have hfz15_1 := blk_frozen BK101.out 1) | ((with_reducible refine gate_callee (f := 19) rfl ?_); refine goesL_ (some 12) rfl rfl Tryz.func19 (by kernel_rfl) rfl #[.int .i64 (wrap64 (Int.tdiv a0_0 7))] rfl (by (try simp only [List.map_toArray, List.map_cons, List.map_nil]); first | done | rfl | (simp only [List.length_drop, List.length_take]; rfl)) ?_; (with_reducible refine (strconv_Itoa_19.calls (wrap64 (Int.tdiv a0_0 7)) t104 _ A10.out).mono ?_); rintro e w' ⟨rfl, ⟨nd, rfl⟩⟩; refine ⟨_, rfl, ?_⟩))
   go_ret
   exact ⟨by first | rfl | (simp [errW_none, errW_some] <;> rfl) | (simp [*, errW_none, errW_some] <;> rfl), bu HB.out⟩
  ·rw [if_neg c11] at H
   exact absurd H (by simp)

/-! ### impl_Tone_valid: function 36 -/
def impl_Tone_valid.f (a0_0 : Int) (a0_1 : Bool) : Option (Bool) := if a0_0 ≥ 0 then (if a0_0 ≤ 20 then (if a0_1 = true then (some ((Int.tmod a0_0 7) == 2)) else (some true)) else (some false)) else (some false)
set_option maxHeartbeats 8000000 in
set_option maxRecDepth 100000 in
theorem impl_Tone_valid.calls (a0_0 : Int) (a0_1 : Bool) (r : Bool) (w : World) (h : impl_Tone_valid.f a0_0 a0_1 = some r) :
  Calls Tryz.prog 36 #[.agg #[.int .i64 a0_0, .bool a0_1]] w fun e w' => e = .returned (.bool r) ∧ Below w.heap.size w w' := by
 have hu49 := Tryz.underlying49
 have HB := am (Below.refl w.heap.size w)
 have H : (if a0_0 ≥ 0 then (if a0_0 ≤ 20 then (if a0_1 = true then (some ((Int.tmod a0_0 7) == 2)) else (some true)) else (some false)) else (some false)) = some r := h
 clear h
 by_cases c2 : a0_0 ≥ 0
 ·rw [if_pos c2] at H
  have c2b0 : decide (0 ≤ a0_0) = true := decide_eq_true c2
  clear c2
  by_cases c3 : a0_0 ≤ 20
  ·rw [if_pos c3] at H
   have c3b0 : decide (a0_0 ≤ 20) = true := decide_eq_true c3
   clear c3
   by_cases c4 : a0_1 = true
   ·subst c4
    have H1 : (some ((Int.tmod a0_0 7) == 2)) = some r := by rw [if_pos rfl] at H; exact H
    clear H
    have H := H1
    clear H1
    obtain rfl := Option.some.inj H
    go_enter Tryz.func36, Tryz.ntmps36
    go_wp2_with (first | ((with_reducible refine gate_dst (N := 1) rfl ?_); refine box_event ?hg (N := 1) ?hd (cs := #[.int .i64 a0_0, .bool true]) (t := 49) ?hr ?_; (case hd => rfl); (case hg => rfl); (case hr => first | (go_simp; done) | (go_simp; rfl)); intro gb105 hg w5 hbox hb; have n0_ := am (below_step (bu HB.out) hb); have n1_ := am (hbox); have n2_ := am ((by rw [hg]; exact (below_size (bu HB.out)) : w.heap.size ≤ gb105)); have n3_ := am ((by rw [hg]; exact (below_size (bu HB.out)) : w.heap.size ≤ gb105)); clear HB; have HB := n0_; have BK105 := n1_; have GW105 := n2_; have GE105 := n3_; clear n0_ n1_ n2_ n3_; clear hb hbox hg; have hcz6_0 : w5.cell? ⟨gb105, 0, none⟩ = some (.int .i64 a0_0) := (blk_cell BK105.out 0).trans rfl; have hcz6_1 : w5.cell? ⟨gb105, 1, none⟩ = some (.bool true) := (blk_cell BK105.out 1).trans rfl; have hfz6_0 := blk_frozen BK105.out 0; have hfz6_1 := blk_frozen BK105.out 1))
    go_ret
    exact ⟨by first | rfl | (simp [errW_none, errW_some] <;> rfl) | (simp [*, errW_none, errW_some] <;> rfl), bu HB.out⟩
   ·replace c4 := Bool.eq_false_iff.mpr c4
    subst c4
    have H1 : (some true) = some r := by rw [if_neg (show ¬ (false = true) by decide)] at H; exact H
    clear H
    have H := H1
    clear H1
    obtain rfl := Option.some.inj H
    go_enter Tryz.func36, Tryz.ntmps36
    go_wp2_with (first | ((with_reducible refine gate_dst (N := 1) rfl ?_); refine box_event ?hg (N := 1) ?hd (cs := #[.int .i64 a0_0, .bool false]) (t := 49) ?hr ?_; (case hd => rfl); (case hg => rfl); (case hr => first | (go_simp; done) | (go_simp; rfl)); intro gb105 hg w7 hbox hb; have n0_ := am (below_step (bu HB.out) hb); have n1_ := am (hbox); have n2_ := am ((by rw [hg]; exact (below_size (bu HB.out)) : w.heap.size ≤ gb105)); have n3_ := am ((by rw [hg]; exact (below_size (bu HB.out)) : w.heap.size ≤ gb105)); clear HB; have HB := n0_; have BK105 := n1_; have GW105 := n2_; have GE105 := n3_; clear n0_ n1_ n2_ n3_; clear hb hbox hg; have hcz8_0 : w7.cell? ⟨gb105, 0, none⟩ = some (.int .i64 a0_0) := (blk_cell BK105.out 0).trans rfl; have hcz8_1 : w7.cell? ⟨gb105, 1, none⟩ = some (.bool false) := (blk_cell BK105.out 1).trans rfl; have hfz8_0 := blk_frozen BK105.out 0; have hfz8_1 := blk_frozen BK105.out 1))
    go_ret
    exact ⟨by first | rfl | (simp [errW_none, errW_some] <;> rfl) | (simp [*, errW_none, errW_some] <;> rfl), bu HB.out⟩
  ·rw [if_neg c3] at H
   have c3b0 : decide (a0_0 ≤ 20) = false := decide_eq_false c3
   clear c3
   obtain rfl := Option.some.inj H
   go_enter Tryz.func36, Tryz.ntmps36
   go_wp2_with (first | ((with_reducible refine gate_dst (N := 1) rfl ?_); refine box_event ?hg (N := 1) ?hd (cs := #[.int .i64 a0_0, .bool a0_1]) (t := 49) ?hr ?_; (case hd => rfl); (case hg => rfl); (case hr => first | (go_simp; done) | (go_simp; rfl)); intro gb105 hg w9 hbox hb; have n0_ := am (below_step (bu HB.out) hb); have n1_ := am (hbox); have n2_ := am ((by rw [hg]; exact (below_size (bu HB.out)) : w.heap.size ≤ gb105)); have n3_ := am ((by rw [hg]; exact (below_size (bu HB.out)) : w.heap.size ≤ gb105)); clear HB; have HB := n0_; have BK105 := n1_; have GW105 := n2_; have GE105 := n3_; clear n0_ n1_ n2_ n3_; clear hb hbox hg; have hcz10_0 : w9.cell? ⟨gb105, 0, none⟩ = some (.int .i64 a0_0) := (blk_cell BK105.out 0).trans rfl; have hcz10_1 : w9.cell? ⟨gb105, 1, none⟩ = some (.bool a0_1) := (blk_cell BK105.out 1).trans rfl; have hfz10_0 := blk_frozen BK105.out 0; have hfz10_1 := blk_frozen BK105.out 1))
   go_ret
   exact ⟨by first | rfl | (simp [errW_none, errW_some] <;> rfl) | (simp [*, errW_none, errW_some] <;> rfl), bu HB.out⟩
 ·rw [if_neg c2] at H
  have c2b0 : decide (0 ≤ a0_0) = false := decide_eq_false c2
  clear c2
  obtain rfl := Option.some.inj H
  go_enter Tryz.func36, Tryz.ntmps36
  go_wp2_with (first | ((with_reducible refine gate_dst (N := 1) rfl ?_); refine box_event ?hg (N := 1) ?hd (cs := #[.int .i64 a0_0, .bool a0_1]) (t := 49) ?hr ?_; (case hd => rfl); (case hg => rfl); (case hr => first | (go_simp; done) | (go_simp; rfl)); intro gb105 hg w11 hbox hb; have n0_ := am (below_step (bu HB.out) hb); have n1_ := am (hbox); have n2_ := am ((by rw [hg]; exact (below_size (bu HB.out)) : w.heap.size ≤ gb105)); have n3_ := am ((by rw [hg]; exact (below_size (bu HB.out)) : w.heap.size ≤ gb105)); clear HB; have HB := n0_; have BK105 := n1_; have GW105 := n2_; have GE105 := n3_; clear n0_ n1_ n2_ n3_; clear hb hbox hg; have hcz12_0 : w11.cell? ⟨gb105, 0, none⟩ = some (.int .i64 a0_0) := (blk_cell BK105.out 0).trans rfl; have hcz12_1 : w11.cell? ⟨gb105, 1, none⟩ = some (.bool a0_1) := (blk_cell BK105.out 1).trans rfl; have hfz12_0 := blk_frozen BK105.out 0; have hfz12_1 := blk_frozen BK105.out 1))
  go_ret
  exact ⟨by first | rfl | (simp [errW_none, errW_some] <;> rfl) | (simp [*, errW_none, errW_some] <;> rfl), bu HB.out⟩

/-! ### ToneFrom, by hand -/
def tfOk (s : ByteArray) (m : Nat) (b : Bool) : Bool := (impl_Tone_valid.f (m : Int) b == some true) && (((impl_Tone_text.f (m : Int) b).getD ⟨#[]⟩).toList == s.toList)
def tfGo (s : ByteArray) : Nat → Nat → S49 × Bool
 | 0, _ => (⟨0, false⟩, false)
 | d + 1, m => if tfOk s m false = true then (⟨(m : Int), false⟩, true) else if tfOk s m true = true then (⟨(m : Int), true⟩, true) else tfGo s d (m + 1)
theorem tf_all : ∀ m, m < 21 → ∀ b : Bool, (impl_Tone_text.f ((m : Nat) : Int) b).isSome = true := by decide +kernel
theorem tf_some {m : Nat} (h : m < 21) (b : Bool) : impl_Tone_text.f (m : Int) b = some ((impl_Tone_text.f (m : Int) b).getD ⟨#[]⟩) := by
 obtain ⟨v, hv⟩ := Option.isSome_iff_exists.1 (tf_all m h b)
 rw [hv]; rfl
theorem tf_valid (m : Nat) (b : Bool) : ∃ v, impl_Tone_valid.f (m : Int) b = some v := by
 unfold impl_Tone_valid.f
 split
 ·split
  ·split
   ·exact ⟨_, rfl⟩
   ·exact ⟨_, rfl⟩
  ·exact ⟨_, rfl⟩
 ·exact ⟨_, rfl⟩
set_option maxHeartbeats 8000000 in
set_option maxRecDepth 100000 in
theorem toneFrom_any (s : ByteArray) (w : World) (hTL : TabL w) :
  Calls Tryz.prog 88 #[.string s] w fun e w' => e = .returned (.tuple #[.agg #[.int .i64 (tfGo s 21 0).1.f0, .bool (tfGo s 21 0).1.f1], .bool (tfGo s 21 0).2]) ∧ Below w.heap.size w w' := by
 have hu2 := Tryz.underlying49
 have hix0 : ∀ w : World, (Instr.index 135 (.agg #[.bool false, .bool true]) (.int .i64 0)).run Tryz.prog w = .ok (.bool false) w := fun w => by kernel_rfl
 have hix1 : ∀ w : World, (Instr.index 135 (.agg #[.bool false, .bool true]) (.int .i64 1)).run Tryz.prog w = .ok (.bool true) w := fun w => by kernel_rfl
 have HTL := am hTL
 have HG0 := am (blk_new w (.cells #[.int .i64 0, .bool false] 49))
 have HB0 := am (below_alloc (Below.refl w.heap.size w) (.cells #[.int .i64 0, .bool false] 49))
 obtain ⟨G, hG⟩ : ∃ G, G = tfGo s 21 0 := ⟨_, rfl⟩
 have HG := am hG
 rw [← hG]
 clear hTL hG
 go_enter Tryz.func88, Tryz.ntmps88
 go_wp2_with fail
 go_loopg [3, 8] 21 (fun kq v3 v8 w' => ∃ i : Nat, v8 = .int .i64 (i : Int) ∧ v3 = .bool false ∧ Aside0 (i ≤ 21 ∧ kq = 21 - i) ∧ Aside0 (G = tfGo s (21 - i) i) ∧ Aside0 (w'.heap[w.heap.size]? = some (.cells #[.int .i64 0, .bool false] 49 (0, 0))) ∧ Aside0 (Below w.heap.size w w'))
 case atStart => exact ⟨0, rfl, rfl, ⟨by omega, by omega⟩, HG, HG0, HB0⟩
 case round =>
  obtain ⟨i, rfl, rfl, HI, HGi, HGb, HB⟩ := hrel
  clear HG HG0 HB0
  by_cases hi : i < 21
  ·have p0 : ((i : Int) < 21) = True := eq_true (by omega)
   go_wp2_with fail
   go_loopg [3, 12] 2 (fun kq v3 v12 w' => ∃ j : Nat, v12 = .int .i64 (j : Int) ∧ v3 = .bool false ∧ Aside0 (j ≤ 2 ∧ kq = 2 - j) ∧ Aside0 (0 < j → tfOk s i false = false) ∧ Aside0 (1 < j → tfOk s i true = false) ∧ Aside0 (w'.heap[w.heap.size]? = some (.cells #[.int .i64 0, .bool false] 49 (0, 0))) ∧ Aside0 (Below w.heap.size w w'))
   case atStart => exact ⟨0, rfl, rfl, ⟨by omega, by omega⟩, ⟨fun h => by omega⟩, ⟨fun h => by omega⟩, HGb, HB⟩
   case round =>
    obtain ⟨j, rfl, rfl, HJ, HF, HF2, HGc, HBi⟩ := hrel
    by_cases hj : j < 2
    ·obtain ⟨soft, hs⟩ : ∃ soft, soft = decide (j = 1) := ⟨_, rfl⟩
     have HS := am hs
     clear hs
     go_upto_region 6 with fail
     go_cut [6] (fun v6 wc => v6 = .bool soft ∧ wc = wr)
     case first =>
      have hj2 : j = 0 ∨ j = 1 := by omega
      rcases hj2 with rfl | rfl
      all_goals
       go_wp2
       go_meet
       exact ⟨by rw [HS.out]; rfl, rfl⟩
     case rest =>
      obtain ⟨rfl, hwc⟩ := hcut
      subst hwc
      obtain ⟨vv, hvv⟩ := tf_valid i soft
      have HV := am hvv
      have HT := am (tf_some hi soft)
      obtain ⟨tx, htx⟩ : ∃ tx, tx = (impl_Tone_text.f (i : Int) soft).getD ⟨#[]⟩ := ⟨_, rfl⟩
      have HOK := am (show tfOk s i soft = ((vv == true) && (tx.toList == s.toList)) by unfold tfOk; rw [hvv, ← htx]; cases vv <;> rfl)
      rw [← htx] at HT
      clear hvv htx
      go_wp2_with fail
      refine (impl_Tone_valid.calls (i : Int) soft vv _ HV.out).mono ?_
      rintro e w5 ⟨rfl, hb⟩
      have HZ5 := am (blk_below (blk_new wc (.cells #[.int .i64 (i : Int), .bool soft] 49)) hb)
      have HB5 := am (below_step (below_alloc HBi.out _) hb)
      have HG5 := am (blk_below (blk_alloc HGc.out _) hb)
      have k0 : w5.cell? ⟨wc.heap.size, 0, none⟩ = some (.int .i64 (i : Int)) := blk_cell HZ5.out 0
      have k1 : w5.cell? ⟨wc.heap.size, 1, none⟩ = some (.bool soft) := blk_cell HZ5.out 1
      clear hb HGc HBi
      cases vv with
      | false =>
       have HNO := am (show tfOk s i soft = false by rw [HOK.out]; rfl)
       go_wp2_with fail
       go_roundg (2 - (j + 1))
       case measure => have := HJ.out; omega
       case rel =>
        refine ⟨j + 1, by simp, rfl, ⟨by omega, rfl⟩, ⟨fun _ => ?_⟩, ⟨fun _ => ?_⟩, HG5, HB5⟩
        ·by_cases hj0 : j = 0
         ·have e := HNO.out
          rw [HS.out, hj0] at e
          exact e
         ·exact HF.out (by omega)
        ·have e := HNO.out
         rw [HS.out, decide_eq_true (show j = 1 by omega)] at e
         exact e
      | true =>
       go_wp2_with fail
       refine (impl_Tone_text.calls (i : Int) soft tx _ (TabAt.below HTL.out HB5.out) HT.out).mono ?_
       rintro e w6 ⟨rfl, hb⟩
       have HZ6 := am (blk_below HZ5.out hb)
       have HB6 := am (below_step HB5.out hb)
       have HG6 := am (blk_below HG5.out hb)
       clear hb HZ5 HB5 HG5 k0 k1
       have k0 : w6.cell? ⟨wc.heap.size, 0, none⟩ = some (.int .i64 (i : Int)) := blk_cell HZ6.out 0
       have k1 : w6.cell? ⟨wc.heap.size, 1, none⟩ = some (.bool soft) := blk_cell HZ6.out 1
       by_cases heq : tx.toList = s.toList
       ·have b0 : (tx.toList == s.toList) = true := by rw [heq]; exact beq_self_eq_true _
        have HYES := am (show tfOk s i soft = true by rw [HOK.out, b0]; rfl)
        have q0 : w6.cell? ⟨w.heap.size, 0, none⟩ = some (.int .i64 0) := blk_cell HG6.out 0
        have q1 : w6.cell? ⟨w.heap.size, 1, none⟩ = some (.bool false) := blk_cell HG6.out 1
        have qf := fun i => blk_frozen HG6.out i
        have HEQ := am heq
        clear heq
        go_wp2_with fail
        have HGS := am (show G = (⟨(i : Int), soft⟩, true) by
         rw [HGi.out, show 21 - i = (21 - (i + 1)) + 1 by omega]
         simp only [tfGo]
         by_cases hj0 : j = 0
         ·have e : soft = false := by rw [HS.out]; exact decide_eq_false (by omega)
          have y := HYES.out
          rw [e] at y ⊢
          rw [if_pos y]
         ·have e : soft = true := by rw [HS.out]; exact decide_eq_true (by omega)
          have y := HYES.out
          rw [e] at y ⊢
          rw [if_neg (by rw [HF.out (by omega)]; decide), if_pos y])
        refine bodyPost_ret (results_ct rfl _ _ w.heap.size 49 #[.int .i64 (i : Int), .bool soft] (0, 0) _ rfl (blk_put (cs' := #[.int .i64 (i : Int), .bool soft]) (blk_put (cs' := #[.int .i64 (i : Int), .bool false]) HG6.out 0 (.int .i64 (i : Int)) rfl) 1 (.bool soft) rfl) Tryz.underlying49 rfl (by kernel_rfl)) rfl ?_
        exact ⟨by rw [HGS.out]; rfl, below_set (below_set HB6.out (Nat.le_refl _)) (Nat.le_refl _)⟩
       ·have b0 : (tx.toList == s.toList) = false := beq_eq_false_iff_ne.2 heq
        have HNO := am (show tfOk s i soft = false by rw [HOK.out, b0]; rfl)
        clear heq
        go_wp2_with fail
        go_roundg (2 - (j + 1))
        case measure => have := HJ.out; omega
        case rel =>
         refine ⟨j + 1, by simp, rfl, ⟨by omega, rfl⟩, ⟨fun _ => ?_⟩, ⟨fun _ => ?_⟩, HG6, HB6⟩
         ·by_cases hj0 : j = 0
          ·have e := HNO.out
           rw [HS.out, hj0] at e
           exact e
          ·exact HF.out (by omega)
         ·have e := HNO.out
          rw [HS.out, decide_eq_true (show j = 1 by omega)] at e
          exact e
    ·have ej : j = 2 := by have := HJ.out; omega
     subst ej
     have HN0 := am (HF.out (by omega))
     have HN1 := am (HF2.out (by omega))
     have HST := am (show G = tfGo s (21 - (i + 1)) (i + 1) by
      rw [HGi.out, show 21 - i = (21 - (i + 1)) + 1 by omega]
      simp only [tfGo]
      rw [HN0.out, HN1.out, if_neg (by decide), if_neg (by decide)])
     clear HF HF2
     go_wp2_with fail
     go_roundg (21 - (i + 1))
     case measure => have := HI.out; omega
     case rel => exact ⟨i + 1, by simp, rfl, ⟨by omega, rfl⟩, HST, HGc, HBi⟩
  ·have ei : i = 21 := by have := HI.out; omega
   subst ei
   have HGE := am (show G = (⟨0, false⟩, false) from HGi.out)
   have q0 : wr.cell? ⟨w.heap.size, 0, none⟩ = some (.int .i64 0) := blk_cell HGb.out 0
   have q1 : wr.cell? ⟨w.heap.size, 1, none⟩ = some (.bool false) := blk_cell HGb.out 1
   have qf := fun i => blk_frozen HGb.out i
   go_wp2_with fail
   refine bodyPost_ret (results_ct rfl _ _ w.heap.size 49 #[.int .i64 0, .bool false] (0, 0) _ rfl (blk_put (cs' := #[.int .i64 0, .bool false]) (blk_put (cs' := #[.int .i64 0, .bool false]) HGb.out 0 (.int .i64 0) rfl) 1 (.bool false) rfl) Tryz.underlying49 rfl (by kernel_rfl)) rfl ?_
   exact ⟨by rw [HGE.out]; rfl, below_set (below_set HB.out (Nat.le_refl _)) (Nat.le_refl _)⟩


/-! ### MelodyFrom, by hand (strings.Split by the shelf's contract) -/
theorem infoMF : (Tryz.prog.info? 49).map (fun i => (i.zero, i.size, i.bytes)) = some (some (.agg #[.int .i64 0, .bool false]), 2, 16) := by kernel_rfl
def splitW (s : ByteArray) : List ByteArray := Lib.splitB ⟨#[32]⟩ 0 (Lib.countB s ⟨#[32]⟩) s
def mfGo : List ByteArray → List S49 → Option (List S49)
 | [], acc => some acc
 | x :: xs, acc => if (tfGo x 21 0).2 = false then none else if acc.length = 24 then none else mfGo xs (acc ++ [(tfGo x 21 0).1])
def mfRes (s : ByteArray) : List S49 × Bool := if s.toList = [] then ([], true) else match mfGo (splitW s) [] with | some l => (l, true) | none => ([], false)
def impl_MelodyFrom.f (n : Nat) (s : ByteArray) : Option (List S49 × Bool) := if s.size < 4294967281 then some (mfRes s) else none
theorem impl_MelodyFrom.mono : ∀ a0 n, LeO (impl_MelodyFrom.f n a0) (impl_MelodyFrom.f (n + 1) a0) := fun _ _ => LeO.refl _
theorem mf_empty {α : Type} (d : Kd α) (e : Nat) {W : World} {g base : Nat} (ok : Nat → Prop) (hok : ok g) (h : W.heap[g]? = some (.cells #[] e (0, 0))) (hb : base ≤ g) : d.R e W base ok (.slice (some ⟨g, 0, none⟩) 0 0) ([] : List α) :=
 ⟨fun k hk => by
  simp [Value.ownBlock] at hk
  subst hk
  exact hok, [], ⟨by simp, .inr ⟨g, 0, #[], rfl, hb, h, Nat.le_refl _, by simp [maxLen], by simp, by simp⟩⟩, Reps.none _ _⟩
theorem splitW_len (s : ByteArray) : (splitW s).length = Lib.countB s ⟨#[32]⟩ + 1 := Lib.splitB_all ⟨#[32]⟩ (by decide) 0 _ s rfl
theorem splitW_le (s : ByteArray) : (splitW s).length ≤ s.size + 1 := by
 rw [splitW_len]
 have := Lib.countB_le ⟨#[32]⟩ (by decide) s.size s (Nat.le_refl _)
 omega
set_option maxHeartbeats 8000000 in
set_option maxRecDepth 100000 in
theorem impl_MelodyFrom.calls (n : Nat) (s : ByteArray) (r1 : List S49) (r2 : Bool) (w : World) (hTL : TabL w) (hTM : TabM w) (h : impl_MelodyFrom.f n s = some (r1, r2)) :
  Calls Tryz.prog 87 #[.string s] w fun e w' => ∃ v0_ : Value, e = .returned (.tuple #[v0_, .bool r2]) ∧ Kd.R k49 49 w' w.heap.size (fun _ => True) v0_ r1 ∧ Below w.heap.size w w' := by
 unfold impl_MelodyFrom.f at h
 by_cases hsz : s.size < 4294967281
 ·rw [if_pos hsz] at h
  replace h := Option.some.inj h
  have hu2 := Tryz.underlying49
  have HTL := am hTL
  have HTM := am hTM
  have HZ0 := am (blk_new w (.cells #[] 49))
  have HB0 := am (below_alloc (Below.refl w.heap.size w) (.cells #[] 49))
  have HSZ := am hsz
  clear hTL hTM hsz
  by_cases h0 : s.toList = []
  ·unfold mfRes at h
   rw [if_pos h0] at h
   obtain ⟨rfl, rfl⟩ : ([] : List S49) = r1 ∧ true = r2 := by simpa using h
   have b0 : (s.toList == ([] : List UInt8)) = true := by rw [h0]; rfl
   have H0 := am h0
   clear h h0
   go_enter Tryz.func87, Tryz.ntmps87
   go_wp2_with fail
   go_ret2
   exact ⟨_, rfl, mf_empty _ _ _ trivial HZ0.out (Nat.le_refl _), HB0.out⟩
  ·unfold mfRes at h
   rw [if_neg h0] at h
   have b0 : (s.toList == ([] : List UInt8)) = false := beq_eq_false_iff_ne.2 h0
   have HR := am h
   have H0 := am h0
   clear h h0
   go_enter Tryz.func87, Tryz.ntmps87
   go_wp2_with fail
   obtain ⟨mm, hmm⟩ := TabM.below HTM.out HB0.out
   refine (Tryz.strings_Split s ⟨#[32]⟩ mm _ HSZ.out hmm (by decide)).mono ?_
   rintro e w1 ⟨rfl, rfl⟩
   obtain ⟨ws, hws⟩ : ∃ ws, ws = splitW s := ⟨_, rfl⟩
   have hln := splitW_len s
   have hle := splitW_le s
   rw [← hws] at HR hln hle
   rw [show Lib.splitB ⟨#[32]⟩ 0 (Lib.countB s ⟨#[32]⟩) s = ws from hws.symm, ← hln]
   obtain ⟨nw, hnw⟩ : ∃ nw, nw = ws.length := ⟨_, rfl⟩
   rw [← hnw] at hle ⊢
   have HNW := am hnw
   have HLE := am (show nw ≤ 4294967281 by have := HSZ.out; omega)
   obtain ⟨gs, hgs⟩ : ∃ gs, gs = (w.alloc (.cells #[] 49)).heap.size := ⟨_, rfl⟩
   have HW1 := am (blk_new (w.alloc (.cells #[] 49)) (.cells (ws.map Value.string).toArray 9))
   have HZ1 := am (blk_alloc HZ0.out (.cells (ws.map Value.string).toArray 9))
   have HB1 := am (below_alloc HB0.out (.cells (ws.map Value.string).toArray 9))
   rw [← hgs] at HW1 ⊢
   generalize (w.alloc (.cells #[] 49)).alloc (.cells (ws.map Value.string).toArray 9) = W1 at HW1 HZ1 HB1 ⊢
   clear hws hln hle hnw hgs hmm HB0 HZ0
   go_wp2_with fail
   go_loopg [2, 3, 4, 16] nw (fun kq v2 v3 v4 v16 w' => ∃ (i : Nat) (acc : List S49), v16 = .int .i64 (i : Int) ∧ v2 = .slice none 0 0 ∧ v3 = .bool false ∧ Aside0 (i ≤ nw ∧ kq = nw - i) ∧ Aside0 (mfGo ws [] = mfGo (ws.drop i) acc) ∧ Aside0 (acc.length ≤ 24) ∧ Aside0 (w'.heap[gs]? = some (.cells (ws.map Value.string).toArray 9 (0, 0))) ∧ Aside0 (Kd.R k49 49 w' w.heap.size (fun _ => True) v4 acc) ∧ Aside0 (Below w.heap.size w w'))
   case atStart => exact ⟨0, [], rfl, rfl, rfl, ⟨by omega, by omega⟩, ⟨rfl⟩, ⟨by simp⟩, HW1, ⟨mf_empty _ _ _ trivial HZ1.out (Nat.le_refl _)⟩, HB1⟩
   case round =>
    obtain ⟨i, acc, rfl, rfl, rfl, HI, HM, HA, HW, HO, HB⟩ := hrel
    clear HW1 HZ1 HB1
    obtain ⟨A4, c4, e4⟩ := Kd.R_slice HO.out
    subst e4
    by_cases hi : i < nw
    ·have hin : i < ws.length := by rw [← HNW.out]; exact hi
     obtain ⟨x, hx⟩ : ∃ x, x = ws[i] := ⟨_, rfl⟩
     have HD := am (show ws.drop i = x :: ws.drop (i + 1) by rw [List.drop_eq_getElem_cons hin, hx])
     have k0 : wr.cell? ⟨gs, i, none⟩ = some (.string x) := by
      rw [cell_of_row wr gs i _ _ (0, 0) HW.out, hx]
      simp [hin]
     have p0 : 0 ≤ (i : Int) := by omega
     have p1 : (i : Int) < (nw : Int) := by omega
     replace p0 := eq_true p0
     replace p1 := eq_true p1
     obtain ⟨P, hP⟩ : ∃ P, P = tfGo x 21 0 := ⟨_, rfl⟩
     have hc := toneFrom_any x wr (TabAt.below HTL.out HB.out)
     rw [← hP] at hc
     obtain ⟨⟨t0, t1⟩, ok⟩ := P
     dsimp only at hc
     have HP := am hP
     have HSTEP := am (show mfGo ws [] = if ok = false then none else if acc.length = 24 then none else mfGo (ws.drop (i + 1)) (acc ++ [⟨t0, t1⟩]) by
      rw [HM.out, HD.out]
      simp only [mfGo]
      rw [← HP.out])
     have HC := am hc
     clear hx hP hc hin HM
     go_wp2_with fail
     refine HC.out.mono ?_
     rintro e w2 ⟨rfl, hb⟩
     have HW2 := am (blk_below HW.out hb)
     have HO2 := am (Kd.R_below HO.out hb)
     have HB2 := am (below_step HB.out hb)
     clear hb HW HO HB k0 HC
     cases ok with
     | false =>
      have e := HR.out
      rw [HSTEP.out, if_pos rfl] at e
      have E1 := am (show r1 = [] from (congrArg Prod.fst e).symm)
      have E2 := am (show r2 = false from (congrArg Prod.snd e).symm)
      clear e
      go_wp2_with fail
      go_ret2
      exact ⟨.slice none 0 0, by rw [E2.out]; rfl, by rw [E1.out]; exact Kd.R_nil _ _ _ _ _, below_alloc HB2.out _⟩
     | true =>
      by_cases h24 : acc.length = 24
      ·have b1 : ((acc.length : Int) == 24) = true := by rw [h24]; rfl
       have e := HR.out
       rw [HSTEP.out, if_neg (by decide), if_pos h24] at e
       have E1 := am (show r1 = [] from (congrArg Prod.fst e).symm)
       have E2 := am (show r2 = false from (congrArg Prod.snd e).symm)
       clear e h24
       go_wp2_with fail
       go_ret2
       exact ⟨.slice none 0 0, by rw [E2.out]; rfl, by rw [E1.out]; exact Kd.R_nil _ _ _ _ _, below_alloc HB2.out _⟩
      ·have b1 : ((acc.length : Int) == 24) = false := beq_eq_false_iff_ne.2 (by omega)
       have HS2 := am (show mfGo ws [] = mfGo (ws.drop (i + 1)) (acc ++ [⟨t0, t1⟩]) by rw [HSTEP.out, if_neg (by decide), if_neg h24])
       have HAL := am (show acc.length + 1 ≤ 24 by have := HA.out; omega)
       clear h24
       go_upto_region 10 with fail
       have HZ7 := am (blk_new w2 (.cells #[.int .i64 t0, .bool t1] 49))
       have HW3 := am (blk_alloc HW2.out (.cells #[.int .i64 t0, .bool t1] 49))
       have HO3 := am (Kd.R_alloc HO2.out (.cells #[.int .i64 t0, .bool t1] 49))
       have HB3 := am (below_alloc HB2.out (.cells #[.int .i64 t0, .bool t1] 49))
       generalize w2.alloc (.cells #[.int .i64 t0, .bool t1] 49) = W3 at HZ7 HW3 HO3 HB3 ⊢
       have k0 := blk_cell HZ7.out 0
       have k1 := blk_cell HZ7.out 1
       simp only [List.getElem?_toArray, List.getElem?_cons_zero, List.getElem?_cons_succ] at k0 k1
       clear HO2 HB2 HW2
       go_wp2_with (first | ((with_reducible refine gate_builtin (b := .append) (xs := #[.tmp 32, .tmp 34]) rfl ?_); at_builtin; refine Kd.R_append k49 (w0 := w) w.heap.size rfl (.tmp 32) (.tmp 34) 23 49 (.agg #[.int .i64 0, .bool false]) 16 rfl Tryz.underlying23 infoMF rfl (by decide) (by omega) (.slice A4 acc.length c4) acc (⟨t0, t1⟩ : S49) [.int .i64 t0, .bool t1] (fun _ => True) (fun _ => False) rfl rfl ?aP (fun _ hk => hk.elim) ?aF ?aO ?aB ?aS ?aL ?_; (case aP => exact k49_mkM _ _ _ (⟨t0, t1⟩ : S49)); (case aF => exact (fun _ _ => trivial)); (case aO => exact HO3.out); (case aB => exact HB3.out); (case aS => exact (below_size HB3.out)); (case aL => have := HAL.out; omega); intro v1 w6 ho hb hg hat; have HW6 := am (blk_grown HW3.out hg (Kd.R_ne HO3.out HW3.out (by decide))); have HO6 := am ho; have HB6 := am hb; clear ho hb hg hat))
       go_roundg (nw - (i + 1))
       case measure => have := HI.out; omega
       case rel => exact ⟨i + 1, acc ++ [⟨t0, t1⟩], (by have h1 := HLE.out; have h2 : wrap64 ((i : Int) + 1) = (i : Int) + 1 := (by unfold wrap64; omega); simp [h2]), rfl, rfl, ⟨by omega, rfl⟩, HS2, ⟨by rw [List.length_append]; exact HAL.out⟩, HW6, HO6, HB6⟩
    ·have ei : i = nw := by have := HI.out; omega
     subst ei
     have e := HR.out
     rw [HM.out, List.drop_eq_nil_of_le (by rw [← HNW.out]; exact Nat.le_refl _)] at e
     have E1 := am (show r1 = acc from (congrArg Prod.fst e).symm)
     have E2 := am (show r2 = true from (congrArg Prod.snd e).symm)
     clear e
     go_wp2_with fail
     go_ret2
     exact ⟨_, by rw [E2.out]; rfl, by rw [E1.out]; exact HO.out, HB.out⟩
 ·rw [if_neg hsz] at h
  exact absurd h (by simp)


/-! ### the table of modes -/
def mRows : List (Int × Int × Int × Int) := [(4, 8, 3, 12), (4, 6, 0, 9), (5, 10, 4, 13), (5, 8, 1, 10), (6, 10, 5, 14), (6, 8, 2, 11), (7, 11, 6, 15), (7, 10, 3, 12)]
def mCells : List Value := mRows.flatMap fun r => [.int .i64 r.1, .int .i64 r.2.1, .int .i64 r.2.2.1, .int .i64 r.2.2.2]
def TabD (w : World) : Prop := TabAt 1 mCells w
theorem TabD.below {w w1 : World} (h : TabD w) (hb : Below w.heap.size w w1) : TabD w1 := TabAt.below h hb
def mRow (a0 : Int) : Int × Int × Int × Int := mRows.getD (a0 - 1).toNat (0, 0, 0, 0)
def impl_modeAt.f (a0 : Int) : Option (Int × Int × Int × Int × Bool) := if 1 ≤ a0 ∧ a0 ≤ 8 then some ((mRow a0).1, (mRow a0).2.1, (mRow a0).2.2.1, (mRow a0).2.2.2, true) else some (0, 0, 0, 0, false)
theorem mRow_cells {g i : Nat} {w : World} (hi : i < 8) (h : TabAt g mCells w) : w.cell? ⟨g, i * 4, none⟩ = some (.int .i64 (mRow ((i : Int) + 1)).1) ∧ w.cell? ⟨g, i * 4 + 1, none⟩ = some (.int .i64 (mRow ((i : Int) + 1)).2.1) ∧ w.cell? ⟨g, i * 4 + 2, none⟩ = some (.int .i64 (mRow ((i : Int) + 1)).2.2.1) ∧ w.cell? ⟨g, i * 4 + 3, none⟩ = some (.int .i64 (mRow ((i : Int) + 1)).2.2.2) := by
 have hc : i = 0 ∨ i = 1 ∨ i = 2 ∨ i = 3 ∨ i = 4 ∨ i = 5 ∨ i = 6 ∨ i = 7 := by omega
 rcases hc with rfl | rfl | rfl | rfl | rfl | rfl | rfl | rfl <;> exact ⟨h _ _ rfl, h _ _ rfl, h _ _ rfl, h _ _ rfl⟩
set_option maxHeartbeats 4000000 in
set_option maxRecDepth 100000 in
theorem modeAt_yes (i : Nat) (hi : i < 8) (w : World) (hTD : TabD w) :
  Calls Tryz.prog 43 #[.int .i64 ((i : Int) + 1)] w fun e w' => e = .returned (.tuple #[.agg #[.int .i64 (mRow ((i : Int) + 1)).1, .int .i64 (mRow ((i : Int) + 1)).2.1, .int .i64 (mRow ((i : Int) + 1)).2.2.1, .int .i64 (mRow ((i : Int) + 1)).2.2.2], .bool true]) ∧ Below w.heap.size w w' := by
 have hu2 := Tryz.underlying78
 obtain ⟨r, hr⟩ : ∃ r, r = mRow ((i : Int) + 1) := ⟨_, rfl⟩
 rw [← hr]
 have HB := am (below_alloc (Below.refl w.heap.size w) (.cells #[.int .i64 0, .int .i64 0, .int .i64 0, .int .i64 0] 78))
 have HG := am (blk_new w (.cells #[.int .i64 0, .int .i64 0, .int .i64 0, .int .i64 0] 78))
 have HK := am (mRow_cells hi (TabAt.below hTD HB.out))
 rw [← hr] at HK
 have HI := am hi
 clear hTD hr
 have w1 : wrap64 (i : Int) = (i : Int) := by unfold wrap64; omega
 have e0 : ((i : Int) + 1 < 1) = False := eq_false (by omega)
 have e1 : (8 < (i : Int) + 1) = False := eq_false (by omega)
 have e2 : (8 ≤ (i : Int)) = False := eq_false (by omega)
 have p0 : (0 ≤ (i : Int)) = True := eq_true (by omega)
 have p1 : ((i : Int) < 8) = True := eq_true (by omega)
 have p2 : (i < 8) = True := eq_true hi
 clear hi
 go_enter Tryz.func43, Tryz.ntmps43
 go_upto_region 1 with fail
 obtain ⟨gz, hgz⟩ : ∃ gz, gz = w.heap.size := ⟨_, rfl⟩
 have HZ := am hgz
 rw [← hgz] at HG ⊢
 clear hgz
 generalize w.alloc (.cells #[.int .i64 0, .int .i64 0, .int .i64 0, .int .i64 0] 78) = W1 at HB HG HK ⊢
 obtain ⟨k0, k1, k2, k3⟩ := HK.out
 have q0 : W1.cell? ⟨gz, 0, none⟩ = some (.int .i64 0) := blk_cell HG.out 0
 have q1 : W1.cell? ⟨gz, 1, none⟩ = some (.int .i64 0) := blk_cell HG.out 1
 have q2 : W1.cell? ⟨gz, 2, none⟩ = some (.int .i64 0) := blk_cell HG.out 2
 have q3 : W1.cell? ⟨gz, 3, none⟩ = some (.int .i64 0) := blk_cell HG.out 3
 have qf := fun i => blk_frozen HG.out i
 go_wp2_with fail
 have hz : w.heap.size ≤ gz := by have := HZ.out; omega
 refine bodyPost_ret (results_ct rfl _ _ gz 78 #[.int .i64 r.1, .int .i64 r.2.1, .int .i64 r.2.2.1, .int .i64 r.2.2.2] (0, 0) _ rfl (blk_put (cs := #[.int .i64 r.1, .int .i64 r.2.1, .int .i64 r.2.2.1, .int .i64 0]) (blk_put (cs := #[.int .i64 r.1, .int .i64 r.2.1, .int .i64 0, .int .i64 0]) (blk_put (cs := #[.int .i64 r.1, .int .i64 0, .int .i64 0, .int .i64 0]) (blk_put HG.out 0 _ rfl) 1 _ rfl) 2 _ rfl) 3 _ rfl) Tryz.underlying78 rfl (by kernel_rfl)) rfl ?_
 exact ⟨rfl, below_set (below_set (below_set (below_set HB.out hz) hz) hz) hz⟩
set_option maxHeartbeats 4000000 in
set_option maxRecDepth 100000 in
theorem modeAt_no (a0 : Int) (h : ¬ (1 ≤ a0 ∧ a0 ≤ 8)) (w : World) :
  Calls Tryz.prog 43 #[.int .i64 a0] w fun e w' => e = .returned (.tuple #[.agg #[.int .i64 0, .int .i64 0, .int .i64 0, .int .i64 0], .bool false]) ∧ Below w.heap.size w w' := by
 have hu2 := Tryz.underlying78
 have HB := am (below_alloc (Below.refl w.heap.size w) (.cells #[.int .i64 0, .int .i64 0, .int .i64 0, .int .i64 0] 78))
 have HG := am (blk_new w (.cells #[.int .i64 0, .int .i64 0, .int .i64 0, .int .i64 0] 78))
 obtain ⟨gz, hgz⟩ : ∃ gz, gz = w.heap.size := ⟨_, rfl⟩
 have HZ := am hgz
 by_cases h1 : a0 < 1
 ·have e0 : (a0 < 1) = True := eq_true h1
  clear h h1
  go_enter Tryz.func43, Tryz.ntmps43
  go_upto_region 1 with fail
  rw [← hgz] at HG ⊢
  clear hgz
  generalize w.alloc (.cells #[.int .i64 0, .int .i64 0, .int .i64 0, .int .i64 0] 78) = W1 at HB HG ⊢
  have q0 : W1.cell? ⟨gz, 0, none⟩ = some (.int .i64 0) := blk_cell HG.out 0
  have q1 : W1.cell? ⟨gz, 1, none⟩ = some (.int .i64 0) := blk_cell HG.out 1
  have q2 : W1.cell? ⟨gz, 2, none⟩ = some (.int .i64 0) := blk_cell HG.out 2
  have q3 : W1.cell? ⟨gz, 3, none⟩ = some (.int .i64 0) := blk_cell HG.out 3
  have qf := fun i => blk_frozen HG.out i
  go_wp2_with fail
  have hz : w.heap.size ≤ gz := by have := HZ.out; omega
  refine bodyPost_ret (results_ct rfl _ _ gz 78 #[.int .i64 0, .int .i64 0, .int .i64 0, .int .i64 0] (0, 0) _ rfl (blk_put (blk_put (blk_put (blk_put HG.out 0 _ rfl) 1 _ rfl) 2 _ rfl) 3 _ rfl) Tryz.underlying78 rfl (by kernel_rfl)) rfl ?_
  exact ⟨rfl, below_set (below_set (below_set (below_set HB.out hz) hz) hz) hz⟩
 ·have e0 : (a0 < 1) = False := eq_false h1
  have e1 : (8 < a0) = True := eq_true (by omega)
  clear h h1
  go_enter Tryz.func43, Tryz.ntmps43
  go_upto_region 1 with fail
  rw [← hgz] at HG ⊢
  clear hgz
  generalize w.alloc (.cells #[.int .i64 0, .int .i64 0, .int .i64 0, .int .i64 0] 78) = W1 at HB HG ⊢
  have q0 : W1.cell? ⟨gz, 0, none⟩ = some (.int .i64 0) := blk_cell HG.out 0
  have q1 : W1.cell? ⟨gz, 1, none⟩ = some (.int .i64 0) := blk_cell HG.out 1
  have q2 : W1.cell? ⟨gz, 2, none⟩ = some (.int .i64 0) := blk_cell HG.out 2
  have q3 : W1.cell? ⟨gz, 3, none⟩ = some (.int .i64 0) := blk_cell HG.out 3
  have qf := fun i => blk_frozen HG.out i
  go_wp2_with fail
  have hz : w.heap.size ≤ gz := by have := HZ.out; omega
  refine bodyPost_ret (results_ct rfl _ _ gz 78 #[.int .i64 0, .int .i64 0, .int .i64 0, .int .i64 0] (0, 0) _ rfl (blk_put (blk_put (blk_put (blk_put HG.out 0 _ rfl) 1 _ rfl) 2 _ rfl) 3 _ rfl) Tryz.underlying78 rfl (by kernel_rfl)) rfl ?_
  exact ⟨rfl, below_set (below_set (below_set (below_set HB.out hz) hz) hz) hz⟩
theorem impl_modeAt.calls (a0 : Int) (r1 r2 r3 r4 : Int) (r5 : Bool) (w : World) (hTD : TabD w) (h : impl_modeAt.f a0 = some (r1, r2, r3, r4, r5)) :
  Calls Tryz.prog 43 #[.int .i64 a0] w fun e w' => e = .returned (.tuple #[.agg #[.int .i64 r1, .int .i64 r2, .int .i64 r3, .int .i64 r4], .bool r5]) ∧ Below w.heap.size w w' := by
 unfold impl_modeAt.f at h
 by_cases hc : 1 ≤ a0 ∧ a0 ≤ 8
 ·rw [if_pos hc] at h
  obtain ⟨rfl, rfl, rfl, rfl, rfl⟩ : (mRow a0).1 = r1 ∧ (mRow a0).2.1 = r2 ∧ (mRow a0).2.2.1 = r3 ∧ (mRow a0).2.2.2 = r4 ∧ true = r5 := by simpa using h
  obtain ⟨i, rfl⟩ : ∃ i : Nat, a0 = (i : Int) + 1 := ⟨(a0 - 1).toNat, by omega⟩
  exact modeAt_yes i (by omega) w hTD
 ·rw [if_neg hc] at h
  obtain ⟨rfl, rfl, rfl, rfl, rfl⟩ : 0 = r1 ∧ 0 = r2 ∧ 0 = r3 ∧ 0 = r4 ∧ false = r5 := by simpa using h
  exact modeAt_no a0 hc w


/-! ### impl_MelodyValid: function 20 -/
def impl_MelodyValid.l0 : Nat → List (S49) → Int → Int → Option (Bool)
 | 0, _, _, _ => none
 | k + 1, x8, x9, x10 => if x10 < x9 then (if 0 ≤ x10 then (if x10 < (x8.length : Int) then ((impl_Tone_valid.f ((rd_T49 x8 x10).f0) ((rd_T49 x8 x10).f1)).bind fun t108 => (if t108 = true then (impl_MelodyValid.l0 k x8 x9 (wrap64 (x10 + 1))) else (some false))) else (none)) else (none)) else (some true)
def impl_MelodyValid.f (k : Nat) (l0 : List (S49)) : Option (Bool) := if (l0.length : Int) > 24 then (some false) else (impl_MelodyValid.l0 k l0 (l0.length : Int) 0)
theorem impl_MelodyValid.mono_l : ∀ k, (∀ y0 y1 y2, LeO (impl_MelodyValid.l0 k y0 y1 y2) (impl_MelodyValid.l0 (k + 1) y0 y1 y2))
 | 0 => fun _ _ _ r h => by simp [impl_MelodyValid.l0] at h
 | k + 1 => by
  have ih0 := impl_MelodyValid.mono_l k
  ·intro y0 y1 y2
   unfold impl_MelodyValid.l0
   repeat' first
   | (with_reducible exact ih0 _ _ _)
   | (with_reducible exact LeO.refl _)
   | (with_reducible exact LeO.none _)
   | (with_reducible refine LeO.ite ?_ ?_)
   | (with_reducible refine LeO.bind ?_ (fun _ => ?_))
   | exact ih0 _ _ _
   | exact LeO.none _
   | refine LeO.ite ?_ ?_
   | refine LeO.bind ?_ (fun _ => ?_)
theorem impl_MelodyValid.mono : ∀ a0 k, LeO (impl_MelodyValid.f k a0) (impl_MelodyValid.f (k + 1) a0) := by
 intro a0 k
 have ih0 := impl_MelodyValid.mono_l k
 unfold impl_MelodyValid.f
 repeat' first
   | (with_reducible exact ih0 _ _ _)
   | (with_reducible exact LeO.refl _)
   | (with_reducible exact LeO.none _)
   | (with_reducible refine LeO.ite ?_ ?_)
   | (with_reducible refine LeO.bind ?_ (fun _ => ?_))
   | exact ih0 _ _ _
   | exact LeO.none _
   | refine LeO.ite ?_ ?_
   | refine LeO.bind ?_ (fun _ => ?_)
set_option maxHeartbeats 8000000 in
set_option maxRecDepth 100000 in
theorem impl_MelodyValid.calls (k : Nat) (A0 : Option Addr) (c0 : Nat) (l0 : List (S49)) (r : Bool) (w : World) (hr0 : Kd.C k49 w A0 l0.length l0) (hc0 : l0.length ≤ c0) (h : impl_MelodyValid.f k l0 = some r) :
  Calls Tryz.prog 20 #[.slice A0 l0.length c0] w fun e w' => e = .returned (.bool r) ∧ Below w.heap.size w w' := by
 have hu49 := Tryz.underlying49
 have HR0 := am hr0
 have HC0 := am hc0
 clear hr0 hc0
 have HB := am (Below.refl w.heap.size w)
 have H : (if (l0.length : Int) > 24 then (some false) else (impl_MelodyValid.l0 k l0 (l0.length : Int) 0)) = some r := h
 clear h
 by_cases c2 : (l0.length : Int) > 24
 ·rw [if_pos c2] at H
  have c2b0 : decide (24 < (l0.length : Int)) = true := decide_eq_true c2
  have c2b1 : decide (24 < l0.length) = true := decide_eq_true (by omega)
  clear c2
  obtain rfl := Option.some.inj H
  go_enter Tryz.func20, Tryz.ntmps20
  go_wp2
  go_ret
  exact ⟨by first | rfl | (simp [errW_none, errW_some] <;> rfl) | (simp [*, errW_none, errW_some] <;> rfl), bu HB.out⟩
 ·rw [if_neg c2] at H
  have c2b0 : decide (24 < (l0.length : Int)) = false := decide_eq_false c2
  have c2b1 : decide (24 < l0.length) = false := decide_eq_false (by omega)
  clear c2
  have H' := am H
  clear H
  go_enter Tryz.func20, Tryz.ntmps20
  go_wp2
  go_loopg [10] k (fun kq v10 w' => ∃ (x10_1 : Int), v10 = .int .i64 x10_1 ∧ Aside0 (impl_MelodyValid.l0 kq l0 (l0.length : Int) x10_1 = some r) ∧ Aside0 (kq ≤ k) ∧ Aside0 (Below w.heap.size w w'))
  case atStart => exact ⟨(0), (by first | rfl | (simp; done) | (simp [*]; done)), H', ⟨Nat.le_refl _⟩, ⟨bu HB.out⟩⟩
  case round =>
   clear H'
   try clear c2
   try clear c2b0
   try clear c2b1
   try clear p2
   obtain ⟨x10_1, rfl, HA, HK1, HB⟩ := hrel
   cases gk with
   | zero => exact absurd HA.out (by simp [impl_MelodyValid.l0])
   | succ k1 =>
    have H := HA.out
    clear HA
    simp only [impl_MelodyValid.l0] at H
    by_cases c3 : x10_1 < (l0.length : Int)
    ·rw [if_pos c3] at H
     have c3b0 : decide (x10_1 < (l0.length : Int)) = true := decide_eq_true c3
     clear c3
     by_cases c4 : 0 ≤ x10_1
     ·rw [if_pos c4] at H
      have c4b0 : decide (0 ≤ x10_1) = true := decide_eq_true c4
      clear c4
      by_cases c5 : x10_1 < (l0.length : Int)
      ·rw [if_pos c5] at H
       have c5b0 : decide (x10_1 < (l0.length : Int)) = true := decide_eq_true c5
       clear c5
       replace H := Option.bind_eq_some_iff.mp H
       obtain ⟨t108, A60, H⟩ := H
       replace H : (if t108 = true then (impl_MelodyValid.l0 k1 l0 (l0.length : Int) (wrap64 (x10_1 + 1))) else (some false)) = some r := H
       have A6 := am A60
       clear A60
       by_cases c7 : t108 = true
       ·subst c7
        have H1 : (impl_MelodyValid.l0 k1 l0 (l0.length : Int) (wrap64 (x10_1 + 1))) = some r := by rw [if_pos rfl] at H; exact H
        clear H
        have H := H1
        clear H1
        have H' := am H
        clear H
        have p106 : 0 ≤ (x10_1 : Int) := od
        have q106 : x10_1 < (l0.length : Int) := od
        obtain ⟨ad106, e106, hx106_0, hx106_1⟩ := at_T49 HR0.out x10_1 p106 q106
        cases e106
        replace hx106_0 := (HB.out.cell (World.block_lt_of_cell? w _ hx106_0)).trans hx106_0
        replace hx106_1 := (HB.out.cell (World.block_lt_of_cell? w _ hx106_1)).trans hx106_1
        replace p106 := eq_true p106
        replace q106 := eq_true q106
        go_wp2_with (first | ((with_reducible refine gate_dst (N := 4) rfl ?_); refine box_event ?hg (N := 4) ?hd (cs := #[.int .i64 0, .bool false]) (t := 49) ?hr ?_; (case hd => rfl); (case hg => rfl); (case hr => first | (go_simp; done) | (go_simp; rfl)); intro gb107 hg w8 hbox hb; have n0_ := am (below_step (bu HB.out) hb); have n1_ := am (hbox); have n2_ := am ((by rw [hg]; exact (below_size (bu HB.out)) : w.heap.size ≤ gb107)); have n3_ := am ((by rw [hg]; exact (below_size (bu HB.out)) : w.heap.size ≤ gb107)); clear HB; have HB := n0_; have BK107 := n1_; have GW107 := n2_; have GE107 := n3_; clear n0_ n1_ n2_ n3_; clear hb hbox hg; have hcz9_0 : w8.cell? ⟨gb107, 0, none⟩ = some (.int .i64 0) := (blk_cell BK107.out 0).trans rfl; have hcz9_1 : w8.cell? ⟨gb107, 1, none⟩ = some (.bool false) := (blk_cell BK107.out 1).trans rfl; have hfz9_0 := blk_frozen BK107.out 0; have hfz9_1 := blk_frozen BK107.out 1) | ((with_reducible refine gate_callee (f := 36) rfl ?_); refine goesL_ (some 15) rfl rfl Tryz.func36 (by kernel_rfl) rfl #[.agg #[.int .i64 ((rd_T49 l0 x10_1).f0), .bool ((rd_T49 l0 x10_1).f1)]] rfl (by (try simp only [List.map_toArray, List.map_cons, List.map_nil]); first | done | rfl | (simp only [List.length_drop, List.length_take]; rfl)) ?_; (with_reducible refine (impl_Tone_valid.calls ((rd_T49 l0 x10_1).f0) ((rd_T49 l0 x10_1).f1) true _ A6.out).mono ?_); rintro e w10 ⟨rfl, hb⟩; refine ⟨_, rfl, ?_⟩; have n0_ := am (blk_below (g := gb107) (o := .cells #[.int .i64 ((rd_T49 l0 x10_1).f0), .bool ((rd_T49 l0 x10_1).f1)] 49 (0, 0)) (by (with_reducible repeat (first | refine blk_drewN ?_ _ | refine blk_drew ?_ | refine blk_alloc ?_ _)); refine blk_put (cs := #[.int .i64 ((rd_T49 l0 x10_1).f0), .bool false]) ?_ 1 _ rfl; (with_reducible repeat (first | refine blk_drewN ?_ _ | refine blk_drew ?_ | refine blk_alloc ?_ _)); refine blk_put (cs := #[.int .i64 0, .bool false]) ?_ 0 _ rfl; (with_reducible repeat (first | refine blk_drewN ?_ _ | refine blk_drew ?_ | refine blk_alloc ?_ _)); exact BK107.out) hb); have n1_ := am (below_step (bu HB.out) hb); clear BK107; clear HB; have BK107 := n0_; have HB := n1_; clear n0_ n1_; (try clear hb); (try clear hb2); (try clear hk); (try clear hi)))
        go_roundg k1
        case measure => have := HK1.out; omega
        case rel => exact ⟨(wrap64 (x10_1 + 1)), (by first | rfl | (simp; done) | (simp [*]; done)), H', ⟨by have := HK1.out; omega⟩, ⟨bu HB.out⟩⟩
       ·replace c7 := Bool.eq_false_iff.mpr c7
        subst c7
        have H1 : (some false) = some r := by rw [if_neg (show ¬ (false = true) by decide)] at H; exact H
        clear H
        have H := H1
        clear H1
        obtain rfl := Option.some.inj H
        have p106 : 0 ≤ (x10_1 : Int) := od
        have q106 : x10_1 < (l0.length : Int) := od
        obtain ⟨ad106, e106, hx106_0, hx106_1⟩ := at_T49 HR0.out x10_1 p106 q106
        cases e106
        replace hx106_0 := (HB.out.cell (World.block_lt_of_cell? w _ hx106_0)).trans hx106_0
        replace hx106_1 := (HB.out.cell (World.block_lt_of_cell? w _ hx106_1)).trans hx106_1
        replace p106 := eq_true p106
        replace q106 := eq_true q106
        go_wp2_with (first | ((with_reducible refine gate_dst (N := 4) rfl ?_); refine box_event ?hg (N := 4) ?hd (cs := #[.int .i64 0, .bool false]) (t := 49) ?hr ?_; (case hd => rfl); (case hg => rfl); (case hr => first | (go_simp; done) | (go_simp; rfl)); intro gb107 hg w11 hbox hb; have n0_ := am (below_step (bu HB.out) hb); have n1_ := am (hbox); have n2_ := am ((by rw [hg]; exact (below_size (bu HB.out)) : w.heap.size ≤ gb107)); have n3_ := am ((by rw [hg]; exact (below_size (bu HB.out)) : w.heap.size ≤ gb107)); clear HB; have HB := n0_; have BK107 := n1_; have GW107 := n2_; have GE107 := n3_; clear n0_ n1_ n2_ n3_; clear hb hbox hg; have hcz12_0 : w11.cell? ⟨gb107, 0, none⟩ = some (.int .i64 0) := (blk_cell BK107.out 0).trans rfl; have hcz12_1 : w11.cell? ⟨gb107, 1, none⟩ = some (.bool false) := (blk_cell BK107.out 1).trans rfl; have hfz12_0 := blk_frozen BK107.out 0; have hfz12_1 := blk_frozen BK107.out 1) | ((with_reducible refine gate_callee (f := 36) rfl ?_); refine goesL_ (some 15) rfl rfl Tryz.func36 (by kernel_rfl) rfl #[.agg #[.int .i64 ((rd_T49 l0 x10_1).f0), .bool ((rd_T49 l0 x10_1).f1)]] rfl (by (try simp only [List.map_toArray, List.map_cons, List.map_nil]); first | done | rfl | (simp only [List.length_drop, List.length_take]; rfl)) ?_; (with_reducible refine (impl_Tone_valid.calls ((rd_T49 l0 x10_1).f0) ((rd_T49 l0 x10_1).f1) false _ A6.out).mono ?_); rintro e w13 ⟨rfl, hb⟩; refine ⟨_, rfl, ?_⟩; have n0_ := am (blk_below (g := gb107) (o := .cells #[.int .i64 ((rd_T49 l0 x10_1).f0), .bool ((rd_T49 l0 x10_1).f1)] 49 (0, 0)) (by (with_reducible repeat (first | refine blk_drewN ?_ _ | refine blk_drew ?_ | refine blk_alloc ?_ _)); refine blk_put (cs := #[.int .i64 ((rd_T49 l0 x10_1).f0), .bool false]) ?_ 1 _ rfl; (with_reducible repeat (first | refine blk_drewN ?_ _ | refine blk_drew ?_ | refine blk_alloc ?_ _)); refine blk_put (cs := #[.int .i64 0, .bool false]) ?_ 0 _ rfl; (with_reducible repeat (first | refine blk_drewN ?_ _ | refine blk_drew ?_ | refine blk_alloc ?_ _)); exact BK107.out) hb); have n1_ := am (below_step (bu HB.out) hb); clear BK107; clear HB; have BK107 := n0_; have HB := n1_; clear n0_ n1_; (try clear hb); (try clear hb2); (try clear hk); (try clear hi)))
        go_ret
        exact ⟨by first | rfl | (simp [errW_none, errW_some] <;> rfl) | (simp [*, errW_none, errW_some] <;> rfl), bu HB.out⟩
      ·rw [if_neg c5] at H
       exact absurd H (by simp)
     ·rw [if_neg c4] at H
      exact absurd H (by simp)
    ·rw [if_neg c3] at H
     have c3b0 : decide (x10_1 < (l0.length : Int)) = false := decide_eq_false c3
     clear c3
     obtain rfl := Option.some.inj H
     go_wp2
     go_ret
     exact ⟨by first | rfl | (simp [errW_none, errW_some] <;> rfl) | (simp [*, errW_none, errW_some] <;> rfl), bu HB.out⟩

/-- A linked melody. -/
def IsList (w : World) : Option Addr → List S49 → Prop
 | p, [] => p = none
 | p, t :: ts => ∃ (g : Nat) (q : Option Addr), p = some ⟨g, 0, none⟩ ∧ w.heap[g]? = some (.cells #[.int .i64 t.f0, .bool t.f1, .pointer q] 51 (0, 0)) ∧ IsList w q ts
theorem IsList.below {w w1 : World} (hb : Below w.heap.size w w1) : ∀ {ts : List S49} {p : Option Addr}, IsList w p ts → IsList w1 p ts
 | [], _, h => h
 | t :: ts, p, h => by
  obtain ⟨g, q, rfl, hg, hr⟩ := h
  refine ⟨g, q, rfl, ?_, IsList.below hb hr⟩
  have hlt : g < w.heap.size := (Array.getElem?_eq_some_iff.1 hg).1
  rw [hb.block g hlt]
  exact hg
theorem rdLk_at (l : List S49) (i : Nat) (h : i < l.length) : rd_T49 l (i : Int) = l[i] := by
 simp [rd_T49, List.getD_eq_getElem?_getD, h]
set_option maxHeartbeats 2000000 in
set_option maxRecDepth 100000 in
theorem linked_any (A0 : Option Addr) (c0 : Nat) (l0 : List S49) (w : World) (hr0 : Kd.C k49 w A0 l0.length l0) (hc0 : l0.length ≤ c0) (hl : l0.length ≤ 100) :
  Calls Tryz.prog 21 #[.slice A0 l0.length c0] w fun e w' => ∃ p, e = .returned (.pointer p) ∧ IsList w' p l0 ∧ Below w.heap.size w w' := by
 have hu1 := Tryz.underlying51
 have hu2 := Tryz.underlying49
 have HR0 := am hr0
 have HC0 := am hc0
 clear hr0 hc0
 go_enter Tryz.func21, Tryz.ntmps21
 go_wp2_with fail
 go_loopg [3, 4] l0.length (fun kq v3 v4 w' => ∃ (i : Nat) (p : Option Addr), v4 = .int .i64 ((i : Int) - 1) ∧ v3 = .pointer p ∧ Aside0 (i ≤ l0.length ∧ kq = i) ∧ Aside0 (IsList w' p (l0.drop i)) ∧ Aside0 (Below w.heap.size w w'))
 case atStart => exact ⟨l0.length, none, rfl, rfl, ⟨Nat.le_refl _, rfl⟩, ⟨by rw [List.drop_eq_nil_of_le (Nat.le_refl _)]; rfl⟩, ⟨Below.refl _ _⟩⟩
 case round =>
  obtain ⟨i, p, rfl, rfl, HI, HL, HB⟩ := hrel
  by_cases h0 : i = 0
  ·subst h0
   go_wp2
   go_ret
   exact ⟨p, rfl, HL.out, HB.out⟩
  ·obtain ⟨j, rfl⟩ : ∃ j, i = j + 1 := ⟨i - 1, by omega⟩
   have hlt : j < l0.length := by have := HI.out.1; omega
   have ej : ((j + 1 : Nat) : Int) - 1 = (j : Int) := by omega
   rw [ej]
   obtain ⟨ad, e1, hx0, hx1⟩ := at_T49 (Kd.C_below HR0.out HB.out) (j : Int) (by omega) (by omega)
   cases e1
   simp only [Int.toNat_natCast] at hx0 hx1
   rw [rdLk_at l0 j hlt] at hx0 hx1
   go_wp2
   go_roundg j
   case measure => have := HI.out; omega
   case rel =>
    refine ⟨j, some ⟨wr.heap.size, 0, none⟩, rfl, rfl, ⟨by have := HI.out.1; omega, rfl⟩, ⟨?_⟩, ⟨below_alloc HB.out _⟩⟩
    rw [List.drop_eq_getElem_cons hlt]
    exact ⟨wr.heap.size, p, rfl, blk_new _ _, IsList.below (below_alloc (Below.refl _ _) _) HL.out⟩


-- INNER impl_linked
end Go.Proofs.YtkdlfnakbilhjaaGreatDoor.XK
