-- Made by this session's gprint.py out of the translation. Not trusted: Lean checks it.
import Derived.Test.YtjnkmckklmabcaaGreatDoorXOx0
import Derived.Test.YtjnkmckklmabcaaGreatDoorXOx1
namespace Go.Proofs.YtjnkmckklmabcaaGreatDoor.XO
open Go.RowKit Go.Proofs.YtjnkmckklmabcaaGreatDoorW.PrintWords Go.Proofs.YtjnkmckklmabcaaGreatDoorW.PrintLast Go.Proofs.YtjnkmckklmabcaaGreatDoorW.PrintMore
attribute [local go_sem] max2_int min2_int max_two min_two max_three min_three max_four min_four   -- for this text's walks alone
set_option linter.unusedVariables false
set_option linter.unusedSimpArgs false

/-- A state of type 58 at block g of W; what its slices lead to came in by w0. -/
def IsS58 (w0 W : World) (g : Nat) (f0 : List (S74)) (f1 : List (S153)) : Prop := ∃ A0 c0, ∃ A1 c1, W.heap[g]? = some (.cells #[.slice A0 f0.length c0, .slice A1 f1.length c1] 58 (0, 0)) ∧ w0.heap.size ≤ g ∧ Kd.C k74 w0 A0 f0.length f0 ∧ Kd.C k153 w0 A1 f1.length f1
theorem IsS58.grown {w0 W : World} {g : Nat} {f0 : List (S74)} {f1 : List (S153)} {W1 : World} {row : Option Nat} (h : IsS58 w0 W g f0 f1) (hw : W.grownBy W1 row) (hne : some g ≠ row) : IsS58 w0 W1 g f0 f1 := by
 obtain ⟨A0, c0, A1, c1, hb, hg, hr0, hr1⟩ := h
 exact ⟨A0, c0, A1, c1, blk_grown hb hw hne, hg, hr0, hr1⟩
theorem IsS58.fresh {w0 W : World} {g : Nat} {f0 : List (S74)} {f1 : List (S153)} (h : IsS58 w0 W g f0 f1) : ∀ k, W.heap.size ≤ k → k ≠ g := by
 obtain ⟨A0, c0, A1, c1, hb, hg, hr0, hr1⟩ := h
 exact Kd.freshB hb
theorem IsS58.below {w0 W : World} {g : Nat} {f0 : List (S74)} {f1 : List (S153)} {W1 : World} (h : IsS58 w0 W g f0 f1) (hw : Below W.heap.size W W1) : IsS58 w0 W1 g f0 f1 := h.grown (grown_of_below hw none) (by simp)
theorem IsS58.alloc {w0 W : World} {g : Nat} {f0 : List (S74)} {f1 : List (S153)} (h : IsS58 w0 W g f0 f1) (o : Obj) : IsS58 w0 (W.alloc o) g f0 f1 := h.below (below_alloc (Below.refl _ _) o)
theorem IsS58.drewN {w0 W : World} {g : Nat} {f0 : List (S74)} {f1 : List (S153)} (h : IsS58 w0 W g f0 f1) (m : Nat) : IsS58 w0 (W.drewN m) g f0 f1 := h
theorem IsS58.drew {w0 W : World} {g : Nat} {f0 : List (S74)} {f1 : List (S153)} (h : IsS58 w0 W g f0 f1) : IsS58 w0 W.drew g f0 f1 := h
theorem IsS58.apart {w0 W : World} {g : Nat} {f0 : List (S74)} {f1 : List (S153)} {α : Type} {d : Kd α} {e : Nat} {base : Nat} {ok : Nat → Prop} {v : Value} {xs : List α} (h : IsS58 w0 W g f0 f1) (ho : d.R e W base ok v xs) (ht : ∀ q, q ∈ e :: d.E → q ≠ 58) : d.R e W base (fun k => ok k ∧ k ≠ g) v xs := by
 obtain ⟨A0, c0, A1, c1, hb, hg, hr0, hr1⟩ := h
 exact Kd.R_types ho hb ht
theorem IsS58.lt {w0 W : World} {g : Nat} {f0 : List (S74)} {f1 : List (S153)} (h : IsS58 w0 W g f0 f1) : g < W.heap.size := by
 obtain ⟨A0, c0, A1, c1, hb, hg, hr0, hr1⟩ := h
 exact blk_lt hb
theorem IsS58.ge {w0 W : World} {g : Nat} {f0 : List (S74)} {f1 : List (S153)} (h : IsS58 w0 W g f0 f1) : w0.heap.size ≤ g := by
 obtain ⟨A0, c0, A1, c1, hb, hg, hr0, hr1⟩ := h
 exact hg
theorem IsS58.far {w0 W : World} {g : Nat} {f0 : List (S74)} {f1 : List (S153)} {p : Addr} (h : IsS58 w0 W g f0 f1) (hne : g ≠ p.block) (u : Value) : IsS58 w0 (W.setCell p u) g f0 f1 := by
 obtain ⟨A0, c0, A1, c1, hb, hg, hr0, hr1⟩ := h
 exact ⟨A0, c0, A1, c1, blk_far hb hne u, hg, hr0, hr1⟩
/-! ### impl_session_runOrdo: function 154 -/
def impl_session_runOrdo.f (k : Nat) (s0_0 : List (S74)) (s0_1 : List (S153)) (l1 : List ByteArray) : Option (ByteArray) := if 0 < (l1.length : Int) then ((impl_wordNumber.f k (rdOf ByteArray.empty l1 0)).bind fun t141 => (if 1 < (l1.length : Int) then ((impl_wordNumber.f k (rdOf ByteArray.empty l1 1)).bind fun t143 => ((impl_RhythmOrdo.f k t141 t143).bind fun bt144 => (if bt144.2.2 = true then ((impl_withNumbers.f k (⟨#[111, 114, 100, 111]⟩ : ByteArray) bt144.1).bind fun t149 => (if t149.size + 5 ≤ 9223372036854775807 then ((impl_withNumbers.f k (t149 ++ (⟨#[32, 114, 101, 115, 116]⟩ : ByteArray)) (([bt144.2.1] : List Int))).bind fun t153 => (some t153)) else (none))) else (some (⟨#[110, 111]⟩ : ByteArray))))) else (none))) else (none)
def impl_session_runOrdo.T1 : Bool × List (List Nat × List Nat) := (true, [([], []), ([0], [0]), ([1], [1]), ([2], [2]), ([], []), ([4], [4]), ([5], [5]), ([6, 3], [6]), ([3, 7, 7], [3, 7]), ([8], [8]), ([9], [9]), ([9], [9]), ([9], [9]), ([10, 8, 0, 1, 2, 3, 4, 5, 6, 7, 8, 9, 10], [10]), ([11, 13, 0, 1, 2, 3, 4, 5, 6, 7, 8, 9, 10, 11, 13], [11]), ([12, 14, 0, 1, 2, 3, 4, 5, 6, 7, 8, 9, 10, 11, 12, 13, 14], [12])])
def impl_session_runOrdo.B1 : List Nat := [0, 1, 3, 7, 0, 16, 48, 127, 255, 511, 1023, 1023, 1023, 2047, 12287, 32767]
theorem impl_session_runOrdo.tab1 : rtab .any (opsOf Tryz.f154 1) = impl_session_runOrdo.T1 := by kernel_rfl
theorem impl_session_runOrdo.bits1 : waitsOk impl_session_runOrdo.T1.2 impl_session_runOrdo.B1 = true := by kernel_rfl
set_option maxHeartbeats 8000000 in
set_option maxRecDepth 100000 in
theorem impl_session_runOrdo.calls (k : Nat) (g : Nat) (s0_0 : List (S74)) (s0_1 : List (S153)) (A1 : Option Addr) (c1 : Nat) (l1 : List ByteArray) (r : ByteArray) (w0 w : World) (hI : IsS58 w0 w g s0_0 s0_1) (hB : Below w0.heap.size w0 w) (hr1 : Kd.C Kd.string w A1 l1.length l1) (hc1 : l1.length ≤ c1) (hf1 : ∀ ad, A1 = some ad → 0 < l1.length → ad.block ≠ g) (h : impl_session_runOrdo.f k s0_0 s0_1 l1 = some r) :
  Calls Tryz.prog 154 #[.pointer (some ⟨g, 0, none⟩), .slice A1 l1.length c1] w fun e w' => e = .returned (.string r) ∧ IsS58 w0 w' g s0_0 s0_1 ∧ Below w0.heap.size w0 w' ∧ KeepBut w w' g none := by
 have HR1 := am hr1
 have HC1 := am hc1
 clear hr1 hc1
 have HI0 := am hI
 have HK := am (KeepBut.refl w g none)
 have HL := am hB.size
 clear hI
 have HW0 := am hB.size
 have HB := am hB
 clear hB
 have H : (if 0 < (l1.length : Int) then ((impl_wordNumber.f k (rdOf ByteArray.empty l1 0)).bind fun t141 => (if 1 < (l1.length : Int) then ((impl_wordNumber.f k (rdOf ByteArray.empty l1 1)).bind fun t143 => ((impl_RhythmOrdo.f k t141 t143).bind fun bt144 => (if bt144.2.2 = true then ((impl_withNumbers.f k (⟨#[111, 114, 100, 111]⟩ : ByteArray) bt144.1).bind fun t149 => (if t149.size + 5 ≤ 9223372036854775807 then ((impl_withNumbers.f k (t149 ++ (⟨#[32, 114, 101, 115, 116]⟩ : ByteArray)) (([bt144.2.1] : List Int))).bind fun t153 => (some t153)) else (none))) else (some (⟨#[110, 111]⟩ : ByteArray))))) else (none))) else (none)) = some r := h
 clear h
 by_cases c3 : 0 < (l1.length : Int)
 ·rw [if_pos c3] at H
  have c3b0 : decide (0 < (l1.length : Int)) = true := decide_eq_true c3
  have c3b1 : decide (0 < l1.length) = true := decide_eq_true (by omega)
  clear c3
  replace H := Option.bind_eq_some_iff.mp H
  obtain ⟨t141, A40, H⟩ := H
  replace H : (if 1 < (l1.length : Int) then ((impl_wordNumber.f k (rdOf ByteArray.empty l1 1)).bind fun t143 => ((impl_RhythmOrdo.f k t141 t143).bind fun bt144 => (if bt144.2.2 = true then ((impl_withNumbers.f k (⟨#[111, 114, 100, 111]⟩ : ByteArray) bt144.1).bind fun t149 => (if t149.size + 5 ≤ 9223372036854775807 then ((impl_withNumbers.f k (t149 ++ (⟨#[32, 114, 101, 115, 116]⟩ : ByteArray)) (([bt144.2.1] : List Int))).bind fun t153 => (some t153)) else (none))) else (some (⟨#[110, 111]⟩ : ByteArray))))) else (none)) = some r := H
  have A4 := am A40
  clear A40
  by_cases c5 : 1 < (l1.length : Int)
  ·rw [if_pos c5] at H
   have c5b0 : decide (1 < (l1.length : Int)) = true := decide_eq_true c5
   have c5b1 : decide (1 < l1.length) = true := decide_eq_true (by omega)
   clear c5
   replace H := Option.bind_eq_some_iff.mp H
   obtain ⟨t143, A60, H⟩ := H
   replace H : ((impl_RhythmOrdo.f k t141 t143).bind fun bt144 => (if bt144.2.2 = true then ((impl_withNumbers.f k (⟨#[111, 114, 100, 111]⟩ : ByteArray) bt144.1).bind fun t149 => (if t149.size + 5 ≤ 9223372036854775807 then ((impl_withNumbers.f k (t149 ++ (⟨#[32, 114, 101, 115, 116]⟩ : ByteArray)) (([bt144.2.1] : List Int))).bind fun t153 => (some t153)) else (none))) else (some (⟨#[110, 111]⟩ : ByteArray)))) = some r := H
   have A6 := am A60
   clear A60
   replace H := Option.bind_eq_some_iff.mp H
   obtain ⟨⟨t144, t145, t146⟩, A70, H⟩ := H
   replace H : (if t146 = true then ((impl_withNumbers.f k (⟨#[111, 114, 100, 111]⟩ : ByteArray) t144).bind fun t149 => (if t149.size + 5 ≤ 9223372036854775807 then ((impl_withNumbers.f k (t149 ++ (⟨#[32, 114, 101, 115, 116]⟩ : ByteArray)) (([t145] : List Int))).bind fun t153 => (some t153)) else (none))) else (some (⟨#[110, 111]⟩ : ByteArray))) = some r := H
   have A7 := am A70
   clear A70
   by_cases c8 : t146 = true
   ·subst c8
    have H1 : ((impl_withNumbers.f k (⟨#[111, 114, 100, 111]⟩ : ByteArray) t144).bind fun t149 => (if t149.size + 5 ≤ 9223372036854775807 then ((impl_withNumbers.f k (t149 ++ (⟨#[32, 114, 101, 115, 116]⟩ : ByteArray)) (([t145] : List Int))).bind fun t153 => (some t153)) else (none))) = some r := by rw [if_pos rfl] at H; exact H
    clear H
    have H := H1
    clear H1
    replace H := Option.bind_eq_some_iff.mp H
    obtain ⟨t149, A90, H⟩ := H
    replace H : (if t149.size + 5 ≤ 9223372036854775807 then ((impl_withNumbers.f k (t149 ++ (⟨#[32, 114, 101, 115, 116]⟩ : ByteArray)) (([t145] : List Int))).bind fun t153 => (some t153)) else (none)) = some r := H
    have A9 := am A90
    clear A90
    by_cases c10 : t149.size + 5 ≤ 9223372036854775807
    ·rw [if_pos c10] at H
     have c10b0 := eq_true c10
     have c10b1 : decide (t149.size + 5 ≤ 9223372036854775807) = true := decide_eq_true c10
     try have c10b2 : (9223372036854775807 < t149.size + 5) = False := eq_false (Nat.not_lt.2 c10)
     obtain ⟨y150, hy150⟩ : ∃ y_ : List Int, y_ = (([t145] : List Int)) := ⟨_, rfl⟩
     replace H : ((impl_withNumbers.f k (t149 ++ (⟨#[32, 114, 101, 115, 116]⟩ : ByteArray)) y150).bind fun t153 => (some t153)) = some r := by first | (rw [hy150]; with_reducible exact H) | (have H2_ := (Option.bind_some _ _).symm.trans H; rw [hy150]; with_reducible exact H2_) | (have H2_ := (Option.bind_some _ _).symm.trans H; with_reducible exact H2_) | with_reducible exact H | (rw [hy150]; exact H) | exact H
     have Ny150 := am hy150
     clear hy150
     replace H := Option.bind_eq_some_iff.mp H
     obtain ⟨t153, A110, H⟩ := H
     replace H : (some t153) = some r := H
     have A11 := am A110
     clear A110
     obtain rfl := Option.some.inj H
     go_enter Tryz.func154, Tryz.ntmps154
     try go_wp2
     have n0_ := am (IsS58.drew HI0.out)
     have n1_ := am (keep_drew HK.out)
     have n2_ := am (below_drew1 HB.out)
     clear HI0
     clear HK
     clear HB
     have HI0 := n0_
     have HK := n1_
     have HB := n2_
     clear n0_ n1_ n2_
     have p140 : 0 ≤ (0 : Int) := (by omega)
     have q140 : 0 < (l1.length : Int) := od
     obtain ⟨ad140, e140, hx140_0⟩ := Kd.at_string HR1.out 0 p140 q140
     have hw140_0 := hx140_0
     (try rw [show ((0 : Int)).toNat = 0 from rfl] at hw140_0)
     (try rw [show 0 * 1 = 0 from rfl] at hw140_0)
     (try rw [Addr.add_zero'] at hw140_0)
     cases e140
     have hne140_0 := (show (ad140 : Addr).block ≠ g from by first | (rw [add_block]; exact hf1 ad140 rfl (by omega)) | (show (Addr.add _ _).block ≠ _; rw [add_block]; exact hf1 ad140 rfl (by omega)) | exact hf1 ad140 rfl (by omega))
     have qi140 : (0 < l1.length) = True := eq_true (by omega)
     (try rw [show ((0 : Int)).toNat = 0 from rfl] at hx140_0)
     (try rw [Addr.add_zero'] at hx140_0)
     replace hx140_0 := keep_cell HK.out hx140_0 (by first | (rw [add_block]; exact hf1 _ rfl (by omega)) | exact hf1 _ rfl (by omega) | exact hf1 ad140 rfl (by omega))
     replace p140 := eq_true p140
     replace q140 := eq_true q140
     have p142 : 0 ≤ (1 : Int) := (by omega)
     have q142 : 1 < (l1.length : Int) := od
     obtain ⟨ad142, e142, hx142_0⟩ := Kd.at_string HR1.out 1 p142 q142
     have hw142_0 := hx142_0
     (try rw [show ((1 : Int)).toNat = 1 from rfl] at hw142_0)
     (try rw [show 1 * 1 = 1 from rfl] at hw142_0)
     (try simp only [Nat.reduceMul, Nat.reduceEqDiff, Go.Addr.add, ↓reduceIte] at hw142_0)
     obtain rfl : ad140 = ad142 := (by injection e142)
     have hne142_0 := (show (⟨ad140.block, ad140.off + 1, none⟩ : Addr).block ≠ g from by first | (rw [add_block]; exact hf1 ad140 rfl (by omega)) | (show (Addr.add _ _).block ≠ _; rw [add_block]; exact hf1 ad140 rfl (by omega)) | exact hf1 ad140 rfl (by omega))
     (try simp only [show (1 : Int).toNat = 1 from rfl, Nat.reduceMul, Nat.reduceEqDiff, Go.Addr.add, ↓reduceIte] at hx142_0)
     have qi142 : (1 < l1.length) = True := eq_true (by omega)
     (try rw [show ((1 : Int)).toNat = 1 from rfl] at hx142_0)
     replace hx142_0 := keep_cell HK.out hx142_0 (by first | (rw [add_block]; exact hf1 _ rfl (by omega)) | exact hf1 _ rfl (by omega) | exact hf1 ad140 rfl (by omega))
     replace p142 := eq_true p142
     replace q142 := eq_true q142
     refine start_ (n := 16) (S := fun w' => w'.cell? ad140 = some (.string (rdOf ByteArray.empty l1 0)) ∧ w'.cell? ⟨ad140.block, ad140.off + 1, none⟩ = some (.string (rdOf ByteArray.empty l1 1))) (ds := []) #[F,F,F,F,F,F,F,F,F,F,F,F,F,F,F,F] (by kernel_rfl) rfl rfl ⟨(keep_cell HK.out hw140_0 hne140_0), (keep_cell HK.out hw142_0 hne142_0)⟩ (fun hHeld => ?_); refine with_tabW impl_session_runOrdo.tab1 impl_session_runOrdo.bits1 (fun HT_ HW_ => ?_)
     generalize w.drew = w12 at HI0 HK HB hx140_0 hx142_0 hHeld ⊢
     refine pz 0 (some 9) #[T,F,F,F,F,F,F,F,F,F,F,F,F,F,F,F] (any_of HT_.out (by kernel_rfl)) (h := ?_)
     refine pz 1 (some 10) #[T,T,F,F,F,F,F,F,F,F,F,F,F,F,F,F] (any_of HT_.out (by kernel_rfl)) (h := ?_)
     refine pz 4 (some 13) #[T,T,F,F,T,F,F,F,F,F,F,F,F,F,F,F] (any_of HT_.out (by kernel_rfl)) (h := ?_)
     refine pz 5 (some 14) #[T,T,F,F,T,T,F,F,F,F,F,F,F,F,F,F] (any_of HT_.out (by kernel_rfl)) (h := ?_)
     refine tz hHeld 2 (some 11) #[T,T,T,F,T,T,F,F,F,F,F,F,F,F,F,F] (take_ofW HT_.out HW_.out (by kernel_rfl)) (h := ?_)
     refine tz hHeld 6 (some 15) #[T,T,T,F,T,T,T,F,F,F,F,F,F,F,F,F] (take_ofW HT_.out HW_.out (by kernel_rfl)) (h := ?_)
     refine one_ (i := 3) (N := some 12) #[T,T,T,T,T,T,T,F,F,F,F,F,F,F,F,F] rfl rfl (one_of HT_.out (by kernel_rfl)) (by decide) (fun K hK => ?_)
     refine goes_ Tryz.func179 (by kernel_rfl) rfl #[.string (rdOf ByteArray.empty l1 0)] (by rfl) rfl rfl (by (try simp only [List.map_toArray, List.map_cons, List.map_nil]); first | done | rfl | (simp only [List.length_drop, List.length_take]; rfl)) ?_
     with_reducible refine (impl_wordNumber.calls k (rdOf ByteArray.empty l1 0) t141 _ A4.out).mono ?_
     rintro e w' ⟨rfl, ⟨nd, rfl⟩⟩
     refine ⟨_, rfl, ?_⟩
     refine hK.out _ _ ⟨(keep_cell HK.out hw140_0 hne140_0), (keep_cell HK.out hw142_0 hne142_0)⟩ (fun hHeld => ?_)
     clear hK K
     refine norm_ (a' := ?_) ?_ ?_
     rotate_left
     ·show Act.put _ (some 12) _ = _
      simp only [Act.put, sA, sZ, sS, i64_w, i32_w]
      rfl
     refine one_ (i := 7) (N := some 16) #[T,T,T,T,T,T,T,T,F,F,F,F,F,F,F,F] rfl rfl (one_of HT_.out (by kernel_rfl)) (by decide) (fun K hK => ?_)
     refine goes_ Tryz.func179 (by kernel_rfl) rfl #[.string (rdOf ByteArray.empty l1 1)] (by rfl) rfl rfl (by (try simp only [List.map_toArray, List.map_cons, List.map_nil]); first | done | rfl | (simp only [List.length_drop, List.length_take]; rfl)) ?_
     with_reducible refine (impl_wordNumber.calls k (rdOf ByteArray.empty l1 1) t143 _ A6.out).mono ?_
     rintro e w' ⟨rfl, ⟨nd, rfl⟩⟩
     refine ⟨_, rfl, ?_⟩
     refine hK.out _ _ ⟨(keep_cell HK.out hw140_0 hne140_0), (keep_cell HK.out hw142_0 hne142_0)⟩ (fun hHeld => ?_)
     clear hK K
     refine norm_ (a' := ?_) ?_ ?_
     rotate_left
     ·show Act.put _ (some 16) _ = _
      simp only [Act.put, sA, sZ, sS, i64_w, i32_w]
      rfl
     refine one_ (i := 8) (N := some 17) #[T,T,T,T,T,T,T,T,T,F,F,F,F,F,F,F] rfl rfl (one_of HT_.out (by kernel_rfl)) (by decide) (fun K hK => ?_)
     refine goes_ Tryz.func17 (by kernel_rfl) rfl #[.int .i64 t141, .int .i64 t143] (by rfl) rfl rfl (by (try simp only [List.map_toArray, List.map_cons, List.map_nil]); first | done | rfl | (simp only [List.length_drop, List.length_take]; rfl)) ?_
     with_reducible refine (impl_RhythmOrdo.calls k t141 t143 t144 t145 true _ A7.out).mono ?_
     rintro e w13 ⟨v147, rfl, ho0, hb⟩
     refine ⟨_, rfl, ?_⟩
     have n0_ := am (Kd.R_lower ho0 (keep_size (w := w) (g := g) (row := none) (by repeat (first | (with_reducible first | exact HK.out | apply KeepBut.set_ | apply keep_drewN | apply keep_drew | apply keep_alloc) | exact HK.out))))
     have n1_ := am (IsS58.below (by repeat (first | (with_reducible first | exact HI0.out | apply IsS58.alloc | apply IsS58.drewN | apply IsS58.drew) | exact HI0.out)) hb)
     have n2_ := am (KeepBut.trans (by repeat (first | (with_reducible first | exact HK.out | apply KeepBut.set_ | apply keep_drewN | apply keep_drew | apply keep_alloc) | exact HK.out)) (KeepBut.of_below hb g none) (.inl rfl))
     have n3_ := am (below_step (by repeat (first | (with_reducible first | exact HB.out | apply below_alloc | apply pw_below_drewN | apply below_drew1 | refine below_set ?_ (IsS58.ge HI0.out)) | exact HB.out)) hb)
     clear HI0
     clear HK
     clear HB
     have HO148 := n0_
     have HI0 := n1_
     have HK := n2_
     have HB := n3_
     clear n0_ n1_ n2_ n3_
     (try clear hb)
     (try clear hb2)
     (try clear hk)
     (try clear hi)
     (try clear ho0)
     refine hK.out _ _ ⟨(keep_cell HK.out hw140_0 hne140_0), (keep_cell HK.out hw142_0 hne142_0)⟩ (fun hHeld => ?_)
     clear hK K
     refine norm_ (a' := ?_) ?_ ?_
     rotate_left
     ·show Act.put _ (some 17) _ = _
      simp only [Act.put, sA, sZ, sS, i64_w, i32_w]
      rfl
     refine pz 9 (some 8) #[T,T,T,T,T,T,T,T,T,T,F,F,F,F,F,F] (any_of HT_.out (by kernel_rfl)) (h := ?_)
     refine pz 10 (some 18) #[T,T,T,T,T,T,T,T,T,T,T,F,F,F,F,F] (any_of HT_.out (by kernel_rfl)) (h := ?_)
     refine pz 11 (some 19) #[T,T,T,T,T,T,T,T,T,T,T,T,F,F,F,F] (any_of HT_.out (by kernel_rfl)) (h := ?_)
     refine pz 12 (some 20) #[T,T,T,T,T,T,T,T,T,T,T,T,T,F,F,F] (any_of HT_.out (by kernel_rfl)) (h := ?_)
     refine pz 13 (some 5) #[T,T,T,T,T,T,T,T,T,T,T,T,T,T,F,F] (any_of HT_.out (by kernel_rfl)) (h := ?_)
     refine pz 14 (some 6) #[T,T,T,T,T,T,T,T,T,T,T,T,T,T,T,F] (any_of HT_.out (by kernel_rfl)) (h := ?_)
     refine pz 15 (some 7) #[T,T,T,T,T,T,T,T,T,T,T,T,T,T,T,T] (any_of HT_.out (by kernel_rfl)) (h := ?_)
     refine done_ (done_of HT_.out (by kernel_rfl)) ?_
     obtain ⟨Ao14, co14, eo14⟩ := Kd.R_slice HO148.out
     subst eo14
     try go_wp2_with (first | ((with_reducible refine gate_callee (f := 180) rfl ?_); refine goesL_ (some 24) rfl rfl Tryz.func180 (by kernel_rfl) rfl #[.string (⟨#[111, 114, 100, 111]⟩ : ByteArray), .slice Ao14 t144.length co14] rfl (by (try simp only [List.map_toArray, List.map_cons, List.map_nil]); first | done | rfl | (simp only [List.length_drop, List.length_take]; rfl)) ?_; (with_reducible refine (impl_withNumbers.calls k (⟨#[111, 114, 100, 111]⟩ : ByteArray) _ _ t144 t149 _ ?side1 ?side2 A9.out).mono ?_); (case side1 => exact cu (Kd.R_reads' HO148.out).2.2); (case side2 => exact (Kd.R_reads' HO148.out).2.1); rintro e w' ⟨rfl, ⟨nd, rfl⟩⟩; refine ⟨_, rfl, ?_⟩) | ((with_reducible refine gate_dst (N := 27) rfl ?_); refine Kd.R_lit (Kd.int .i64) _ 3 ?hg (N := 27) ?hd (xs := ([t145] : List Int)) (inner := [.int .i64 t145]) (ok := fun _ => True) (okp := fun _ => True) ?hr ?hp (fun _ hk => hk) trivial (Below.refl _ _) (Nat.le_refl _) (by simp) ?_; (case hd => rfl); (case hg => rfl); (case hr => first | (go_simp; done) | (go_simp; rfl)); (case hp => exact (Reps.one (show Kd.M (Kd.int .i64) _ _ _ t145 [.int .i64 t145] from rfl) (Reps.none _ _))); intro v151 w15 ho16 hb hg_ hnew_; clear hg_ hnew_; (first | rw [← Ny150.out] at ho16 | (simp only [Int.reduceToNat] at ho16; rw [← Ny150.out] at ho16)); have n0_ := am (Kd.R_elder' (ru HO148.out) (Kd.R_base ho16) hb); have n1_ := am (Kd.R_lower (Kd.R_new' ho16 (Kd.R_lt (ru HO148.out))) (keep_size (w := w) (g := g) (row := none) (by repeat (first | (with_reducible first | exact HK.out | apply KeepBut.set_ | apply keep_drewN | apply keep_drew | apply keep_alloc) | exact HK.out)))); have n2_ := am (IsS58.below (by repeat (first | (with_reducible first | exact HI0.out | apply IsS58.alloc | apply IsS58.drewN | apply IsS58.drew) | exact HI0.out)) hb); have n3_ := am (KeepBut.trans (by repeat (first | (with_reducible first | exact HK.out | apply KeepBut.set_ | apply keep_drewN | apply keep_drew | apply keep_alloc) | exact HK.out)) (KeepBut.of_below hb g none) (.inl rfl)); have n4_ := am (below_step (by repeat (first | (with_reducible first | exact HB.out | apply below_alloc | apply pw_below_drewN | apply below_drew1 | refine below_set ?_ (IsS58.ge HI0.out)) | exact HB.out)) hb); clear HO148; clear HI0; clear HK; clear HB; have HO148 := n0_; have HO152 := n1_; have HI0 := n2_; have HK := n3_; have HB := n4_; clear n0_ n1_ n2_ n3_ n4_; clear hb ho16; obtain ⟨Ao17, co17, eo17⟩ := Kd.R_slice HO152.out; subst eo17) | ((with_reducible refine gate_callee (f := 180) rfl ?_); refine goesL_ (some 28) rfl rfl Tryz.func180 (by kernel_rfl) rfl #[.string (t149 ++ (⟨#[32, 114, 101, 115, 116]⟩ : ByteArray)), .slice Ao17 y150.length co17] rfl (by (try simp only [List.map_toArray, List.map_cons, List.map_nil]); first | done | rfl | (simp only [List.length_drop, List.length_take]; rfl)) ?_; (with_reducible refine (impl_withNumbers.calls k (t149 ++ (⟨#[32, 114, 101, 115, 116]⟩ : ByteArray)) _ _ y150 t153 _ ?side1 ?side2 A11.out).mono ?_); (case side1 => exact cu (Kd.R_reads' HO152.out).2.2); (case side2 => exact (Kd.R_reads' HO152.out).2.1); rintro e w' ⟨rfl, ⟨nd, rfl⟩⟩; refine ⟨_, rfl, ?_⟩))
     go_ret
     exact ⟨by first | rfl | (simp [errW_none, errW_some] <;> rfl) | (simp [*, errW_none, errW_some] <;> rfl), by repeat (first | (with_reducible first | exact HI0.out | apply IsS58.alloc | apply IsS58.drewN | apply IsS58.drew) | exact HI0.out), by repeat (first | (with_reducible first | exact HB.out | apply below_alloc | apply pw_below_drewN | apply below_drew1 | refine below_set ?_ (IsS58.ge HI0.out)) | exact HB.out), by repeat (first | (with_reducible first | exact HK.out | apply KeepBut.set_ | apply keep_drewN | apply keep_drew | apply keep_alloc) | exact HK.out)⟩
    ·rw [if_neg c10] at H
     exact absurd H (by simp)
   ·replace c8 := Bool.eq_false_iff.mpr c8
    subst c8
    have H1 : (some (⟨#[110, 111]⟩ : ByteArray)) = some r := by rw [if_neg (show ¬ (false = true) by decide)] at H; exact H
    clear H
    have H := H1
    clear H1
    obtain rfl := Option.some.inj H
    go_enter Tryz.func154, Tryz.ntmps154
    try go_wp2
    have n0_ := am (IsS58.drew HI0.out)
    have n1_ := am (keep_drew HK.out)
    have n2_ := am (below_drew1 HB.out)
    clear HI0
    clear HK
    clear HB
    have HI0 := n0_
    have HK := n1_
    have HB := n2_
    clear n0_ n1_ n2_
    have p140 : 0 ≤ (0 : Int) := (by omega)
    have q140 : 0 < (l1.length : Int) := od
    obtain ⟨ad140, e140, hx140_0⟩ := Kd.at_string HR1.out 0 p140 q140
    have hw140_0 := hx140_0
    (try rw [show ((0 : Int)).toNat = 0 from rfl] at hw140_0)
    (try rw [show 0 * 1 = 0 from rfl] at hw140_0)
    (try rw [Addr.add_zero'] at hw140_0)
    cases e140
    have hne140_0 := (show (ad140 : Addr).block ≠ g from by first | (rw [add_block]; exact hf1 ad140 rfl (by omega)) | (show (Addr.add _ _).block ≠ _; rw [add_block]; exact hf1 ad140 rfl (by omega)) | exact hf1 ad140 rfl (by omega))
    have qi140 : (0 < l1.length) = True := eq_true (by omega)
    (try rw [show ((0 : Int)).toNat = 0 from rfl] at hx140_0)
    (try rw [Addr.add_zero'] at hx140_0)
    replace hx140_0 := keep_cell HK.out hx140_0 (by first | (rw [add_block]; exact hf1 _ rfl (by omega)) | exact hf1 _ rfl (by omega) | exact hf1 ad140 rfl (by omega))
    replace p140 := eq_true p140
    replace q140 := eq_true q140
    have p142 : 0 ≤ (1 : Int) := (by omega)
    have q142 : 1 < (l1.length : Int) := od
    obtain ⟨ad142, e142, hx142_0⟩ := Kd.at_string HR1.out 1 p142 q142
    have hw142_0 := hx142_0
    (try rw [show ((1 : Int)).toNat = 1 from rfl] at hw142_0)
    (try rw [show 1 * 1 = 1 from rfl] at hw142_0)
    (try simp only [Nat.reduceMul, Nat.reduceEqDiff, Go.Addr.add, ↓reduceIte] at hw142_0)
    obtain rfl : ad140 = ad142 := (by injection e142)
    have hne142_0 := (show (⟨ad140.block, ad140.off + 1, none⟩ : Addr).block ≠ g from by first | (rw [add_block]; exact hf1 ad140 rfl (by omega)) | (show (Addr.add _ _).block ≠ _; rw [add_block]; exact hf1 ad140 rfl (by omega)) | exact hf1 ad140 rfl (by omega))
    (try simp only [show (1 : Int).toNat = 1 from rfl, Nat.reduceMul, Nat.reduceEqDiff, Go.Addr.add, ↓reduceIte] at hx142_0)
    have qi142 : (1 < l1.length) = True := eq_true (by omega)
    (try rw [show ((1 : Int)).toNat = 1 from rfl] at hx142_0)
    replace hx142_0 := keep_cell HK.out hx142_0 (by first | (rw [add_block]; exact hf1 _ rfl (by omega)) | exact hf1 _ rfl (by omega) | exact hf1 ad140 rfl (by omega))
    replace p142 := eq_true p142
    replace q142 := eq_true q142
    refine start_ (n := 16) (S := fun w' => w'.cell? ad140 = some (.string (rdOf ByteArray.empty l1 0)) ∧ w'.cell? ⟨ad140.block, ad140.off + 1, none⟩ = some (.string (rdOf ByteArray.empty l1 1))) (ds := []) #[F,F,F,F,F,F,F,F,F,F,F,F,F,F,F,F] (by kernel_rfl) rfl rfl ⟨(keep_cell HK.out hw140_0 hne140_0), (keep_cell HK.out hw142_0 hne142_0)⟩ (fun hHeld => ?_); refine with_tabW impl_session_runOrdo.tab1 impl_session_runOrdo.bits1 (fun HT_ HW_ => ?_)
    generalize w.drew = w18 at HI0 HK HB hx140_0 hx142_0 hHeld ⊢
    refine pz 0 (some 9) #[T,F,F,F,F,F,F,F,F,F,F,F,F,F,F,F] (any_of HT_.out (by kernel_rfl)) (h := ?_)
    refine pz 1 (some 10) #[T,T,F,F,F,F,F,F,F,F,F,F,F,F,F,F] (any_of HT_.out (by kernel_rfl)) (h := ?_)
    refine pz 4 (some 13) #[T,T,F,F,T,F,F,F,F,F,F,F,F,F,F,F] (any_of HT_.out (by kernel_rfl)) (h := ?_)
    refine pz 5 (some 14) #[T,T,F,F,T,T,F,F,F,F,F,F,F,F,F,F] (any_of HT_.out (by kernel_rfl)) (h := ?_)
    refine tz hHeld 2 (some 11) #[T,T,T,F,T,T,F,F,F,F,F,F,F,F,F,F] (take_ofW HT_.out HW_.out (by kernel_rfl)) (h := ?_)
    refine tz hHeld 6 (some 15) #[T,T,T,F,T,T,T,F,F,F,F,F,F,F,F,F] (take_ofW HT_.out HW_.out (by kernel_rfl)) (h := ?_)
    refine one_ (i := 3) (N := some 12) #[T,T,T,T,T,T,T,F,F,F,F,F,F,F,F,F] rfl rfl (one_of HT_.out (by kernel_rfl)) (by decide) (fun K hK => ?_)
    refine goes_ Tryz.func179 (by kernel_rfl) rfl #[.string (rdOf ByteArray.empty l1 0)] (by rfl) rfl rfl (by (try simp only [List.map_toArray, List.map_cons, List.map_nil]); first | done | rfl | (simp only [List.length_drop, List.length_take]; rfl)) ?_
    with_reducible refine (impl_wordNumber.calls k (rdOf ByteArray.empty l1 0) t141 _ A4.out).mono ?_
    rintro e w' ⟨rfl, ⟨nd, rfl⟩⟩
    refine ⟨_, rfl, ?_⟩
    refine hK.out _ _ ⟨(keep_cell HK.out hw140_0 hne140_0), (keep_cell HK.out hw142_0 hne142_0)⟩ (fun hHeld => ?_)
    clear hK K
    refine norm_ (a' := ?_) ?_ ?_
    rotate_left
    ·show Act.put _ (some 12) _ = _
     simp only [Act.put, sA, sZ, sS, i64_w, i32_w]
     rfl
    refine one_ (i := 7) (N := some 16) #[T,T,T,T,T,T,T,T,F,F,F,F,F,F,F,F] rfl rfl (one_of HT_.out (by kernel_rfl)) (by decide) (fun K hK => ?_)
    refine goes_ Tryz.func179 (by kernel_rfl) rfl #[.string (rdOf ByteArray.empty l1 1)] (by rfl) rfl rfl (by (try simp only [List.map_toArray, List.map_cons, List.map_nil]); first | done | rfl | (simp only [List.length_drop, List.length_take]; rfl)) ?_
    with_reducible refine (impl_wordNumber.calls k (rdOf ByteArray.empty l1 1) t143 _ A6.out).mono ?_
    rintro e w' ⟨rfl, ⟨nd, rfl⟩⟩
    refine ⟨_, rfl, ?_⟩
    refine hK.out _ _ ⟨(keep_cell HK.out hw140_0 hne140_0), (keep_cell HK.out hw142_0 hne142_0)⟩ (fun hHeld => ?_)
    clear hK K
    refine norm_ (a' := ?_) ?_ ?_
    rotate_left
    ·show Act.put _ (some 16) _ = _
     simp only [Act.put, sA, sZ, sS, i64_w, i32_w]
     rfl
    refine one_ (i := 8) (N := some 17) #[T,T,T,T,T,T,T,T,T,F,F,F,F,F,F,F] rfl rfl (one_of HT_.out (by kernel_rfl)) (by decide) (fun K hK => ?_)
    refine goes_ Tryz.func17 (by kernel_rfl) rfl #[.int .i64 t141, .int .i64 t143] (by rfl) rfl rfl (by (try simp only [List.map_toArray, List.map_cons, List.map_nil]); first | done | rfl | (simp only [List.length_drop, List.length_take]; rfl)) ?_
    with_reducible refine (impl_RhythmOrdo.calls k t141 t143 t144 t145 false _ A7.out).mono ?_
    rintro e w19 ⟨v147, rfl, ho0, hb⟩
    refine ⟨_, rfl, ?_⟩
    have n0_ := am (Kd.R_lower ho0 (keep_size (w := w) (g := g) (row := none) (by repeat (first | (with_reducible first | exact HK.out | apply KeepBut.set_ | apply keep_drewN | apply keep_drew | apply keep_alloc) | exact HK.out))))
    have n1_ := am (IsS58.below (by repeat (first | (with_reducible first | exact HI0.out | apply IsS58.alloc | apply IsS58.drewN | apply IsS58.drew) | exact HI0.out)) hb)
    have n2_ := am (KeepBut.trans (by repeat (first | (with_reducible first | exact HK.out | apply KeepBut.set_ | apply keep_drewN | apply keep_drew | apply keep_alloc) | exact HK.out)) (KeepBut.of_below hb g none) (.inl rfl))
    have n3_ := am (below_step (by repeat (first | (with_reducible first | exact HB.out | apply below_alloc | apply pw_below_drewN | apply below_drew1 | refine below_set ?_ (IsS58.ge HI0.out)) | exact HB.out)) hb)
    clear HI0
    clear HK
    clear HB
    have HO148 := n0_
    have HI0 := n1_
    have HK := n2_
    have HB := n3_
    clear n0_ n1_ n2_ n3_
    (try clear hb)
    (try clear hb2)
    (try clear hk)
    (try clear hi)
    (try clear ho0)
    refine hK.out _ _ ⟨(keep_cell HK.out hw140_0 hne140_0), (keep_cell HK.out hw142_0 hne142_0)⟩ (fun hHeld => ?_)
    clear hK K
    refine norm_ (a' := ?_) ?_ ?_
    rotate_left
    ·show Act.put _ (some 17) _ = _
     simp only [Act.put, sA, sZ, sS, i64_w, i32_w]
     rfl
    refine pz 9 (some 8) #[T,T,T,T,T,T,T,T,T,T,F,F,F,F,F,F] (any_of HT_.out (by kernel_rfl)) (h := ?_)
    refine pz 10 (some 18) #[T,T,T,T,T,T,T,T,T,T,T,F,F,F,F,F] (any_of HT_.out (by kernel_rfl)) (h := ?_)
    refine pz 11 (some 19) #[T,T,T,T,T,T,T,T,T,T,T,T,F,F,F,F] (any_of HT_.out (by kernel_rfl)) (h := ?_)
    refine pz 12 (some 20) #[T,T,T,T,T,T,T,T,T,T,T,T,T,F,F,F] (any_of HT_.out (by kernel_rfl)) (h := ?_)
    refine pz 13 (some 5) #[T,T,T,T,T,T,T,T,T,T,T,T,T,T,F,F] (any_of HT_.out (by kernel_rfl)) (h := ?_)
    refine pz 14 (some 6) #[T,T,T,T,T,T,T,T,T,T,T,T,T,T,T,F] (any_of HT_.out (by kernel_rfl)) (h := ?_)
    refine pz 15 (some 7) #[T,T,T,T,T,T,T,T,T,T,T,T,T,T,T,T] (any_of HT_.out (by kernel_rfl)) (h := ?_)
    refine done_ (done_of HT_.out (by kernel_rfl)) ?_
    try go_wp2
    go_ret
    exact ⟨by first | rfl | (simp [errW_none, errW_some] <;> rfl) | (simp [*, errW_none, errW_some] <;> rfl), by repeat (first | (with_reducible first | exact HI0.out | apply IsS58.alloc | apply IsS58.drewN | apply IsS58.drew) | exact HI0.out), by repeat (first | (with_reducible first | exact HB.out | apply below_alloc | apply pw_below_drewN | apply below_drew1 | refine below_set ?_ (IsS58.ge HI0.out)) | exact HB.out), by repeat (first | (with_reducible first | exact HK.out | apply KeepBut.set_ | apply keep_drewN | apply keep_drew | apply keep_alloc) | exact HK.out)⟩
  ·rw [if_neg c5] at H
   exact absurd H (by simp)
 ·rw [if_neg c3] at H
  exact absurd H (by simp)

-- NOT PRINTED: function 170 (bytealg_IndexByteString)

-- NOT PRINTED: function 136 (stringslite_IndexByte)

-- NOT PRINTED: function 137 (bytealg_IndexString)

/-! ### bytealg_Cutover: function 138 -/
/-! ### bytealg_hashStr_string: function 171 -/
/-! ### bytealg_IndexRabinKarp_string: function 139 -/
-- NOT PRINTED: function 109 (stringslite_Index)

-- NOT PRINTED: function 79 (stringslite_Cut)

-- NOT PRINTED: function 172 (utf8_RuneCountInString)

-- NOT PRINTED: function 194 (utf8_decodeRuneInStringSlow)

-- NOT PRINTED: function 173 (utf8_DecodeRuneInString)

-- NOT PRINTED: function 140 (strings_explode)

-- NOT PRINTED: function 142 (strings_Index)

-- NOT PRINTED: function 174 (bytealg_CountString)

-- NOT PRINTED: function 141 (strings_Count)

-- NOT PRINTED: function 110 (strings_genSplit)

-- INNER impl_allCommands
-- INNER impl_commandFor
end Go.Proofs.YtjnkmckklmabcaaGreatDoor.XO
