-- Made by this session's gprint.py out of the translation. Not trusted: Lean checks it.
import Derived.Test.YtcndojoghmblaaaDoorSFx0
import Derived.Test.YtcndojoghmblaaaDoorSFx2
import Derived.Test.YtcndojoghmblaaaDoorSFx5
import Derived.Test.YtcndojoghmblaaaDoorSFx8
namespace Go.Proofs.YtcndojoghmblaaaDoor.SF
open Go.RowKit Go.Proofs.YtcndojoghmblaaaDoorW.PrintWords Go.Proofs.YtcndojoghmblaaaDoorW.PrintLast Go.Proofs.YtcndojoghmblaaaDoorW.PrintMore
attribute [local go_sem] max2_int min2_int max_two min_two max_three min_three max_four min_four   -- for this text's walks alone
set_option linter.unusedVariables false
set_option linter.unusedSimpArgs false

/-! ### impl_SingMutations: function 39 -/
def impl_SingMutations.l0 : Nat → List Int → Int → Int → Option (Int)
 | 0, _, _, _ => none
 | k + 1, x1, x5, x6 => if x6 < (x1.length : Int) then (if 0 ≤ x6 then (if 0 ≤ (wrap64 (x6 - 1)) then (if (wrap64 (x6 - 1)) < (x1.length : Int) then (if (rd x1 x6) = (rd x1 (wrap64 (x6 - 1))) then (impl_SingMutations.l0 k x1 x5 (wrap64 (x6 + 1))) else (impl_SingMutations.l0 k x1 (wrap64 (x5 + 1)) (wrap64 (x6 + 1)))) else (none)) else (none)) else (none)) else (some x5)
def impl_SingMutations.f (k : Nat) (l0 : List (S30)) (l1 : List Int) : Option (Int) := (impl_SingOk.f k l0 l1).bind fun t257 => (if t257 = true then (impl_SingMutations.l0 k l1 0 1) else (some (-1)))
set_option maxHeartbeats 8000000 in
set_option maxRecDepth 100000 in
theorem impl_SingMutations.calls (k : Nat) (A0 : Option Addr) (c0 : Nat) (l0 : List (S30)) (A1 : Option Addr) (c1 : Nat) (l1 : List Int) (r : Int) (w : World) (hr0 : Kd.C k30 w A0 l0.length l0) (hc0 : l0.length ≤ c0) (hr1 : Kd.C (Kd.int .i64) w A1 l1.length l1) (hc1 : l1.length ≤ c1) (hTL : TabL w) (h : impl_SingMutations.f k l0 l1 = some r) :
  Calls Tryd.prog 39 #[.slice A0 l0.length c0, .slice A1 l1.length c1] w fun e w' => e = .returned (.int .i64 r) ∧ Below w.heap.size w w' := by
 have HTL := am hTL
 clear hTL
 have HR0 := am hr0
 have HC0 := am hc0
 clear hr0 hc0
 have HR1 := am hr1
 have HC1 := am hc1
 clear hr1 hc1
 have HB := am (Below.refl w.heap.size w)
 have H : ((impl_SingOk.f k l0 l1).bind fun t257 => (if t257 = true then (impl_SingMutations.l0 k l1 0 1) else (some (-1)))) = some r := h
 clear h
 replace H := Option.bind_eq_some_iff.mp H
 obtain ⟨t257, A30, H⟩ := H
 replace H : (if t257 = true then (impl_SingMutations.l0 k l1 0 1) else (some (-1))) = some r := H
 have A3 := am A30
 clear A30
 by_cases c4 : t257 = true
 ·subst c4
  have H1 : (impl_SingMutations.l0 k l1 0 1) = some r := by rw [if_pos rfl] at H; exact H
  clear H
  have H := H1
  clear H1
  have H' := am H
  clear H
  go_enter Tryd.func39, Tryd.ntmps39
  go_wp2_with (first | (go_at_call 45; (with_reducible refine (impl_SingOk.calls k _ _ l0 _ _ l1 true _ ?side1 ?side2 ?side3 ?side4 ?side5 A3.out).mono ?_); (case side1 => exact cu HR0.out); (case side2 => exact HC0.out); (case side3 => exact cu HR1.out); (case side4 => exact HC1.out); (case side5 => first | exact HTL.out | exact TabAt.below HTL.out (bu HB.out)); rintro e w5 ⟨rfl, hb⟩; have n0_ := am (below_step (bu HB.out) hb); clear HB; have HB := n0_; clear n0_; (try clear hb); (try clear hb2); (try clear hk); (try clear hi)))
  repeat (go_quiet (first | (go_at_call 45; (with_reducible refine (impl_SingOk.calls k _ _ l0 _ _ l1 true _ ?side1 ?side2 ?side3 ?side4 ?side5 A3.out).mono ?_); (case side1 => exact cu HR0.out); (case side2 => exact HC0.out); (case side3 => exact cu HR1.out); (case side4 => exact HC1.out); (case side5 => first | exact HTL.out | exact TabAt.below HTL.out (bu HB.out)); rintro e w5 ⟨rfl, hb⟩; have n0_ := am (below_step (bu HB.out) hb); clear HB; have HB := n0_; clear n0_; (try clear hb); (try clear hb2); (try clear hk); (try clear hi))); try go_wp2_with (first | (go_at_call 45; (with_reducible refine (impl_SingOk.calls k _ _ l0 _ _ l1 true _ ?side1 ?side2 ?side3 ?side4 ?side5 A3.out).mono ?_); (case side1 => exact cu HR0.out); (case side2 => exact HC0.out); (case side3 => exact cu HR1.out); (case side4 => exact HC1.out); (case side5 => first | exact HTL.out | exact TabAt.below HTL.out (bu HB.out)); rintro e w5 ⟨rfl, hb⟩; have n0_ := am (below_step (bu HB.out) hb); clear HB; have HB := n0_; clear n0_; (try clear hb); (try clear hb2); (try clear hk); (try clear hi))))
  go_loopg [5, 6] k (fun kq v5 v6 w' => ∃ (x5_1 : Int) (x6_1 : Int), v5 = .int .i64 x5_1 ∧ v6 = .int .i64 x6_1 ∧ Aside0 (impl_SingMutations.l0 kq l1 x5_1 x6_1 = some r) ∧ Aside0 (kq ≤ k) ∧ Aside0 (Below w.heap.size w w'))
  case atStart => exact ⟨(0), (1), (by first | rfl | (simp; done) | (simp [*]; done)), (by first | rfl | (simp; done) | (simp [*]; done)), H', ⟨Nat.le_refl _⟩, ⟨bu HB.out⟩⟩
  case round =>
   clear H'
   try clear c1
   try clear p2
   try clear c3
   try clear c4
   obtain ⟨x5_1, x6_1, rfl, rfl, HA, HK1, HB⟩ := hrel
   cases gk with
   | zero => exact absurd HA.out (by simp [impl_SingMutations.l0])
   | succ k1 =>
    have H := HA.out
    clear HA
    simp only [impl_SingMutations.l0] at H
    by_cases c6 : x6_1 < (l1.length : Int)
    ·rw [if_pos c6] at H
     have c6b0 : decide (x6_1 < (l1.length : Int)) = true := decide_eq_true c6
     clear c6
     by_cases c7 : 0 ≤ x6_1
     ·rw [if_pos c7] at H
      have c7b0 : decide (0 ≤ x6_1) = true := decide_eq_true c7
      clear c7
      obtain ⟨ji8, hji8⟩ : ∃ j_ : Int, (wrap64 (x6_1 - 1)) = j_ := ⟨_, rfl⟩
      replace H : (if 0 ≤ (ji8) then (if (ji8) < (l1.length : Int) then (if (rd l1 x6_1) = (rd l1 (ji8)) then (impl_SingMutations.l0 k1 l1 x5_1 (wrap64 (x6_1 + 1))) else (impl_SingMutations.l0 k1 l1 (wrap64 (x5_1 + 1)) (wrap64 (x6_1 + 1)))) else (none)) else (none)) = some r := by first | (rw [hji8] at H; exact H) | (simp only [hji8] at H ⊢; exact H)
      have hji8w : (IntKind.i64.wrap (x6_1 - 1)) = ji8 := (i64_w _).trans hji8
      by_cases c9 : 0 ≤ (ji8)
      ·rw [if_pos c9] at H
       have c9b0 : decide (0 ≤ (ji8)) = true := decide_eq_true c9
       clear c9
       by_cases c10 : (ji8) < (l1.length : Int)
       ·rw [if_pos c10] at H
        have c10b0 : decide ((ji8) < (l1.length : Int)) = true := decide_eq_true c10
        clear c10
        by_cases c11 : (rd l1 x6_1) = (rd l1 (ji8))
        ·rw [if_pos c11] at H
         have c11b0 : ((rd l1 x6_1) == (rd l1 (ji8))) = true := beq_iff_eq.mpr c11
         have c11b1 : ((rd l1 x6_1) != (rd l1 (ji8))) = false := bne_eq_false_iff_eq.mpr c11
         clear c11
         have H' := am H
         clear H
         have p258 : 0 ≤ (x6_1 : Int) := od
         have q258 : x6_1 < (l1.length : Int) := od
         obtain ⟨ad258, e258, hx258_0⟩ := Kd.at_int HR1.out x6_1 p258 q258
         cases e258
         replace hx258_0 := (HB.out.cell (World.block_lt_of_cell? w _ hx258_0)).trans hx258_0
         replace p258 := eq_true p258
         replace q258 := eq_true q258
         have p259 : 0 ≤ ((ji8) : Int) := od
         have q259 : (ji8) < (l1.length : Int) := od
         obtain ⟨ad259, e259, hx259_0⟩ := Kd.at_int HR1.out (ji8) p259 q259
         obtain rfl : ad258 = ad259 := (by injection e259)
         replace hx259_0 := (HB.out.cell (World.block_lt_of_cell? w _ hx259_0)).trans hx259_0
         replace p259 := eq_true p259
         replace q259 := eq_true q259
         go_wp2
         repeat (go_quiet (fail); try go_wp2)
         go_roundg k1
         case measure => have := HK1.out; omega
         case rel => exact ⟨(x5_1), (wrap64 (x6_1 + 1)), (by first | rfl | (simp; done) | (simp [*]; done)), (by first | rfl | (simp; done) | (simp [*]; done)), H', ⟨by have := HK1.out; omega⟩, ⟨bu HB.out⟩⟩
        ·rw [if_neg c11] at H
         have c11b0 : ((rd l1 x6_1) == (rd l1 (ji8))) = false := beq_eq_false_iff_ne.mpr c11
         have c11b1 : ((rd l1 x6_1) != (rd l1 (ji8))) = true := bne_iff_ne.mpr c11
         have H' := am H
         clear H
         have p258 : 0 ≤ (x6_1 : Int) := od
         have q258 : x6_1 < (l1.length : Int) := od
         obtain ⟨ad258, e258, hx258_0⟩ := Kd.at_int HR1.out x6_1 p258 q258
         cases e258
         replace hx258_0 := (HB.out.cell (World.block_lt_of_cell? w _ hx258_0)).trans hx258_0
         replace p258 := eq_true p258
         replace q258 := eq_true q258
         have p259 : 0 ≤ ((ji8) : Int) := od
         have q259 : (ji8) < (l1.length : Int) := od
         obtain ⟨ad259, e259, hx259_0⟩ := Kd.at_int HR1.out (ji8) p259 q259
         obtain rfl : ad258 = ad259 := (by injection e259)
         replace hx259_0 := (HB.out.cell (World.block_lt_of_cell? w _ hx259_0)).trans hx259_0
         replace p259 := eq_true p259
         replace q259 := eq_true q259
         go_wp2
         repeat (go_quiet (fail); try go_wp2)
         go_roundg k1
         case measure => have := HK1.out; omega
         case rel => exact ⟨(wrap64 (x5_1 + 1)), (wrap64 (x6_1 + 1)), (by first | rfl | (simp; done) | (simp [*]; done)), (by first | rfl | (simp; done) | (simp [*]; done)), H', ⟨by have := HK1.out; omega⟩, ⟨bu HB.out⟩⟩
       ·rw [if_neg c10] at H
        exact absurd H (by simp)
      ·rw [if_neg c9] at H
       exact absurd H (by simp)
     ·rw [if_neg c7] at H
      exact absurd H (by simp)
    ·rw [if_neg c6] at H
     have c6b0 : decide (x6_1 < (l1.length : Int)) = false := decide_eq_false c6
     clear c6
     obtain rfl := Option.some.inj H
     go_wp2
     repeat (go_quiet (fail); try go_wp2)
     go_ret
     exact ⟨by first | rfl | (simp [errW_none, errW_some] <;> rfl) | (simp [*, errW_none, errW_some] <;> rfl), bu HB.out⟩
 ·replace c4 := Bool.eq_false_iff.mpr c4
  subst c4
  have H1 : (some (-1)) = some r := by rw [if_neg (show ¬ (false = true) by decide)] at H; exact H
  clear H
  have H := H1
  clear H1
  obtain rfl := Option.some.inj H
  go_enter Tryd.func39, Tryd.ntmps39
  go_wp2_with (first | (go_at_call 45; (with_reducible refine (impl_SingOk.calls k _ _ l0 _ _ l1 false _ ?side1 ?side2 ?side3 ?side4 ?side5 A3.out).mono ?_); (case side1 => exact cu HR0.out); (case side2 => exact HC0.out); (case side3 => exact cu HR1.out); (case side4 => exact HC1.out); (case side5 => first | exact HTL.out | exact TabAt.below HTL.out (bu HB.out)); rintro e w12 ⟨rfl, hb⟩; have n0_ := am (below_step (bu HB.out) hb); clear HB; have HB := n0_; clear n0_; (try clear hb); (try clear hb2); (try clear hk); (try clear hi)))
  repeat (go_quiet (first | (go_at_call 45; (with_reducible refine (impl_SingOk.calls k _ _ l0 _ _ l1 false _ ?side1 ?side2 ?side3 ?side4 ?side5 A3.out).mono ?_); (case side1 => exact cu HR0.out); (case side2 => exact HC0.out); (case side3 => exact cu HR1.out); (case side4 => exact HC1.out); (case side5 => first | exact HTL.out | exact TabAt.below HTL.out (bu HB.out)); rintro e w12 ⟨rfl, hb⟩; have n0_ := am (below_step (bu HB.out) hb); clear HB; have HB := n0_; clear n0_; (try clear hb); (try clear hb2); (try clear hk); (try clear hi))); try go_wp2_with (first | (go_at_call 45; (with_reducible refine (impl_SingOk.calls k _ _ l0 _ _ l1 false _ ?side1 ?side2 ?side3 ?side4 ?side5 A3.out).mono ?_); (case side1 => exact cu HR0.out); (case side2 => exact HC0.out); (case side3 => exact cu HR1.out); (case side4 => exact HC1.out); (case side5 => first | exact HTL.out | exact TabAt.below HTL.out (bu HB.out)); rintro e w12 ⟨rfl, hb⟩; have n0_ := am (below_step (bu HB.out) hb); clear HB; have HB := n0_; clear n0_; (try clear hb); (try clear hb2); (try clear hk); (try clear hi))))
  go_ret
  exact ⟨by first | rfl | (simp [errW_none, errW_some] <;> rfl) | (simp [*, errW_none, errW_some] <;> rfl), bu HB.out⟩

/-! ### laws_FnSingFew: function 8 -/
mutual
def laws_FnSingFew.j0 : Nat → List (S30) → List Int → Bool → List Int → Bool → Bool → Option (Bool)
 | 0, _, _, _, _, _, _ => none
 | k + 1, x3, x4, x5, x6, x7, x44 => if x44 = true then (if (x5 == x7) = true then ((laws_sameInts.f k x4 x6).bind fun t272 => (some t272)) else (some false)) else (laws_FnSingFew.l0 k x3 x4 ((x3.length : Int) == 0) 0)
def laws_FnSingFew.l0 : Nat → List (S30) → List Int → Bool → Int → Option (Bool)
 | 0, _, _, _, _ => none
 | k + 1, x3, x4, x8, x9 => if x9 ≤ 20 then (laws_FnSingFew.l1 k x3 x4 x8 x9 (decide ((x3.length : Int) > 0)) 0) else (laws_FnSingFew.l2 k x3 x4 x8 0 0)
def laws_FnSingFew.l1 : Nat → List (S30) → List Int → Bool → Int → Bool → Int → Option (Bool)
 | 0, _, _, _, _, _, _ => none
 | k + 1, x3, x4, x8, x9, x10, x11 => if x11 < (x3.length : Int) then (if x10 = true then (if 0 ≤ x11 then ((impl_HexSyllable.f x9 ((rd_T30 x3 x11).f0) ((rd_T30 x3 x11).f1)).bind fun t274 => (laws_FnSingFew.l1 k x3 x4 x8 x9 (decide (t274 ≥ 0)) (wrap64 (x11 + 1)))) else (none)) else (laws_FnSingFew.l1 k x3 x4 x8 x9 false (wrap64 (x11 + 1)))) else (if x8 = true then (laws_FnSingFew.l0 k x3 x4 true (wrap64 (x9 + 1))) else (laws_FnSingFew.l0 k x3 x4 x10 (wrap64 (x9 + 1))))
def laws_FnSingFew.l2 : Nat → List (S30) → List Int → Bool → Int → Int → Option (Bool)
 | 0, _, _, _, _, _ => none
 | k + 1, x3, x4, x8, x12, x13 => if x13 < (x4.length : Int) then (laws_FnSingFew.l3 k x3 x4 x8 x12 x13 true 0) else ((impl_SingMutations.f k x3 x4).bind fun t275 => (if ((t275 == 0) == x8) = true then (some (decide (t275 ≥ (wrap64 (x12 - 1))))) else (some false)))
def laws_FnSingFew.l3 : Nat → List (S30) → List Int → Bool → Int → Int → Bool → Int → Option (Bool)
 | 0, _, _, _, _, _, _, _ => none
 | k + 1, x3, x4, x8, x12, x13, x14, x15 => if x15 < x13 then (if x14 = true then (if 0 ≤ x15 then (if x15 < (x4.length : Int) then (if 0 ≤ x13 then (if x13 < (x4.length : Int) then (laws_FnSingFew.l3 k x3 x4 x8 x12 x13 ((rd x4 x15) != (rd x4 x13)) (wrap64 (x15 + 1))) else (none)) else (none)) else (none)) else (none)) else (laws_FnSingFew.l3 k x3 x4 x8 x12 x13 false (wrap64 (x15 + 1)))) else (if x14 = true then (laws_FnSingFew.l2 k x3 x4 x8 (wrap64 (x12 + 1)) (wrap64 (x13 + 1))) else (laws_FnSingFew.l2 k x3 x4 x8 x12 (wrap64 (x13 + 1))))
end
def laws_FnSingFew.f (k : Nat) (l0 : List Int) : Option (Bool) := if (l0.length : Int) > 1048576 then (some true) else ((spec_DrawSingBest.f k l0).bind fun t260 => ((impl_SingBest.f k t260).bind fun bt263 => ((spec_SingBest.f k t260).bind fun bt267 => (if (bt263.2 != bt267.2) = true then (laws_FnSingFew.j0 k t260 bt263.1 bt263.2 bt267.1 bt267.2 true) else ((laws_sameInts.f k bt263.1 bt267.1).bind fun t271 => (if t271 = true then (laws_FnSingFew.j0 k t260 bt263.1 bt263.2 bt267.1 bt267.2 (!bt263.2)) else (laws_FnSingFew.j0 k t260 bt263.1 bt263.2 bt267.1 bt267.2 true)))))))
set_option maxHeartbeats 8000000 in
set_option maxRecDepth 100000 in
theorem laws_FnSingFew.calls (k : Nat) (A0 : Option Addr) (c0 : Nat) (l0 : List Int) (r : Bool) (w : World) (hr0 : Kd.C (Kd.int .u8) w A0 l0.length l0) (hc0 : l0.length ≤ c0) (hTL : TabL w) (h : laws_FnSingFew.f k l0 = some r) :
  Calls Tryd.prog 8 #[.slice A0 l0.length c0] w fun e w' => e = .returned (.bool r) ∧ Below w.heap.size w w' := by
 have hu30 := Tryd.underlying30
 have HTL := am hTL
 clear hTL
 have HR0 := am hr0
 have HC0 := am hc0
 clear hr0 hc0
 have HB := am (Below.refl w.heap.size w)
 have H : (if (l0.length : Int) > 1048576 then (some true) else ((spec_DrawSingBest.f k l0).bind fun t260 => ((impl_SingBest.f k t260).bind fun bt263 => ((spec_SingBest.f k t260).bind fun bt267 => (if (bt263.2 != bt267.2) = true then (laws_FnSingFew.j0 k t260 bt263.1 bt263.2 bt267.1 bt267.2 true) else ((laws_sameInts.f k bt263.1 bt267.1).bind fun t271 => (if t271 = true then (laws_FnSingFew.j0 k t260 bt263.1 bt263.2 bt267.1 bt267.2 (!bt263.2)) else (laws_FnSingFew.j0 k t260 bt263.1 bt263.2 bt267.1 bt267.2 true)))))))) = some r := h
 clear h
 by_cases c2 : (l0.length : Int) > 1048576
 ·rw [if_pos c2] at H
  have c2b0 : decide (1048576 < (l0.length : Int)) = true := decide_eq_true c2
  have c2b1 : decide (1048576 < l0.length) = true := decide_eq_true (by omega)
  clear c2
  obtain rfl := Option.some.inj H
  go_enter Tryd.func8, Tryd.ntmps8
  go_wp2
  repeat (go_quiet (fail); try go_wp2)
  go_ret
  exact ⟨by first | rfl | (simp [errW_none, errW_some] <;> rfl) | (simp [*, errW_none, errW_some] <;> rfl), bu HB.out⟩
 ·rw [if_neg c2] at H
  have c2b0 : decide (1048576 < (l0.length : Int)) = false := decide_eq_false c2
  have c2b1 : decide (1048576 < l0.length) = false := decide_eq_false (by omega)
  clear c2
  replace H := Option.bind_eq_some_iff.mp H
  obtain ⟨t260, A30, H⟩ := H
  replace H : ((impl_SingBest.f k t260).bind fun bt263 => ((spec_SingBest.f k t260).bind fun bt267 => (if (bt263.2 != bt267.2) = true then (laws_FnSingFew.j0 k t260 bt263.1 bt263.2 bt267.1 bt267.2 true) else ((laws_sameInts.f k bt263.1 bt267.1).bind fun t271 => (if t271 = true then (laws_FnSingFew.j0 k t260 bt263.1 bt263.2 bt267.1 bt267.2 (!bt263.2)) else (laws_FnSingFew.j0 k t260 bt263.1 bt263.2 bt267.1 bt267.2 true)))))) = some r := H
  have A3 := am A30
  clear A30
  replace H := Option.bind_eq_some_iff.mp H
  obtain ⟨⟨t263, t264⟩, A40, H⟩ := H
  replace H : ((spec_SingBest.f k t260).bind fun bt267 => (if (t264 != bt267.2) = true then (laws_FnSingFew.j0 k t260 t263 t264 bt267.1 bt267.2 true) else ((laws_sameInts.f k t263 bt267.1).bind fun t271 => (if t271 = true then (laws_FnSingFew.j0 k t260 t263 t264 bt267.1 bt267.2 (!t264)) else (laws_FnSingFew.j0 k t260 t263 t264 bt267.1 bt267.2 true))))) = some r := H
  have A4 := am A40
  clear A40
  replace H := Option.bind_eq_some_iff.mp H
  obtain ⟨⟨t267, t268⟩, A50, H⟩ := H
  replace H : (if (t264 != t268) = true then (laws_FnSingFew.j0 k t260 t263 t264 t267 t268 true) else ((laws_sameInts.f k t263 t267).bind fun t271 => (if t271 = true then (laws_FnSingFew.j0 k t260 t263 t264 t267 t268 (!t264)) else (laws_FnSingFew.j0 k t260 t263 t264 t267 t268 true)))) = some r := H
  have A5 := am A50
  clear A50
  have HC6 := am H
  clear H
  go_enter Tryd.func8, Tryd.ntmps8
  go_upto_region 6 with (first | (go_at_call 36; (with_reducible refine (spec_DrawSingBest.calls k _ _ l0 t260 _ ?side1 ?side2 A3.out).mono ?_); (case side1 => exact cu HR0.out); (case side2 => exact HC0.out); rintro e w7 ⟨v261, rfl, ho0, hb⟩; have n0_ := am (Kd.R_lower ho0 (below_size (bu HB.out))); have n1_ := am (below_step (bu HB.out) hb); clear HB; have HO262 := n0_; have HB := n1_; clear n0_ n1_; (try clear hb); (try clear hb2); (try clear hk); (try clear hi); (try clear ho0); obtain ⟨Ao8, co8, eo8⟩ := Kd.R_slice HO262.out; subst eo8) | (go_at_call 37; (with_reducible refine (impl_SingBest.calls k _ _ t260 t263 t264 _ ?side1 ?side2 ?side3 A4.out).mono ?_); (case side1 => exact cu (Kd.R_reads' HO262.out).2.2); (case side2 => exact (Kd.R_reads' HO262.out).2.1); (case side3 => first | exact HTL.out | exact TabAt.below HTL.out (bu HB.out)); rintro e w9 ⟨v265, rfl, ho0, hb⟩; have n0_ := am (Kd.R_below (ru HO262.out) hb); have n1_ := am (Kd.R_lower ho0 (below_size (bu HB.out))); have n2_ := am (below_step (bu HB.out) hb); clear HO262; clear HB; have HO262 := n0_; have HO266 := n1_; have HB := n2_; clear n0_ n1_ n2_; (try clear hb); (try clear hb2); (try clear hk); (try clear hi); (try clear ho0)) | (go_at_call 38; (with_reducible refine (spec_SingBest.calls k _ _ t260 t267 t268 _ ?side1 ?side2 A5.out).mono ?_); (case side1 => exact cu (Kd.R_reads' HO262.out).2.2); (case side2 => exact (Kd.R_reads' HO262.out).2.1); rintro e w10 ⟨v269, rfl, ho0, hb⟩; have n0_ := am (Kd.R_below (ru HO262.out) hb); have n1_ := am (Kd.R_elder' (ru HO266.out) (Kd.R_base ho0) hb); have n2_ := am (Kd.R_lower (Kd.R_new' ho0 (Kd.R_lt (ru HO266.out))) (below_size (bu HB.out))); have n3_ := am (below_step (bu HB.out) hb); clear HO262; clear HO266; clear HB; have HO262 := n0_; have HO266 := n1_; have HO270 := n2_; have HB := n3_; clear n0_ n1_ n2_ n3_; (try clear hb); (try clear hb2); (try clear hk); (try clear hi); (try clear ho0)))
  repeat (go_quiet (first | (go_at_call 36; (with_reducible refine (spec_DrawSingBest.calls k _ _ l0 t260 _ ?side1 ?side2 A3.out).mono ?_); (case side1 => exact cu HR0.out); (case side2 => exact HC0.out); rintro e w7 ⟨v261, rfl, ho0, hb⟩; have n0_ := am (Kd.R_lower ho0 (below_size (bu HB.out))); have n1_ := am (below_step (bu HB.out) hb); clear HB; have HO262 := n0_; have HB := n1_; clear n0_ n1_; (try clear hb); (try clear hb2); (try clear hk); (try clear hi); (try clear ho0); obtain ⟨Ao8, co8, eo8⟩ := Kd.R_slice HO262.out; subst eo8) | (go_at_call 37; (with_reducible refine (impl_SingBest.calls k _ _ t260 t263 t264 _ ?side1 ?side2 ?side3 A4.out).mono ?_); (case side1 => exact cu (Kd.R_reads' HO262.out).2.2); (case side2 => exact (Kd.R_reads' HO262.out).2.1); (case side3 => first | exact HTL.out | exact TabAt.below HTL.out (bu HB.out)); rintro e w9 ⟨v265, rfl, ho0, hb⟩; have n0_ := am (Kd.R_below (ru HO262.out) hb); have n1_ := am (Kd.R_lower ho0 (below_size (bu HB.out))); have n2_ := am (below_step (bu HB.out) hb); clear HO262; clear HB; have HO262 := n0_; have HO266 := n1_; have HB := n2_; clear n0_ n1_ n2_; (try clear hb); (try clear hb2); (try clear hk); (try clear hi); (try clear ho0)) | (go_at_call 38; (with_reducible refine (spec_SingBest.calls k _ _ t260 t267 t268 _ ?side1 ?side2 A5.out).mono ?_); (case side1 => exact cu (Kd.R_reads' HO262.out).2.2); (case side2 => exact (Kd.R_reads' HO262.out).2.1); rintro e w10 ⟨v269, rfl, ho0, hb⟩; have n0_ := am (Kd.R_below (ru HO262.out) hb); have n1_ := am (Kd.R_elder' (ru HO266.out) (Kd.R_base ho0) hb); have n2_ := am (Kd.R_lower (Kd.R_new' ho0 (Kd.R_lt (ru HO266.out))) (below_size (bu HB.out))); have n3_ := am (below_step (bu HB.out) hb); clear HO262; clear HO266; clear HB; have HO262 := n0_; have HO266 := n1_; have HO270 := n2_; have HB := n3_; clear n0_ n1_ n2_ n3_; (try clear hb); (try clear hb2); (try clear hk); (try clear hi); (try clear ho0))); go_upto_region 6 with (first | (go_at_call 36; (with_reducible refine (spec_DrawSingBest.calls k _ _ l0 t260 _ ?side1 ?side2 A3.out).mono ?_); (case side1 => exact cu HR0.out); (case side2 => exact HC0.out); rintro e w7 ⟨v261, rfl, ho0, hb⟩; have n0_ := am (Kd.R_lower ho0 (below_size (bu HB.out))); have n1_ := am (below_step (bu HB.out) hb); clear HB; have HO262 := n0_; have HB := n1_; clear n0_ n1_; (try clear hb); (try clear hb2); (try clear hk); (try clear hi); (try clear ho0); obtain ⟨Ao8, co8, eo8⟩ := Kd.R_slice HO262.out; subst eo8) | (go_at_call 37; (with_reducible refine (impl_SingBest.calls k _ _ t260 t263 t264 _ ?side1 ?side2 ?side3 A4.out).mono ?_); (case side1 => exact cu (Kd.R_reads' HO262.out).2.2); (case side2 => exact (Kd.R_reads' HO262.out).2.1); (case side3 => first | exact HTL.out | exact TabAt.below HTL.out (bu HB.out)); rintro e w9 ⟨v265, rfl, ho0, hb⟩; have n0_ := am (Kd.R_below (ru HO262.out) hb); have n1_ := am (Kd.R_lower ho0 (below_size (bu HB.out))); have n2_ := am (below_step (bu HB.out) hb); clear HO262; clear HB; have HO262 := n0_; have HO266 := n1_; have HB := n2_; clear n0_ n1_ n2_; (try clear hb); (try clear hb2); (try clear hk); (try clear hi); (try clear ho0)) | (go_at_call 38; (with_reducible refine (spec_SingBest.calls k _ _ t260 t267 t268 _ ?side1 ?side2 A5.out).mono ?_); (case side1 => exact cu (Kd.R_reads' HO262.out).2.2); (case side2 => exact (Kd.R_reads' HO262.out).2.1); rintro e w10 ⟨v269, rfl, ho0, hb⟩; have n0_ := am (Kd.R_below (ru HO262.out) hb); have n1_ := am (Kd.R_elder' (ru HO266.out) (Kd.R_base ho0) hb); have n2_ := am (Kd.R_lower (Kd.R_new' ho0 (Kd.R_lt (ru HO266.out))) (below_size (bu HB.out))); have n3_ := am (below_step (bu HB.out) hb); clear HO262; clear HO266; clear HB; have HO262 := n0_; have HO266 := n1_; have HO270 := n2_; have HB := n3_; clear n0_ n1_ n2_ n3_; (try clear hb); (try clear hb2); (try clear hk); (try clear hi); (try clear ho0))))
  (try simp only [Act.put, sA, sZ, sS])
  go_cut [44] (fun v44 wc => ∃ (kq : Nat) (x44_5 : Bool), v44 = .bool x44_5 ∧ Aside0 (laws_FnSingFew.j0 kq t260 t263 t264 t267 t268 x44_5 = some r) ∧ Aside0 (kq ≤ k) ∧ Aside0 (Kd.R k30 30 wc w.heap.size (fun _ => True) (.slice Ao8 t260.length co8) t260) ∧ Aside0 (Kd.R (Kd.int .i64) 3 wc w.heap.size (fun k_ => some k_ ≠ (v269 : Value).ownBlock) v265 t263) ∧ Aside0 (Kd.R (Kd.int .i64) 3 wc w.heap.size (fun k_ => some k_ ≠ (v265 : Value).ownBlock) v269 t267) ∧ Aside0 (Below w.heap.size w wc))
  case first =>
   have H := HC6.out
   clear HC6
   by_cases c11 : (t264 != t268) = true
   ·rw [if_pos c11] at H
    have c11b0 : (t264 != t268) = true := c11
    (try (have c11b1 : decide (t264 = t268) = false := by simpa using c11))
    (try (have c11b2 : (t264 == t268) = false := by simpa using c11))
    (try (have c11b3 : ¬ (t264 = t268) := by simpa using c11))
    clear c11
    (first | rw [c11b0] | (simp only [i64_w, i32_w]; rw [c11b0]) | skip)
    have H' := am H
    clear H
    go_wp2
    repeat (go_quiet (fail); try go_wp2)
    go_meet
    case rel => exact ⟨_, (true), (by first | rfl | (simp; done) | (simp [*]; done)), H', ⟨by first | omega | exact Nat.le_refl _⟩, ⟨ru HO262.out⟩, ⟨by (with_reducible repeat (first | apply Kd.R_alloc | apply Kd.R_drewN | apply Kd.R_drew)); exact Kd.R_mono HO266.out (fun _ hk => hk.2)⟩, ⟨by (with_reducible repeat (first | apply Kd.R_alloc | apply Kd.R_drewN | apply Kd.R_drew)); exact Kd.R_mono HO270.out (fun _ hk => hk.2)⟩, ⟨bu HB.out⟩⟩
   ·rw [if_neg c11] at H
    have c11b0 : (t264 != t268) = false := by simpa using c11
    (try (have c11b1 : decide (t264 = t268) = true := by simpa using c11))
    (try (have c11b2 : (t264 == t268) = true := by simpa using c11))
    clear c11
    (first | rw [c11b0] | (simp only [i64_w, i32_w]; rw [c11b0]) | skip)
    replace H := Option.bind_eq_some_iff.mp H
    obtain ⟨t271, A120, H⟩ := H
    replace H : (if t271 = true then (laws_FnSingFew.j0 k t260 t263 t264 t267 t268 (!t264)) else (laws_FnSingFew.j0 k t260 t263 t264 t267 t268 true)) = some r := H
    have A12 := am A120
    clear A120
    by_cases c13 : t271 = true
    ·subst c13
     have H1 : (laws_FnSingFew.j0 k t260 t263 t264 t267 t268 (!t264)) = some r := by rw [if_pos rfl] at H; exact H
     clear H
     have H := H1
     clear H1
     have H' := am H
     clear H
     obtain ⟨Ao14, co14, eo14⟩ := Kd.R_slice HO266.out
     subst eo14
     obtain ⟨Ao15, co15, eo15⟩ := Kd.R_slice HO270.out
     subst eo15
     go_wp2_with (first | (go_at_call 17; (with_reducible refine (laws_sameInts.calls k _ _ t263 _ _ t267 true _ ?side1 ?side2 ?side3 ?side4 A12.out).mono ?_); (case side1 => exact cu (Kd.R_reads' HO266.out).2.2); (case side2 => exact (Kd.R_reads' HO266.out).2.1); (case side3 => exact cu (Kd.R_reads' HO270.out).2.2); (case side4 => exact (Kd.R_reads' HO270.out).2.1); rintro e w' ⟨rfl, ⟨nd, rfl⟩⟩; (try first | exact ⟨rfl, _, World.drewN_drewN _ _ _⟩ | exact ⟨rfl, _, Eq.trans (World.drewN_drewN _ _ _) (congrArg (World.drewN _) (Nat.add_assoc _ _ _))⟩)))
     repeat (go_quiet (first | (go_at_call 17; (with_reducible refine (laws_sameInts.calls k _ _ t263 _ _ t267 true _ ?side1 ?side2 ?side3 ?side4 A12.out).mono ?_); (case side1 => exact cu (Kd.R_reads' HO266.out).2.2); (case side2 => exact (Kd.R_reads' HO266.out).2.1); (case side3 => exact cu (Kd.R_reads' HO270.out).2.2); (case side4 => exact (Kd.R_reads' HO270.out).2.1); rintro e w' ⟨rfl, ⟨nd, rfl⟩⟩; (try first | exact ⟨rfl, _, World.drewN_drewN _ _ _⟩ | exact ⟨rfl, _, Eq.trans (World.drewN_drewN _ _ _) (congrArg (World.drewN _) (Nat.add_assoc _ _ _))⟩))); try go_wp2_with (first | (go_at_call 17; (with_reducible refine (laws_sameInts.calls k _ _ t263 _ _ t267 true _ ?side1 ?side2 ?side3 ?side4 A12.out).mono ?_); (case side1 => exact cu (Kd.R_reads' HO266.out).2.2); (case side2 => exact (Kd.R_reads' HO266.out).2.1); (case side3 => exact cu (Kd.R_reads' HO270.out).2.2); (case side4 => exact (Kd.R_reads' HO270.out).2.1); rintro e w' ⟨rfl, ⟨nd, rfl⟩⟩; (try first | exact ⟨rfl, _, World.drewN_drewN _ _ _⟩ | exact ⟨rfl, _, Eq.trans (World.drewN_drewN _ _ _) (congrArg (World.drewN _) (Nat.add_assoc _ _ _))⟩))))
     go_meet
     case rel => exact ⟨_, (!t264), (by first | rfl | (simp; done) | (simp [*]; done)), H', ⟨by first | omega | exact Nat.le_refl _⟩, ⟨ru HO262.out⟩, ⟨by (with_reducible repeat (first | apply Kd.R_alloc | apply Kd.R_drewN | apply Kd.R_drew)); exact Kd.R_mono HO266.out (fun _ hk => hk.2)⟩, ⟨by (with_reducible repeat (first | apply Kd.R_alloc | apply Kd.R_drewN | apply Kd.R_drew)); exact Kd.R_mono HO270.out (fun _ hk => hk.2)⟩, ⟨bu HB.out⟩⟩
    ·replace c13 := Bool.eq_false_iff.mpr c13
     subst c13
     have H1 : (laws_FnSingFew.j0 k t260 t263 t264 t267 t268 true) = some r := by rw [if_neg (show ¬ (false = true) by decide)] at H; exact H
     clear H
     have H := H1
     clear H1
     have H' := am H
     clear H
     obtain ⟨Ao16, co16, eo16⟩ := Kd.R_slice HO266.out
     subst eo16
     obtain ⟨Ao17, co17, eo17⟩ := Kd.R_slice HO270.out
     subst eo17
     go_wp2_with (first | (go_at_call 17; (with_reducible refine (laws_sameInts.calls k _ _ t263 _ _ t267 false _ ?side1 ?side2 ?side3 ?side4 A12.out).mono ?_); (case side1 => exact cu (Kd.R_reads' HO266.out).2.2); (case side2 => exact (Kd.R_reads' HO266.out).2.1); (case side3 => exact cu (Kd.R_reads' HO270.out).2.2); (case side4 => exact (Kd.R_reads' HO270.out).2.1); rintro e w' ⟨rfl, ⟨nd, rfl⟩⟩; (try first | exact ⟨rfl, _, World.drewN_drewN _ _ _⟩ | exact ⟨rfl, _, Eq.trans (World.drewN_drewN _ _ _) (congrArg (World.drewN _) (Nat.add_assoc _ _ _))⟩)))
     repeat (go_quiet (first | (go_at_call 17; (with_reducible refine (laws_sameInts.calls k _ _ t263 _ _ t267 false _ ?side1 ?side2 ?side3 ?side4 A12.out).mono ?_); (case side1 => exact cu (Kd.R_reads' HO266.out).2.2); (case side2 => exact (Kd.R_reads' HO266.out).2.1); (case side3 => exact cu (Kd.R_reads' HO270.out).2.2); (case side4 => exact (Kd.R_reads' HO270.out).2.1); rintro e w' ⟨rfl, ⟨nd, rfl⟩⟩; (try first | exact ⟨rfl, _, World.drewN_drewN _ _ _⟩ | exact ⟨rfl, _, Eq.trans (World.drewN_drewN _ _ _) (congrArg (World.drewN _) (Nat.add_assoc _ _ _))⟩))); try go_wp2_with (first | (go_at_call 17; (with_reducible refine (laws_sameInts.calls k _ _ t263 _ _ t267 false _ ?side1 ?side2 ?side3 ?side4 A12.out).mono ?_); (case side1 => exact cu (Kd.R_reads' HO266.out).2.2); (case side2 => exact (Kd.R_reads' HO266.out).2.1); (case side3 => exact cu (Kd.R_reads' HO270.out).2.2); (case side4 => exact (Kd.R_reads' HO270.out).2.1); rintro e w' ⟨rfl, ⟨nd, rfl⟩⟩; (try first | exact ⟨rfl, _, World.drewN_drewN _ _ _⟩ | exact ⟨rfl, _, Eq.trans (World.drewN_drewN _ _ _) (congrArg (World.drewN _) (Nat.add_assoc _ _ _))⟩))))
     go_meet
     case rel => exact ⟨_, (true), (by first | rfl | (simp; done) | (simp [*]; done)), H', ⟨by first | omega | exact Nat.le_refl _⟩, ⟨ru HO262.out⟩, ⟨by (with_reducible repeat (first | apply Kd.R_alloc | apply Kd.R_drewN | apply Kd.R_drew)); exact Kd.R_mono HO266.out (fun _ hk => hk.2)⟩, ⟨by (with_reducible repeat (first | apply Kd.R_alloc | apply Kd.R_drewN | apply Kd.R_drew)); exact Kd.R_mono HO270.out (fun _ hk => hk.2)⟩, ⟨bu HB.out⟩⟩
  case rest =>
   clear HC6
   try clear c1
   try clear c2
   try clear c2b0
   try clear c2b1
   try clear p2
   try clear c8
   try clear c11
   try clear c11b0
   try clear c11b1
   try clear c11b2
   try clear c13
   obtain ⟨kq, x44_5, rfl, HA, HJ5, HO_3, HO_4, HO_6, HB⟩ := hcut
   cases kq with
   | zero => exact absurd HA.out (by simp [laws_FnSingFew.j0])
   | succ kj5 =>
    have H := HA.out
    clear HA
    simp only [laws_FnSingFew.j0] at H
    by_cases c18 : x44_5 = true
    ·subst c18
     have H1 : (if (t264 == t268) = true then ((laws_sameInts.f kj5 t263 t267).bind fun t272 => (some t272)) else (some false)) = some r := by rw [if_pos rfl] at H; exact H
     clear H
     have H := H1
     clear H1
     by_cases c19 : (t264 == t268) = true
     ·rw [if_pos c19] at H
      have c19b0 : (t264 == t268) = true := c19
      (try (have c19b1 : decide (t264 = t268) = true := by simpa using c19))
      (try (have c19b2 : (t264 == t268) = true := by simpa using c19))
      clear c19
      replace H := Option.bind_eq_some_iff.mp H
      obtain ⟨t272, A200, H⟩ := H
      replace H : (some t272) = some r := H
      have A20 := am A200
      clear A200
      obtain rfl := Option.some.inj H
      obtain ⟨Ao21, co21, eo21⟩ := Kd.R_slice HO_4.out
      subst eo21
      obtain ⟨Ao22, co22, eo22⟩ := Kd.R_slice HO_6.out
      subst eo22
      go_wp2_with (first | (go_at_call 17; (with_reducible refine (laws_sameInts.calls kj5 _ _ t263 _ _ t267 t272 _ ?side1 ?side2 ?side3 ?side4 A20.out).mono ?_); (case side1 => exact cu (Kd.R_reads' HO_4.out).2.2); (case side2 => exact (Kd.R_reads' HO_4.out).2.1); (case side3 => exact cu (Kd.R_reads' HO_6.out).2.2); (case side4 => exact (Kd.R_reads' HO_6.out).2.1); rintro e w' ⟨rfl, ⟨nd, rfl⟩⟩; (try first | exact ⟨rfl, _, World.drewN_drewN _ _ _⟩ | exact ⟨rfl, _, Eq.trans (World.drewN_drewN _ _ _) (congrArg (World.drewN _) (Nat.add_assoc _ _ _))⟩)))
      repeat (go_quiet (first | (go_at_call 17; (with_reducible refine (laws_sameInts.calls kj5 _ _ t263 _ _ t267 t272 _ ?side1 ?side2 ?side3 ?side4 A20.out).mono ?_); (case side1 => exact cu (Kd.R_reads' HO_4.out).2.2); (case side2 => exact (Kd.R_reads' HO_4.out).2.1); (case side3 => exact cu (Kd.R_reads' HO_6.out).2.2); (case side4 => exact (Kd.R_reads' HO_6.out).2.1); rintro e w' ⟨rfl, ⟨nd, rfl⟩⟩; (try first | exact ⟨rfl, _, World.drewN_drewN _ _ _⟩ | exact ⟨rfl, _, Eq.trans (World.drewN_drewN _ _ _) (congrArg (World.drewN _) (Nat.add_assoc _ _ _))⟩))); try go_wp2_with (first | (go_at_call 17; (with_reducible refine (laws_sameInts.calls kj5 _ _ t263 _ _ t267 t272 _ ?side1 ?side2 ?side3 ?side4 A20.out).mono ?_); (case side1 => exact cu (Kd.R_reads' HO_4.out).2.2); (case side2 => exact (Kd.R_reads' HO_4.out).2.1); (case side3 => exact cu (Kd.R_reads' HO_6.out).2.2); (case side4 => exact (Kd.R_reads' HO_6.out).2.1); rintro e w' ⟨rfl, ⟨nd, rfl⟩⟩; (try first | exact ⟨rfl, _, World.drewN_drewN _ _ _⟩ | exact ⟨rfl, _, Eq.trans (World.drewN_drewN _ _ _) (congrArg (World.drewN _) (Nat.add_assoc _ _ _))⟩))))
      go_ret
      exact ⟨by first | rfl | (simp [errW_none, errW_some] <;> rfl) | (simp [*, errW_none, errW_some] <;> rfl), bu HB.out⟩
     ·rw [if_neg c19] at H
      have c19b0 : (t264 == t268) = false := by simpa using c19
      (try (have c19b1 : decide (t264 = t268) = false := by simpa using c19))
      (try (have c19b2 : (t264 == t268) = false := by simpa using c19))
      (try (have c19b3 : ¬ (t264 = t268) := by simpa using c19))
      clear c19
      obtain rfl := Option.some.inj H
      go_wp2
      repeat (go_quiet (fail); try go_wp2)
      go_ret
      exact ⟨by first | rfl | (simp [errW_none, errW_some] <;> rfl) | (simp [*, errW_none, errW_some] <;> rfl), bu HB.out⟩
    ·replace c18 := Bool.eq_false_iff.mpr c18
     subst c18
     have H1 : (laws_FnSingFew.l0 kj5 t260 t263 ((t260.length : Int) == 0) 0) = some r := by rw [if_neg (show ¬ (false = true) by decide)] at H; exact H
     clear H
     have H := H1
     clear H1
     have H' := am H
     clear H
     go_wp2
     repeat (go_quiet (fail); try go_wp2)
     go_loopg [8, 9] kj5 (fun kq v8 v9 w' => ∃ (x8_2 : Bool) (x9_2 : Int), v8 = .bool x8_2 ∧ v9 = .int .i64 x9_2 ∧ Aside0 (laws_FnSingFew.l0 kq t260 t263 x8_2 x9_2 = some r) ∧ Aside0 (kq ≤ kj5) ∧ Aside0 (Kd.R k30 30 w' w.heap.size (fun _ => True) (.slice Ao8 t260.length co8) t260) ∧ Aside0 (Kd.R (Kd.int .i64) 3 w' w.heap.size (fun _ => True) v265 t263) ∧ Aside0 (Below w.heap.size w w'))
     case atStart => exact ⟨(((t260.length : Int) == 0)), (0), (by first | rfl | (simp; done) | (simp [*]; done)), (by first | rfl | (simp; done) | (simp [*]; done)), H', ⟨Nat.le_refl _⟩, ⟨ru HO_3.out⟩, ⟨by (with_reducible repeat (first | apply Kd.R_alloc | apply Kd.R_drewN | apply Kd.R_drew)); exact Kd.R_mono HO_4.out (fun _ hk => trivial)⟩, ⟨bu HB.out⟩⟩
     case round =>
      clear H'
      try clear c1
      try clear c2
      try clear c2b0
      try clear c2b1
      try clear p2
      try clear c8
      try clear c11
      try clear c11b0
      try clear c11b1
      try clear c11b2
      try clear c13
      try clear c18
      try clear c19
      try clear c19b0
      try clear c19b1
      try clear c19b2
      try clear p2
      obtain ⟨x8_2, x9_2, rfl, rfl, HA, HK2, HO_3, HO_4, HB⟩ := hrel
      cases gk with
      | zero => exact absurd HA.out (by simp [laws_FnSingFew.l0])
      | succ k2 =>
       have H := HA.out
       clear HA
       simp only [laws_FnSingFew.l0] at H
       by_cases c23 : x9_2 ≤ 20
       ·rw [if_pos c23] at H
        have c23b0 : decide (x9_2 ≤ 20) = true := decide_eq_true c23
        clear c23
        have H' := am H
        clear H
        go_wp2
        repeat (go_quiet (fail); try go_wp2)
        go_loopg [10, 11] k2 (fun kq v10 v11 w' => ∃ (x10_3 : Bool) (x11_3 : Int), v10 = .bool x10_3 ∧ v11 = .int .i64 x11_3 ∧ Aside0 (laws_FnSingFew.l1 kq t260 t263 x8_2 x9_2 x10_3 x11_3 = some r) ∧ Aside0 (kq ≤ k2) ∧ Aside0 (Kd.R k30 30 w' w.heap.size (fun _ => True) (.slice Ao8 t260.length co8) t260) ∧ Aside0 (Kd.R (Kd.int .i64) 3 w' w.heap.size (fun _ => True) v265 t263) ∧ Aside0 (Below w.heap.size w w'))
        case atStart => exact ⟨(decide ((t260.length : Int) > 0)), (0), (by first | rfl | (simp; done) | (simp [*]; done)), (by first | rfl | (simp; done) | (simp [*]; done)), H', ⟨Nat.le_refl _⟩, ⟨ru HO_3.out⟩, ⟨ru HO_4.out⟩, ⟨bu HB.out⟩⟩
        case round =>
         clear H'
         try clear c1
         try clear c2
         try clear c2b0
         try clear c2b1
         try clear p2
         try clear c8
         try clear c11
         try clear c11b0
         try clear c11b1
         try clear c11b2
         try clear c13
         try clear c18
         try clear c19
         try clear c19b0
         try clear c19b1
         try clear c19b2
         try clear c23
         try clear c23b0
         try clear p2
         obtain ⟨x10_3, x11_3, rfl, rfl, HA, HK3, HO_3, HO_4, HB⟩ := hrel
         cases gk with
         | zero => exact absurd HA.out (by simp [laws_FnSingFew.l1])
         | succ k3 =>
          have H := HA.out
          clear HA
          simp only [laws_FnSingFew.l1] at H
          by_cases c24 : x11_3 < (t260.length : Int)
          ·rw [if_pos c24] at H
           have c24b0 : decide (x11_3 < (t260.length : Int)) = true := decide_eq_true c24
           clear c24
           by_cases c25 : x10_3 = true
           ·subst c25
            have H1 : (if 0 ≤ x11_3 then ((impl_HexSyllable.f x9_2 ((rd_T30 t260 x11_3).f0) ((rd_T30 t260 x11_3).f1)).bind fun t274 => (laws_FnSingFew.l1 k3 t260 t263 x8_2 x9_2 (decide (t274 ≥ 0)) (wrap64 (x11_3 + 1)))) else (none)) = some r := by rw [if_pos rfl] at H; exact H
            clear H
            have H := H1
            clear H1
            by_cases c26 : 0 ≤ x11_3
            ·rw [if_pos c26] at H
             have c26b0 : decide (0 ≤ x11_3) = true := decide_eq_true c26
             clear c26
             replace H := Option.bind_eq_some_iff.mp H
             obtain ⟨t274, A270, H⟩ := H
             replace H : (laws_FnSingFew.l1 k3 t260 t263 x8_2 x9_2 (decide (t274 ≥ 0)) (wrap64 (x11_3 + 1))) = some r := H
             have A27 := am A270
             clear A270
             have H' := am H
             clear H
             have p273 : 0 ≤ (x11_3 : Int) := od
             have q273 : x11_3 < (t260.length : Int) := od
             obtain ⟨ad273, e273, hx273_0, hx273_1⟩ := at_T30 (Kd.R_reads' HO_3.out).2.2 x11_3 p273 q273
             cases e273
             replace p273 := eq_true p273
             replace q273 := eq_true q273
             go_wp2_with (first | (go_at_call 41; (with_reducible refine (impl_HexSyllable.calls x9_2 ((rd_T30 t260 x11_3).f0) ((rd_T30 t260 x11_3).f1) t274 _ ?side1 A27.out).mono ?_); (case side1 => first | exact HTL.out | exact TabAt.below HTL.out (bu HB.out)); rintro e w28 ⟨rfl, hb⟩; have n0_ := am (Kd.R_below (ru HO_3.out) hb); have n1_ := am (Kd.R_below (ru HO_4.out) hb); have n2_ := am (below_step (bu HB.out) hb); clear HO_3; clear HO_4; clear HB; have HO_3 := n0_; have HO_4 := n1_; have HB := n2_; clear n0_ n1_ n2_; (try clear hb); (try clear hb2); (try clear hk); (try clear hi)))
             repeat (go_quiet (first | (go_at_call 41; (with_reducible refine (impl_HexSyllable.calls x9_2 ((rd_T30 t260 x11_3).f0) ((rd_T30 t260 x11_3).f1) t274 _ ?side1 A27.out).mono ?_); (case side1 => first | exact HTL.out | exact TabAt.below HTL.out (bu HB.out)); rintro e w28 ⟨rfl, hb⟩; have n0_ := am (Kd.R_below (ru HO_3.out) hb); have n1_ := am (Kd.R_below (ru HO_4.out) hb); have n2_ := am (below_step (bu HB.out) hb); clear HO_3; clear HO_4; clear HB; have HO_3 := n0_; have HO_4 := n1_; have HB := n2_; clear n0_ n1_ n2_; (try clear hb); (try clear hb2); (try clear hk); (try clear hi))); try go_wp2_with (first | (go_at_call 41; (with_reducible refine (impl_HexSyllable.calls x9_2 ((rd_T30 t260 x11_3).f0) ((rd_T30 t260 x11_3).f1) t274 _ ?side1 A27.out).mono ?_); (case side1 => first | exact HTL.out | exact TabAt.below HTL.out (bu HB.out)); rintro e w28 ⟨rfl, hb⟩; have n0_ := am (Kd.R_below (ru HO_3.out) hb); have n1_ := am (Kd.R_below (ru HO_4.out) hb); have n2_ := am (below_step (bu HB.out) hb); clear HO_3; clear HO_4; clear HB; have HO_3 := n0_; have HO_4 := n1_; have HB := n2_; clear n0_ n1_ n2_; (try clear hb); (try clear hb2); (try clear hk); (try clear hi))))
             go_roundg k3
             case measure => have := HJ5.out; have := HK2.out; have := HK3.out; omega
             case rel => exact ⟨(decide (t274 ≥ 0)), (wrap64 (x11_3 + 1)), (by first | rfl | (simp; done) | (simp [*]; done)), (by first | rfl | (simp; done) | (simp [*]; done)), H', ⟨by have := HJ5.out; have := HK2.out; have := HK3.out; omega⟩, ⟨ru HO_3.out⟩, ⟨ru HO_4.out⟩, ⟨bu HB.out⟩⟩
            ·rw [if_neg c26] at H
             exact absurd H (by simp)
           ·replace c25 := Bool.eq_false_iff.mpr c25
            subst c25
            have H1 : (laws_FnSingFew.l1 k3 t260 t263 x8_2 x9_2 false (wrap64 (x11_3 + 1))) = some r := by rw [if_neg (show ¬ (false = true) by decide)] at H; exact H
            clear H
            have H := H1
            clear H1
            have H' := am H
            clear H
            go_wp2
            repeat (go_quiet (fail); try go_wp2)
            go_roundg k3
            case measure => have := HJ5.out; have := HK2.out; have := HK3.out; omega
            case rel => exact ⟨(false), (wrap64 (x11_3 + 1)), (by first | rfl | (simp; done) | (simp [*]; done)), (by first | rfl | (simp; done) | (simp [*]; done)), H', ⟨by have := HJ5.out; have := HK2.out; have := HK3.out; omega⟩, ⟨ru HO_3.out⟩, ⟨ru HO_4.out⟩, ⟨bu HB.out⟩⟩
          ·rw [if_neg c24] at H
           have c24b0 : decide (x11_3 < (t260.length : Int)) = false := decide_eq_false c24
           clear c24
           by_cases c29 : x8_2 = true
           ·subst c29
            have H1 : (laws_FnSingFew.l0 k3 t260 t263 true (wrap64 (x9_2 + 1))) = some r := by rw [if_pos rfl] at H; exact H
            clear H
            have H := H1
            clear H1
            have H' := am H
            clear H
            go_wp2
            repeat (go_quiet (fail); try go_wp2)
            go_roundg k3
            case measure => have := HJ5.out; have := HK2.out; have := HK3.out; omega
            case rel => exact ⟨(true), (wrap64 (x9_2 + 1)), (by first | rfl | (simp; done) | (simp [*]; done)), (by first | rfl | (simp; done) | (simp [*]; done)), H', ⟨by have := HJ5.out; have := HK2.out; have := HK3.out; omega⟩, ⟨ru HO_3.out⟩, ⟨ru HO_4.out⟩, ⟨bu HB.out⟩⟩
           ·replace c29 := Bool.eq_false_iff.mpr c29
            subst c29
            have H1 : (laws_FnSingFew.l0 k3 t260 t263 x10_3 (wrap64 (x9_2 + 1))) = some r := by rw [if_neg (show ¬ (false = true) by decide)] at H; exact H
            clear H
            have H := H1
            clear H1
            have H' := am H
            clear H
            go_wp2
            repeat (go_quiet (fail); try go_wp2)
            go_roundg k3
            case measure => have := HJ5.out; have := HK2.out; have := HK3.out; omega
            case rel => exact ⟨(x10_3), (wrap64 (x9_2 + 1)), (by first | rfl | (simp; done) | (simp [*]; done)), (by first | rfl | (simp; done) | (simp [*]; done)), H', ⟨by have := HJ5.out; have := HK2.out; have := HK3.out; omega⟩, ⟨ru HO_3.out⟩, ⟨ru HO_4.out⟩, ⟨bu HB.out⟩⟩
       ·rw [if_neg c23] at H
        have c23b0 : decide (x9_2 ≤ 20) = false := decide_eq_false c23
        clear c23
        have H' := am H
        clear H
        go_wp2
        repeat (go_quiet (fail); try go_wp2)
        go_loopg [12, 13] k2 (fun kq v12 v13 w' => ∃ (x12_3 : Int) (x13_3 : Int), v12 = .int .i64 x12_3 ∧ v13 = .int .i64 x13_3 ∧ Aside0 (laws_FnSingFew.l2 kq t260 t263 x8_2 x12_3 x13_3 = some r) ∧ Aside0 (kq ≤ k2) ∧ Aside0 (Kd.R k30 30 w' w.heap.size (fun _ => True) (.slice Ao8 t260.length co8) t260) ∧ Aside0 (Kd.R (Kd.int .i64) 3 w' w.heap.size (fun _ => True) v265 t263) ∧ Aside0 (Below w.heap.size w w'))
        case atStart => exact ⟨(0), (0), (by first | rfl | (simp; done) | (simp [*]; done)), (by first | rfl | (simp; done) | (simp [*]; done)), H', ⟨Nat.le_refl _⟩, ⟨ru HO_3.out⟩, ⟨ru HO_4.out⟩, ⟨bu HB.out⟩⟩
        case round =>
         clear H'
         try clear c1
         try clear c2
         try clear c2b0
         try clear c2b1
         try clear p2
         try clear q2
         try clear hx2
         try clear p6
         try clear c8
         try clear c11
         try clear c11b0
         try clear c11b1
         try clear c11b2
         try clear c13
         try clear c18
         try clear c19
         try clear c19b0
         try clear c19b1
         try clear c19b2
         try clear c23
         try clear c23b0
         try clear c24
         try clear c24b0
         try clear c25
         try clear c26
         try clear c26b0
         try clear p27
         try clear q27
         try clear hx27
         try clear c29
         try clear hx273_0
         try clear hx273_1
         try clear p2
         try clear p273
         try clear q273
         obtain ⟨x12_3, x13_3, rfl, rfl, HA, HK3, HO_3, HO_4, HB⟩ := hrel
         cases gk with
         | zero => exact absurd HA.out (by simp [laws_FnSingFew.l2])
         | succ k3 =>
          have H := HA.out
          clear HA
          simp only [laws_FnSingFew.l2] at H
          by_cases c30 : x13_3 < (t263.length : Int)
          ·rw [if_pos c30] at H
           have c30b0 : decide (x13_3 < (t263.length : Int)) = true := decide_eq_true c30
           clear c30
           have H' := am H
           clear H
           obtain ⟨Ao31, co31, eo31⟩ := Kd.R_slice HO_4.out
           subst eo31
           go_wp2
           repeat (go_quiet (fail); try go_wp2)
           go_loopg [14, 15] k3 (fun kq v14 v15 w' => ∃ (x14_4 : Bool) (x15_4 : Int), v14 = .bool x14_4 ∧ v15 = .int .i64 x15_4 ∧ Aside0 (laws_FnSingFew.l3 kq t260 t263 x8_2 x12_3 x13_3 x14_4 x15_4 = some r) ∧ Aside0 (kq ≤ k3) ∧ Aside0 (Kd.R k30 30 w' w.heap.size (fun _ => True) (.slice Ao8 t260.length co8) t260) ∧ Aside0 (Kd.R (Kd.int .i64) 3 w' w.heap.size (fun _ => True) (.slice Ao31 t263.length co31) t263) ∧ Aside0 (Below w.heap.size w w'))
           case atStart => exact ⟨(true), (0), (by first | rfl | (simp; done) | (simp [*]; done)), (by first | rfl | (simp; done) | (simp [*]; done)), H', ⟨Nat.le_refl _⟩, ⟨ru HO_3.out⟩, ⟨ru HO_4.out⟩, ⟨bu HB.out⟩⟩
           case round =>
            clear H'
            try clear c1
            try clear c2
            try clear c2b0
            try clear c2b1
            try clear p2
            try clear q2
            try clear hx2
            try clear c3
            try clear p6
            try clear c8
            try clear c11
            try clear c11b0
            try clear c11b1
            try clear c11b2
            try clear c13
            try clear c18
            try clear c19
            try clear c19b0
            try clear c19b1
            try clear c19b2
            try clear c23
            try clear c23b0
            try clear c24
            try clear c24b0
            try clear c25
            try clear c26
            try clear c26b0
            try clear p27
            try clear q27
            try clear hx27
            try clear c29
            try clear c30
            try clear c30b0
            try clear hx273_0
            try clear hx273_1
            try clear p2
            try clear p27
            try clear p273
            try clear p6
            try clear q2
            try clear q27
            try clear q273
            obtain ⟨x14_4, x15_4, rfl, rfl, HA, HK4, HO_3, HO_4, HB⟩ := hrel
            cases gk with
            | zero => exact absurd HA.out (by simp [laws_FnSingFew.l3])
            | succ k4 =>
             have H := HA.out
             clear HA
             simp only [laws_FnSingFew.l3] at H
             by_cases c32 : x15_4 < x13_3
             ·rw [if_pos c32] at H
              have c32b0 : decide (x15_4 < x13_3) = true := decide_eq_true c32
              clear c32
              by_cases c33 : x14_4 = true
              ·subst c33
               have H1 : (if 0 ≤ x15_4 then (if x15_4 < (t263.length : Int) then (if 0 ≤ x13_3 then (if x13_3 < (t263.length : Int) then (laws_FnSingFew.l3 k4 t260 t263 x8_2 x12_3 x13_3 ((rd t263 x15_4) != (rd t263 x13_3)) (wrap64 (x15_4 + 1))) else (none)) else (none)) else (none)) else (none)) = some r := by rw [if_pos rfl] at H; exact H
               clear H
               have H := H1
               clear H1
               by_cases c34 : 0 ≤ x15_4
               ·rw [if_pos c34] at H
                have c34b0 : decide (0 ≤ x15_4) = true := decide_eq_true c34
                clear c34
                by_cases c35 : x15_4 < (t263.length : Int)
                ·rw [if_pos c35] at H
                 have c35b0 : decide (x15_4 < (t263.length : Int)) = true := decide_eq_true c35
                 clear c35
                 by_cases c36 : 0 ≤ x13_3
                 ·rw [if_pos c36] at H
                  have c36b0 : decide (0 ≤ x13_3) = true := decide_eq_true c36
                  clear c36
                  by_cases c37 : x13_3 < (t263.length : Int)
                  ·rw [if_pos c37] at H
                   have c37b0 : decide (x13_3 < (t263.length : Int)) = true := decide_eq_true c37
                   clear c37
                   have H' := am H
                   clear H
                   have p276 : 0 ≤ (x15_4 : Int) := od
                   have q276 : x15_4 < (t263.length : Int) := od
                   obtain ⟨ad276, e276, hx276_0⟩ := Kd.at_int (Kd.R_reads' HO_4.out).2.2 x15_4 p276 q276
                   cases e276
                   replace p276 := eq_true p276
                   replace q276 := eq_true q276
                   have p277 : 0 ≤ (x13_3 : Int) := od
                   have q277 : x13_3 < (t263.length : Int) := od
                   obtain ⟨ad277, e277, hx277_0⟩ := Kd.at_int (Kd.R_reads' HO_4.out).2.2 x13_3 p277 q277
                   obtain rfl : ad276 = ad277 := (by injection e277)
                   replace p277 := eq_true p277
                   replace q277 := eq_true q277
                   go_wp2
                   repeat (go_quiet (fail); try go_wp2)
                   go_roundg k4
                   case measure => have := HJ5.out; have := HK2.out; have := HK3.out; have := HK4.out; omega
                   case rel => exact ⟨(((rd t263 x15_4) != (rd t263 x13_3))), (wrap64 (x15_4 + 1)), (by first | rfl | (simp; done) | (simp [*]; done)), (by first | rfl | (simp; done) | (simp [*]; done)), H', ⟨by have := HJ5.out; have := HK2.out; have := HK3.out; have := HK4.out; omega⟩, ⟨ru HO_3.out⟩, ⟨ru HO_4.out⟩, ⟨bu HB.out⟩⟩
                  ·rw [if_neg c37] at H
                   exact absurd H (by simp)
                 ·rw [if_neg c36] at H
                  exact absurd H (by simp)
                ·rw [if_neg c35] at H
                 exact absurd H (by simp)
               ·rw [if_neg c34] at H
                exact absurd H (by simp)
              ·replace c33 := Bool.eq_false_iff.mpr c33
               subst c33
               have H1 : (laws_FnSingFew.l3 k4 t260 t263 x8_2 x12_3 x13_3 false (wrap64 (x15_4 + 1))) = some r := by rw [if_neg (show ¬ (false = true) by decide)] at H; exact H
               clear H
               have H := H1
               clear H1
               have H' := am H
               clear H
               go_wp2
               repeat (go_quiet (fail); try go_wp2)
               go_roundg k4
               case measure => have := HJ5.out; have := HK2.out; have := HK3.out; have := HK4.out; omega
               case rel => exact ⟨(false), (wrap64 (x15_4 + 1)), (by first | rfl | (simp; done) | (simp [*]; done)), (by first | rfl | (simp; done) | (simp [*]; done)), H', ⟨by have := HJ5.out; have := HK2.out; have := HK3.out; have := HK4.out; omega⟩, ⟨ru HO_3.out⟩, ⟨ru HO_4.out⟩, ⟨bu HB.out⟩⟩
             ·rw [if_neg c32] at H
              have c32b0 : decide (x15_4 < x13_3) = false := decide_eq_false c32
              clear c32
              by_cases c38 : x14_4 = true
              ·subst c38
               have H1 : (laws_FnSingFew.l2 k4 t260 t263 x8_2 (wrap64 (x12_3 + 1)) (wrap64 (x13_3 + 1))) = some r := by rw [if_pos rfl] at H; exact H
               clear H
               have H := H1
               clear H1
               have H' := am H
               clear H
               go_wp2
               repeat (go_quiet (fail); try go_wp2)
               go_roundg k4
               case measure => have := HJ5.out; have := HK2.out; have := HK3.out; have := HK4.out; omega
               case rel => exact ⟨(wrap64 (x12_3 + 1)), (wrap64 (x13_3 + 1)), (by first | rfl | (simp; done) | (simp [*]; done)), (by first | rfl | (simp; done) | (simp [*]; done)), H', ⟨by have := HJ5.out; have := HK2.out; have := HK3.out; have := HK4.out; omega⟩, ⟨ru HO_3.out⟩, ⟨ru HO_4.out⟩, ⟨bu HB.out⟩⟩
              ·replace c38 := Bool.eq_false_iff.mpr c38
               subst c38
               have H1 : (laws_FnSingFew.l2 k4 t260 t263 x8_2 x12_3 (wrap64 (x13_3 + 1))) = some r := by rw [if_neg (show ¬ (false = true) by decide)] at H; exact H
               clear H
               have H := H1
               clear H1
               have H' := am H
               clear H
               go_wp2
               repeat (go_quiet (fail); try go_wp2)
               go_roundg k4
               case measure => have := HJ5.out; have := HK2.out; have := HK3.out; have := HK4.out; omega
               case rel => exact ⟨(x12_3), (wrap64 (x13_3 + 1)), (by first | rfl | (simp; done) | (simp [*]; done)), (by first | rfl | (simp; done) | (simp [*]; done)), H', ⟨by have := HJ5.out; have := HK2.out; have := HK3.out; have := HK4.out; omega⟩, ⟨ru HO_3.out⟩, ⟨ru HO_4.out⟩, ⟨bu HB.out⟩⟩
          ·rw [if_neg c30] at H
           have c30b0 : decide (x13_3 < (t263.length : Int)) = false := decide_eq_false c30
           clear c30
           replace H := Option.bind_eq_some_iff.mp H
           obtain ⟨t275, A390, H⟩ := H
           replace H : (if ((t275 == 0) == x8_2) = true then (some (decide (t275 ≥ (wrap64 (x12_3 - 1))))) else (some false)) = some r := H
           have A39 := am A390
           clear A390
           by_cases c40 : ((t275 == 0) == x8_2) = true
           ·rw [if_pos c40] at H
            have c40b0 : ((t275 == 0) == x8_2) = true := c40
            (try (have c40b1 : decide ((t275 == 0) = x8_2) = true := by simpa using c40))
            (try (have c40b2 : ((t275 == 0) == x8_2) = true := by simpa using c40))
            clear c40
            obtain rfl := Option.some.inj H
            obtain ⟨Ao41, co41, eo41⟩ := Kd.R_slice HO_4.out
            subst eo41
            go_wp2_with (first | (go_at_call 39; (with_reducible refine (impl_SingMutations.calls k3 _ _ t260 _ _ t263 t275 _ ?side1 ?side2 ?side3 ?side4 ?side5 A39.out).mono ?_); (case side1 => exact cu (Kd.R_reads' HO_3.out).2.2); (case side2 => exact (Kd.R_reads' HO_3.out).2.1); (case side3 => exact cu (Kd.R_reads' HO_4.out).2.2); (case side4 => exact (Kd.R_reads' HO_4.out).2.1); (case side5 => first | exact HTL.out | exact TabAt.below HTL.out (bu HB.out)); rintro e w42 ⟨rfl, hb⟩; have n0_ := am (Kd.R_below (ru HO_3.out) hb); have n1_ := am (Kd.R_below (ru HO_4.out) hb); have n2_ := am (below_step (bu HB.out) hb); clear HO_3; clear HO_4; clear HB; have HO_3 := n0_; have HO_4 := n1_; have HB := n2_; clear n0_ n1_ n2_; (try clear hb); (try clear hb2); (try clear hk); (try clear hi)))
            repeat (go_quiet (first | (go_at_call 39; (with_reducible refine (impl_SingMutations.calls k3 _ _ t260 _ _ t263 t275 _ ?side1 ?side2 ?side3 ?side4 ?side5 A39.out).mono ?_); (case side1 => exact cu (Kd.R_reads' HO_3.out).2.2); (case side2 => exact (Kd.R_reads' HO_3.out).2.1); (case side3 => exact cu (Kd.R_reads' HO_4.out).2.2); (case side4 => exact (Kd.R_reads' HO_4.out).2.1); (case side5 => first | exact HTL.out | exact TabAt.below HTL.out (bu HB.out)); rintro e w42 ⟨rfl, hb⟩; have n0_ := am (Kd.R_below (ru HO_3.out) hb); have n1_ := am (Kd.R_below (ru HO_4.out) hb); have n2_ := am (below_step (bu HB.out) hb); clear HO_3; clear HO_4; clear HB; have HO_3 := n0_; have HO_4 := n1_; have HB := n2_; clear n0_ n1_ n2_; (try clear hb); (try clear hb2); (try clear hk); (try clear hi))); try go_wp2_with (first | (go_at_call 39; (with_reducible refine (impl_SingMutations.calls k3 _ _ t260 _ _ t263 t275 _ ?side1 ?side2 ?side3 ?side4 ?side5 A39.out).mono ?_); (case side1 => exact cu (Kd.R_reads' HO_3.out).2.2); (case side2 => exact (Kd.R_reads' HO_3.out).2.1); (case side3 => exact cu (Kd.R_reads' HO_4.out).2.2); (case side4 => exact (Kd.R_reads' HO_4.out).2.1); (case side5 => first | exact HTL.out | exact TabAt.below HTL.out (bu HB.out)); rintro e w42 ⟨rfl, hb⟩; have n0_ := am (Kd.R_below (ru HO_3.out) hb); have n1_ := am (Kd.R_below (ru HO_4.out) hb); have n2_ := am (below_step (bu HB.out) hb); clear HO_3; clear HO_4; clear HB; have HO_3 := n0_; have HO_4 := n1_; have HB := n2_; clear n0_ n1_ n2_; (try clear hb); (try clear hb2); (try clear hk); (try clear hi))))
            go_ret
            exact ⟨by first | rfl | (simp [errW_none, errW_some] <;> rfl) | (simp [*, errW_none, errW_some] <;> rfl), bu HB.out⟩
           ·rw [if_neg c40] at H
            have c40b0 : ((t275 == 0) == x8_2) = false := by simpa using c40
            (try (have c40b1 : decide ((t275 == 0) = x8_2) = false := by simpa using c40))
            (try (have c40b2 : ((t275 == 0) == x8_2) = false := by simpa using c40))
            (try (have c40b3 : ¬ ((t275 == 0) = x8_2) := by simpa using c40))
            clear c40
            obtain rfl := Option.some.inj H
            obtain ⟨Ao43, co43, eo43⟩ := Kd.R_slice HO_4.out
            subst eo43
            go_wp2_with (first | (go_at_call 39; (with_reducible refine (impl_SingMutations.calls k3 _ _ t260 _ _ t263 t275 _ ?side1 ?side2 ?side3 ?side4 ?side5 A39.out).mono ?_); (case side1 => exact cu (Kd.R_reads' HO_3.out).2.2); (case side2 => exact (Kd.R_reads' HO_3.out).2.1); (case side3 => exact cu (Kd.R_reads' HO_4.out).2.2); (case side4 => exact (Kd.R_reads' HO_4.out).2.1); (case side5 => first | exact HTL.out | exact TabAt.below HTL.out (bu HB.out)); rintro e w44 ⟨rfl, hb⟩; have n0_ := am (Kd.R_below (ru HO_3.out) hb); have n1_ := am (Kd.R_below (ru HO_4.out) hb); have n2_ := am (below_step (bu HB.out) hb); clear HO_3; clear HO_4; clear HB; have HO_3 := n0_; have HO_4 := n1_; have HB := n2_; clear n0_ n1_ n2_; (try clear hb); (try clear hb2); (try clear hk); (try clear hi)))
            repeat (go_quiet (first | (go_at_call 39; (with_reducible refine (impl_SingMutations.calls k3 _ _ t260 _ _ t263 t275 _ ?side1 ?side2 ?side3 ?side4 ?side5 A39.out).mono ?_); (case side1 => exact cu (Kd.R_reads' HO_3.out).2.2); (case side2 => exact (Kd.R_reads' HO_3.out).2.1); (case side3 => exact cu (Kd.R_reads' HO_4.out).2.2); (case side4 => exact (Kd.R_reads' HO_4.out).2.1); (case side5 => first | exact HTL.out | exact TabAt.below HTL.out (bu HB.out)); rintro e w44 ⟨rfl, hb⟩; have n0_ := am (Kd.R_below (ru HO_3.out) hb); have n1_ := am (Kd.R_below (ru HO_4.out) hb); have n2_ := am (below_step (bu HB.out) hb); clear HO_3; clear HO_4; clear HB; have HO_3 := n0_; have HO_4 := n1_; have HB := n2_; clear n0_ n1_ n2_; (try clear hb); (try clear hb2); (try clear hk); (try clear hi))); try go_wp2_with (first | (go_at_call 39; (with_reducible refine (impl_SingMutations.calls k3 _ _ t260 _ _ t263 t275 _ ?side1 ?side2 ?side3 ?side4 ?side5 A39.out).mono ?_); (case side1 => exact cu (Kd.R_reads' HO_3.out).2.2); (case side2 => exact (Kd.R_reads' HO_3.out).2.1); (case side3 => exact cu (Kd.R_reads' HO_4.out).2.2); (case side4 => exact (Kd.R_reads' HO_4.out).2.1); (case side5 => first | exact HTL.out | exact TabAt.below HTL.out (bu HB.out)); rintro e w44 ⟨rfl, hb⟩; have n0_ := am (Kd.R_below (ru HO_3.out) hb); have n1_ := am (Kd.R_below (ru HO_4.out) hb); have n2_ := am (below_step (bu HB.out) hb); clear HO_3; clear HO_4; clear HB; have HO_3 := n0_; have HO_4 := n1_; have HB := n2_; clear n0_ n1_ n2_; (try clear hb); (try clear hb2); (try clear hk); (try clear hi))))
            go_ret
            exact ⟨by first | rfl | (simp [errW_none, errW_some] <;> rfl) | (simp [*, errW_none, errW_some] <;> rfl), bu HB.out⟩

end Go.Proofs.YtcndojoghmblaaaDoor.SF
