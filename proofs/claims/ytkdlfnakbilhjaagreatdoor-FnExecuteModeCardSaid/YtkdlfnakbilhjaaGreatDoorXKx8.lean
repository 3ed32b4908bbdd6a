-- Made by this session's gprint.py out of the translation. Not trusted: Lean checks it.
import Derived.Test.YtkdlfnakbilhjaaGreatDoorXKx0
import Derived.Test.YtkdlfnakbilhjaaGreatDoorXKx7
namespace Go.Proofs.YtkdlfnakbilhjaaGreatDoor.XK
open Go.RowKit Go.Proofs.YtkdlfnakbilhjaaGreatDoorW.PrintWords Go.Proofs.YtkdlfnakbilhjaaGreatDoorW.PrintLast Go.Proofs.YtkdlfnakbilhjaaGreatDoorW.PrintMore
attribute [local go_sem] max2_int min2_int max_two min_two max_three min_three max_four min_four   -- for this text's walks alone
set_option linter.unusedVariables false
set_option linter.unusedSimpArgs false

/-! ### spec_ModeLikely: function 6 -/
def spec_ModeLikely.l0 : Nat → List (S49) → List Int → Int → Int → Option (Int × Bool)
 | 0, _, _, _, _ => none
 | k + 1, x0, x4, x5, x6 => if x6 < (x4.length : Int) then (if 0 ≤ x6 then ((spec_l5Tenors.f k x0 (rd x4 x6)).bind fun t285 => ((spec_l5Tenors.f k x0 x5).bind fun t286 => (if t285 > t286 then (spec_ModeLikely.l0 k x0 x4 (rd x4 x6) (wrap64 (x6 + 1))) else (spec_ModeLikely.l0 k x0 x4 x5 (wrap64 (x6 + 1)))))) else (none)) else (some (x5, true))
def spec_ModeLikely.f (k : Nat) (l0 : List (S49)) : Option (Int × Bool) := (spec_ModeAll.f k l0).bind fun t280 => (if (t280.length : Int) = 0 then (some (0, false)) else (if 0 < (t280.length : Int) then (spec_ModeLikely.l0 k l0 t280 (rd t280 0) 0) else (none)))
set_option maxHeartbeats 8000000 in
set_option maxRecDepth 100000 in
theorem spec_ModeLikely.calls (k : Nat) (A0 : Option Addr) (c0 : Nat) (l0 : List (S49)) (r1 : Int) (r2 : Bool) (w : World) (hr0 : Kd.C k49 w A0 l0.length l0) (hc0 : l0.length ≤ c0) (h : spec_ModeLikely.f k l0 = some (r1, r2)) :
  Calls Tryz.prog 6 #[.slice A0 l0.length c0] w fun e w' => e = .returned (.tuple #[.int .i64 r1, .bool r2]) ∧ Below w.heap.size w w' := by
 have HR0 := am hr0
 have HC0 := am hc0
 clear hr0 hc0
 have HB := am (Below.refl w.heap.size w)
 have H : ((spec_ModeAll.f k l0).bind fun t280 => (if (t280.length : Int) = 0 then (some (0, false)) else (if 0 < (t280.length : Int) then (spec_ModeLikely.l0 k l0 t280 (rd t280 0) 0) else (none)))) = some (r1, r2) := h
 clear h
 replace H := Option.bind_eq_some_iff.mp H
 obtain ⟨t280, A20, H⟩ := H
 replace H : (if (t280.length : Int) = 0 then (some (0, false)) else (if 0 < (t280.length : Int) then (spec_ModeLikely.l0 k l0 t280 (rd t280 0) 0) else (none))) = some (r1, r2) := H
 have A2 := am A20
 clear A20
 by_cases c3 : (t280.length : Int) = 0
 ·rw [if_pos c3] at H
  have c3b0 : ((t280.length : Int) == 0) = true := beq_iff_eq.mpr c3
  have c3b1 : ((t280.length : Int) != 0) = false := bne_eq_false_iff_eq.mpr c3
  clear c3
  simp only [Option.some.injEq, Prod.mk.injEq] at H
  obtain ⟨rfl, rfl⟩ := H
  go_enter Tryz.func6, Tryz.ntmps6
  go_wp2_with (first | ((with_reducible refine gate_callee (f := 15) rfl ?_); refine goesL_ (some 8) rfl rfl Tryz.func15 (by kernel_rfl) rfl #[.slice A0 l0.length c0] rfl (by (try simp only [List.map_toArray, List.map_cons, List.map_nil]); first | done | rfl | (simp only [List.length_drop, List.length_take]; rfl)) ?_; (with_reducible refine (spec_ModeAll.calls k _ _ l0 t280 _ ?side1 ?side2 A2.out).mono ?_); (case side1 => exact cu HR0.out); (case side2 => exact HC0.out); rintro e w4 ⟨v281, rfl, ho0, hb⟩; refine ⟨_, rfl, ?_⟩; have n0_ := am (Kd.R_lower ho0 (below_size (bu HB.out))); have n1_ := am (below_step (bu HB.out) hb); clear HB; have HO282 := n0_; have HB := n1_; clear n0_ n1_; (try clear hb); (try clear hb2); (try clear hk); (try clear hi); (try clear ho0); obtain ⟨Ao5, co5, eo5⟩ := Kd.R_slice HO282.out; subst eo5))
  go_ret2
  exact ⟨by first | rfl | (simp [errW_none, errW_some] <;> rfl) | (simp [*, errW_none, errW_some] <;> rfl), bu HB.out⟩
 ·rw [if_neg c3] at H
  have c3b0 : ((t280.length : Int) == 0) = false := beq_eq_false_iff_ne.mpr c3
  have c3b1 : ((t280.length : Int) != 0) = true := bne_iff_ne.mpr c3
  have c3b2 : ¬ (t280 = []) := fun h_ => c3 (by rw [h_]; rfl)
  by_cases c6 : 0 < (t280.length : Int)
  ·rw [if_pos c6] at H
   have c6b0 : decide (0 < (t280.length : Int)) = true := decide_eq_true c6
   have c6b1 : decide (0 < t280.length) = true := decide_eq_true (by omega)
   clear c6
   have H' := am H
   clear H
   go_enter Tryz.func6, Tryz.ntmps6
   go_wp2_with (first | ((with_reducible refine gate_callee (f := 15) rfl ?_); refine goesL_ (some 8) rfl rfl Tryz.func15 (by kernel_rfl) rfl #[.slice A0 l0.length c0] rfl (by (try simp only [List.map_toArray, List.map_cons, List.map_nil]); first | done | rfl | (simp only [List.length_drop, List.length_take]; rfl)) ?_; (with_reducible refine (spec_ModeAll.calls k _ _ l0 t280 _ ?side1 ?side2 A2.out).mono ?_); (case side1 => exact cu HR0.out); (case side2 => exact HC0.out); rintro e w7 ⟨v281, rfl, ho0, hb⟩; refine ⟨_, rfl, ?_⟩; have n0_ := am (Kd.R_lower ho0 (below_size (bu HB.out))); have n1_ := am (below_step (bu HB.out) hb); clear HB; have HO282 := n0_; have HB := n1_; clear n0_ n1_; (try clear hb); (try clear hb2); (try clear hk); (try clear hi); (try clear ho0); obtain ⟨Ao8, co8, eo8⟩ := Kd.R_slice HO282.out; subst eo8; have p283 : 0 ≤ (0 : Int) := (by omega); have q283 : 0 < (t280.length : Int) := od; obtain ⟨ad283, e283, hx283_0⟩ := Kd.at_int (Kd.R_reads' HO282.out).2.2 0 p283 q283; cases e283; have qi283 : (0 < t280.length) = True := eq_true (by omega); (try rw [show ((0 : Int)).toNat = 0 from rfl] at hx283_0); (try rw [Addr.add_zero'] at hx283_0); replace p283 := eq_true p283; replace q283 := eq_true q283))
   go_loopg [5, 6] k (fun kq v5 v6 w' => ∃ (x5_1 : Int) (x6_1 : Int), v5 = .int .i64 x5_1 ∧ v6 = .int .i64 x6_1 ∧ Aside0 (spec_ModeLikely.l0 kq l0 t280 x5_1 x6_1 = some (r1, r2)) ∧ Aside0 (kq ≤ k) ∧ Aside0 (Kd.R (Kd.int .i64) 3 w' w.heap.size (fun _ => True) (.slice (some ad283) t280.length co8) t280) ∧ Aside0 (Below w.heap.size w w'))
   case atStart => exact ⟨(rd t280 0), (0), (by first | rfl | (simp; done) | (simp [*]; done)), (by first | rfl | (simp; done) | (simp [*]; done)), H', ⟨Nat.le_refl _⟩, ⟨ru HO282.out⟩, ⟨bu HB.out⟩⟩
   case round =>
    clear H'
    try clear c1
    try clear p2
    try clear q2
    try clear hx2
    try clear qi2
    try clear c3
    try clear c3b0
    try clear c3b1
    try clear c3b2
    try clear c6
    try clear c6b0
    try clear c6b1
    try clear hx283_0
    try clear p283
    try clear q283
    obtain ⟨x5_1, x6_1, rfl, rfl, HA, HK1, HO_4, HB⟩ := hrel
    cases gk with
    | zero => exact absurd HA.out (by simp [spec_ModeLikely.l0])
    | succ k1 =>
     have H := HA.out
     clear HA
     simp only [spec_ModeLikely.l0] at H
     by_cases c9 : x6_1 < (t280.length : Int)
     ·rw [if_pos c9] at H
      have c9b0 : decide (x6_1 < (t280.length : Int)) = true := decide_eq_true c9
      clear c9
      by_cases c10 : 0 ≤ x6_1
      ·rw [if_pos c10] at H
       have c10b0 : decide (0 ≤ x6_1) = true := decide_eq_true c10
       clear c10
       replace H := Option.bind_eq_some_iff.mp H
       obtain ⟨t285, A110, H⟩ := H
       replace H : ((spec_l5Tenors.f k1 l0 x5_1).bind fun t286 => (if t285 > t286 then (spec_ModeLikely.l0 k1 l0 t280 (rd t280 x6_1) (wrap64 (x6_1 + 1))) else (spec_ModeLikely.l0 k1 l0 t280 x5_1 (wrap64 (x6_1 + 1))))) = some (r1, r2) := H
       have A11 := am A110
       clear A110
       replace H := Option.bind_eq_some_iff.mp H
       obtain ⟨t286, A120, H⟩ := H
       replace H : (if t285 > t286 then (spec_ModeLikely.l0 k1 l0 t280 (rd t280 x6_1) (wrap64 (x6_1 + 1))) else (spec_ModeLikely.l0 k1 l0 t280 x5_1 (wrap64 (x6_1 + 1)))) = some (r1, r2) := H
       have A12 := am A120
       clear A120
       by_cases c13 : t285 > t286
       ·rw [if_pos c13] at H
        have c13b0 : decide (t286 < t285) = true := decide_eq_true c13
        clear c13
        have H' := am H
        clear H
        have p284 : 0 ≤ (x6_1 : Int) := od
        have q284 : x6_1 < (t280.length : Int) := od
        obtain ⟨ad284, e284, hx284_0⟩ := Kd.at_int (Kd.R_reads' HO_4.out).2.2 x6_1 p284 q284
        obtain rfl : ad283 = ad284 := (by injection e284)
        replace p284 := eq_true p284
        replace q284 := eq_true q284
        go_wp2_with (first | ((with_reducible refine gate_callee (f := 16) rfl ?_); refine goesL_ (some 26) rfl rfl Tryz.func16 (by kernel_rfl) rfl #[.slice A0 l0.length c0, .int .i64 (rd t280 x6_1)] rfl (by (try simp only [List.map_toArray, List.map_cons, List.map_nil]); first | done | rfl | (simp only [List.length_drop, List.length_take]; rfl)) ?_; (with_reducible refine (spec_l5Tenors.calls k1 _ _ l0 (rd t280 x6_1) t285 _ ?side1 ?side2 A11.out).mono ?_); (case side1 => repeat (first | exact (Kd.C_below HR0.out HB.out) | (with_reducible refine Kd.C_alloc ?_ _) | (with_reducible refine Kd.C_drewN ?_ _) | (with_reducible refine Kd.C_drew ?_))); (case side2 => exact HC0.out); rintro e w14 ⟨rfl, hb⟩; refine ⟨_, rfl, ?_⟩; have n0_ := am (Kd.R_below (ru HO_4.out) hb); have n1_ := am (below_step (bu HB.out) hb); clear HO_4; clear HB; have HO_4 := n0_; have HB := n1_; clear n0_ n1_; (try clear hb); (try clear hb2); (try clear hk); (try clear hi)) | ((with_reducible refine gate_callee (f := 16) rfl ?_); refine goesL_ (some 29) rfl rfl Tryz.func16 (by kernel_rfl) rfl #[.slice A0 l0.length c0, .int .i64 x5_1] rfl (by (try simp only [List.map_toArray, List.map_cons, List.map_nil]); first | done | rfl | (simp only [List.length_drop, List.length_take]; rfl)) ?_; (with_reducible refine (spec_l5Tenors.calls k1 _ _ l0 x5_1 t286 _ ?side1 ?side2 A12.out).mono ?_); (case side1 => repeat (first | exact (Kd.C_below HR0.out HB.out) | (with_reducible refine Kd.C_alloc ?_ _) | (with_reducible refine Kd.C_drewN ?_ _) | (with_reducible refine Kd.C_drew ?_))); (case side2 => exact HC0.out); rintro e w15 ⟨rfl, hb⟩; refine ⟨_, rfl, ?_⟩; have n0_ := am (Kd.R_below (ru HO_4.out) hb); have n1_ := am (below_step (bu HB.out) hb); clear HO_4; clear HB; have HO_4 := n0_; have HB := n1_; clear n0_ n1_; (try clear hb); (try clear hb2); (try clear hk); (try clear hi); have p287 : 0 ≤ (x6_1 : Int) := od; have q287 : x6_1 < (t280.length : Int) := od; obtain ⟨ad287, e287, hx287_0⟩ := Kd.at_int (Kd.R_reads' HO_4.out).2.2 x6_1 p287 q287; obtain rfl : ad283 = ad287 := (by injection e287); replace p287 := eq_true p287; replace q287 := eq_true q287))
        go_roundg k1
        case measure => have := HK1.out; omega
        case rel => exact ⟨(rd t280 x6_1), (wrap64 (x6_1 + 1)), (by first | rfl | (simp; done) | (simp [*]; done)), (by first | rfl | (simp; done) | (simp [*]; done)), H', ⟨by have := HK1.out; omega⟩, ⟨ru HO_4.out⟩, ⟨bu HB.out⟩⟩
       ·rw [if_neg c13] at H
        have c13b0 : decide (t286 < t285) = false := decide_eq_false c13
        clear c13
        have H' := am H
        clear H
        have p284 : 0 ≤ (x6_1 : Int) := od
        have q284 : x6_1 < (t280.length : Int) := od
        obtain ⟨ad284, e284, hx284_0⟩ := Kd.at_int (Kd.R_reads' HO_4.out).2.2 x6_1 p284 q284
        obtain rfl : ad283 = ad284 := (by injection e284)
        replace p284 := eq_true p284
        replace q284 := eq_true q284
        go_wp2_with (first | ((with_reducible refine gate_callee (f := 16) rfl ?_); refine goesL_ (some 26) rfl rfl Tryz.func16 (by kernel_rfl) rfl #[.slice A0 l0.length c0, .int .i64 (rd t280 x6_1)] rfl (by (try simp only [List.map_toArray, List.map_cons, List.map_nil]); first | done | rfl | (simp only [List.length_drop, List.length_take]; rfl)) ?_; (with_reducible refine (spec_l5Tenors.calls k1 _ _ l0 (rd t280 x6_1) t285 _ ?side1 ?side2 A11.out).mono ?_); (case side1 => repeat (first | exact (Kd.C_below HR0.out HB.out) | (with_reducible refine Kd.C_alloc ?_ _) | (with_reducible refine Kd.C_drewN ?_ _) | (with_reducible refine Kd.C_drew ?_))); (case side2 => exact HC0.out); rintro e w16 ⟨rfl, hb⟩; refine ⟨_, rfl, ?_⟩; have n0_ := am (Kd.R_below (ru HO_4.out) hb); have n1_ := am (below_step (bu HB.out) hb); clear HO_4; clear HB; have HO_4 := n0_; have HB := n1_; clear n0_ n1_; (try clear hb); (try clear hb2); (try clear hk); (try clear hi)) | ((with_reducible refine gate_callee (f := 16) rfl ?_); refine goesL_ (some 29) rfl rfl Tryz.func16 (by kernel_rfl) rfl #[.slice A0 l0.length c0, .int .i64 x5_1] rfl (by (try simp only [List.map_toArray, List.map_cons, List.map_nil]); first | done | rfl | (simp only [List.length_drop, List.length_take]; rfl)) ?_; (with_reducible refine (spec_l5Tenors.calls k1 _ _ l0 x5_1 t286 _ ?side1 ?side2 A12.out).mono ?_); (case side1 => repeat (first | exact (Kd.C_below HR0.out HB.out) | (with_reducible refine Kd.C_alloc ?_ _) | (with_reducible refine Kd.C_drewN ?_ _) | (with_reducible refine Kd.C_drew ?_))); (case side2 => exact HC0.out); rintro e w17 ⟨rfl, hb⟩; refine ⟨_, rfl, ?_⟩; have n0_ := am (Kd.R_below (ru HO_4.out) hb); have n1_ := am (below_step (bu HB.out) hb); clear HO_4; clear HB; have HO_4 := n0_; have HB := n1_; clear n0_ n1_; (try clear hb); (try clear hb2); (try clear hk); (try clear hi)))
        go_roundg k1
        case measure => have := HK1.out; omega
        case rel => exact ⟨(x5_1), (wrap64 (x6_1 + 1)), (by first | rfl | (simp; done) | (simp [*]; done)), (by first | rfl | (simp; done) | (simp [*]; done)), H', ⟨by have := HK1.out; omega⟩, ⟨ru HO_4.out⟩, ⟨bu HB.out⟩⟩
      ·rw [if_neg c10] at H
       exact absurd H (by simp)
     ·rw [if_neg c9] at H
      have c9b0 : decide (x6_1 < (t280.length : Int)) = false := decide_eq_false c9
      clear c9
      simp only [Option.some.injEq, Prod.mk.injEq] at H
      obtain ⟨rfl, rfl⟩ := H
      go_wp2
      go_ret2
      exact ⟨by first | rfl | (simp [errW_none, errW_some] <;> rfl) | (simp [*, errW_none, errW_some] <;> rfl), bu HB.out⟩
  ·rw [if_neg c6] at H
   exact absurd H (by simp)

-- NOT PRINTED: function 31 (stringslite_Cut)

-- INNER impl_allCommands
-- INNER impl_commandFor
end Go.Proofs.YtkdlfnakbilhjaaGreatDoor.XK
