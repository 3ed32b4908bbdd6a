-- Made by this session's gprint.py out of the translation. Not trusted: Lean checks it.
import Derived.Test.YtcndojoghmblaaaDoorSFx0
import Derived.Test.YtcndojoghmblaaaDoorSFx3
import Derived.Test.YtcndojoghmblaaaDoorSFx4
import Derived.Test.YtcndojoghmblaaaDoorSFx5
import Derived.Test.YtcndojoghmblaaaDoorSFx6
import Derived.Test.YtcndojoghmblaaaDoorSFx7
namespace Go.Proofs.YtcndojoghmblaaaDoor.SF
open Go.RowKit Go.Proofs.YtcndojoghmblaaaDoorW.PrintWords Go.Proofs.YtcndojoghmblaaaDoorW.PrintLast Go.Proofs.YtcndojoghmblaaaDoorW.PrintMore
attribute [local go_sem] max2_int min2_int max_two min_two max_three min_three max_four min_four   -- for this text's walks alone
set_option linter.unusedVariables false
set_option linter.unusedSimpArgs false

/-! ### spec_SingBest: function 38 -/
mutual
def spec_SingBest.l0 : Nat → List (S30) → List Int → Int → Option (List Int × Bool)
 | 0, _, _, _ => none
 | k + 1, x0, x4, x5 => if x5 < (x0.length : Int) then (if 0 ≤ x5 then ((spec_HexAll.f k ((rd_T30 x0 x5).f0) ((rd_T30 x0 x5).f1)).bind fun t237 => (if (t237.length : Int) = 0 then (some ((([] : List Int)), false)) else (spec_SingBest.l0 k x0 x4 (wrap64 (x5 + 1))))) else (none)) else ((spec_l2Fewest.f k x0).bind fun t243 => (spec_SingBest.l1 k x0 x4 t243 0))
def spec_SingBest.l1 : Nat → List (S30) → List Int → List (List Int) → Int → Option (List Int × Bool)
 | 0, _, _, _, _ => none
 | k + 1, x0, x4, x6, x7 => if x7 < (x0.length : Int) then (spec_SingBest.l2 k x0 x4 x6 x7 (-1) (-1) 0) else (some (x4, true))
def spec_SingBest.l2 : Nat → List (S30) → List Int → List (List Int) → Int → Int → Int → Int → Option (List Int × Bool)
 | 0, _, _, _, _, _, _, _ => none
 | k + 1, x0, x4, x6, x7, x8, x9, x10 => if x10 ≤ 20 then (if 0 ≤ x7 then (if x7 < (x6.length : Int) then (if 0 ≤ x10 then (if x10 < ((rd_L5 x6 x7).length : Int) then (if (rd (rd_L5 x6 x7) x10) < 0 then (spec_SingBest.l2 k x0 x4 x6 x7 x8 x9 (wrap64 (x10 + 1))) else (if x7 > 0 then (if 0 ≤ (wrap64 (x7 - 1)) then (if (wrap64 (x7 - 1)) < (x4.length : Int) then (spec_SingBest.j3 k x0 x4 x6 x7 x8 x9 x10 (rd (rd_L5 x6 x7) x10) (x10 != (rd x4 (wrap64 (x7 - 1))))) else (none)) else (none)) else (spec_SingBest.j3 k x0 x4 x6 x7 x8 x9 x10 (rd (rd_L5 x6 x7) x10) false))) else (none)) else (none)) else (none)) else (none)) else (if x4.length < 17592186044416 then (spec_SingBest.l1 k x0 (x4 ++ [x8]) x6 (wrap64 (x7 + 1))) else (none))
def spec_SingBest.j3 : Nat → List (S30) → List Int → List (List Int) → Int → Int → Int → Int → Int → Bool → Option (List Int × Bool)
 | 0, _, _, _, _, _, _, _, _, _ => none
 | k + 1, x0, x4, x6, x7, x8, x9, x10, x11, x62 => if x62 = true then (if x8 < 0 then (spec_SingBest.l2 k x0 x4 x6 x7 x10 (wrap64 (x11 + 1)) (wrap64 (x10 + 1))) else (if (wrap64 (x11 + 1)) < x9 then (spec_SingBest.l2 k x0 x4 x6 x7 x10 (wrap64 (x11 + 1)) (wrap64 (x10 + 1))) else (spec_SingBest.l2 k x0 x4 x6 x7 x8 x9 (wrap64 (x10 + 1))))) else (if x8 < 0 then (spec_SingBest.l2 k x0 x4 x6 x7 x10 x11 (wrap64 (x10 + 1))) else (if x11 < x9 then (spec_SingBest.l2 k x0 x4 x6 x7 x10 x11 (wrap64 (x10 + 1))) else (spec_SingBest.l2 k x0 x4 x6 x7 x8 x9 (wrap64 (x10 + 1)))))
end
def spec_SingBest.f (k : Nat) (l0 : List (S30)) : Option (List Int × Bool) := (some (([] : List Int) : List Int)).bind fun y232 => ((spec_MelodyValid.f k l0).bind fun t235 => (if t235 = true then (spec_SingBest.l0 k l0 y232 0) else (some (y232, false))))
set_option maxHeartbeats 8000000 in
set_option maxRecDepth 100000 in
theorem spec_SingBest.calls (k : Nat) (A0 : Option Addr) (c0 : Nat) (l0 : List (S30)) (r1 : List Int) (r2 : Bool) (w : World) (hr0 : Kd.C k30 w A0 l0.length l0) (hc0 : l0.length ≤ c0) (h : spec_SingBest.f k l0 = some (r1, r2)) :
  Calls Tryd.prog 38 #[.slice A0 l0.length c0] w fun e w' => ∃ v0_ : Value, e = .returned (.tuple #[v0_, .bool r2]) ∧ Kd.R (Kd.int .i64) 3 w' w.heap.size (fun _ => True) v0_ r1 ∧ Below w.heap.size w w' := by
 have hu30 := Tryd.underlying30
 have HR0 := am hr0
 have HC0 := am hc0
 clear hr0 hc0
 have HB := am (Below.refl w.heap.size w)
 have H : ((some (([] : List Int) : List Int)).bind fun y232 => ((spec_MelodyValid.f k l0).bind fun t235 => (if t235 = true then (spec_SingBest.l0 k l0 y232 0) else (some (y232, false))))) = some (r1, r2) := h
 clear h
 obtain ⟨y232, hy232⟩ : ∃ y_ : List Int, y_ = (([] : List Int)) := ⟨_, rfl⟩
 replace H : ((spec_MelodyValid.f k l0).bind fun t235 => (if t235 = true then (spec_SingBest.l0 k l0 y232 0) else (some (y232, false)))) = some (r1, r2) := by first | (rw [hy232]; with_reducible exact H) | (have H2_ := (Option.bind_some _ _).symm.trans H; rw [hy232]; with_reducible exact H2_) | (have H2_ := (Option.bind_some _ _).symm.trans H; with_reducible exact H2_) | with_reducible exact H | (rw [hy232]; exact H) | exact H
 have Ny232 := am hy232
 clear hy232
 replace H := Option.bind_eq_some_iff.mp H
 obtain ⟨t235, A20, H⟩ := H
 replace H : (if t235 = true then (spec_SingBest.l0 k l0 y232 0) else (some (y232, false))) = some (r1, r2) := H
 have A2 := am A20
 clear A20
 by_cases c3 : t235 = true
 ·subst c3
  have H1 : (spec_SingBest.l0 k l0 y232 0) = some (r1, r2) := by rw [if_pos rfl] at H; exact H
  clear H
  have H := H1
  clear H1
  have H' := am H
  clear H
  go_enter Tryd.func38, Tryd.ntmps38
  go_wp2_with (first | ((with_reducible refine gate_dst (N := 12) rfl ?_); refine Kd.R_lit (Kd.int .i64) _ 3 ?hg (N := 12) ?hd (xs := ([] : List Int)) (inner := []) (ok := fun _ => True) (okp := fun _ => True) ?hr ?hp (fun _ hk => hk) trivial (Below.refl _ _) (Nat.le_refl _) (by simp) ?_; (case hd => rfl); (case hg => rfl); (case hr => first | (go_simp; done) | (go_simp; rfl)); (case hp => exact (Reps.none _ _)); intro v233 w4 ho5 hb hg_ hnew_; clear hg_ hnew_; (first | rw [← Ny232.out] at ho5 | (simp only [Int.reduceToNat] at ho5; rw [← Ny232.out] at ho5)); have n0_ := am (Kd.R_lower ho5 (below_size (bu HB.out))); have n1_ := am (below_step (bu HB.out) hb); clear HB; have HO234 := n0_; have HB := n1_; clear n0_ n1_; clear hb ho5) | ((with_reducible refine gate_callee (f := 93) rfl ?_); refine goesL_ (some 14) rfl rfl Tryd.func93 (by kernel_rfl) rfl #[.slice A0 l0.length c0] rfl (by (try simp only [List.map_toArray, List.map_cons, List.map_nil]); first | done | rfl | (simp only [List.length_drop, List.length_take]; rfl)) ?_; (with_reducible refine (spec_MelodyValid.calls k _ _ l0 true _ ?side1 ?side2 A2.out).mono ?_); (case side1 => repeat (first | exact (Kd.C_below HR0.out HB.out) | (with_reducible refine Kd.C_alloc ?_ _) | (with_reducible refine Kd.C_drewN ?_ _) | (with_reducible refine Kd.C_drew ?_))); (case side2 => exact HC0.out); rintro e w6 ⟨rfl, hb⟩; refine ⟨_, rfl, ?_⟩; have n0_ := am (Kd.R_below (ru HO234.out) hb); have n1_ := am (below_step (bu HB.out) hb); clear HO234; clear HB; have HO234 := n0_; have HB := n1_; clear n0_ n1_; (try clear hb); (try clear hb2); (try clear hk); (try clear hi)))
  go_loopg [5] k (fun kq v5 w' => ∃ (x5_1 : Int), v5 = .int .i64 x5_1 ∧ Aside0 (spec_SingBest.l0 kq l0 y232 x5_1 = some (r1, r2)) ∧ Aside0 (kq ≤ k) ∧ Aside0 (Kd.R (Kd.int .i64) 3 w' w.heap.size (fun _ => True) v233 y232) ∧ Aside0 (Below w.heap.size w w'))
  case atStart => exact ⟨(0), (by first | rfl | (simp; done) | (simp [*]; done)), H', ⟨Nat.le_refl _⟩, ⟨ru HO234.out⟩, ⟨bu HB.out⟩⟩
  case round =>
   clear H'
   try clear p2
   try clear c3
   obtain ⟨x5_1, rfl, HA, HK1, HO_4, HB⟩ := hrel
   cases gk with
   | zero => exact absurd HA.out (by simp [spec_SingBest.l0])
   | succ k1 =>
    have H := HA.out
    clear HA
    simp only [spec_SingBest.l0] at H
    by_cases c7 : x5_1 < (l0.length : Int)
    ·rw [if_pos c7] at H
     have c7b0 : decide (x5_1 < (l0.length : Int)) = true := decide_eq_true c7
     clear c7
     by_cases c8 : 0 ≤ x5_1
     ·rw [if_pos c8] at H
      have c8b0 : decide (0 ≤ x5_1) = true := decide_eq_true c8
      clear c8
      replace H := Option.bind_eq_some_iff.mp H
      obtain ⟨t237, A90, H⟩ := H
      replace H : (if (t237.length : Int) = 0 then (some ((([] : List Int)), false)) else (spec_SingBest.l0 k1 l0 y232 (wrap64 (x5_1 + 1)))) = some (r1, r2) := H
      have A9 := am A90
      clear A90
      by_cases c10 : (t237.length : Int) = 0
      ·rw [if_pos c10] at H
       have c10b0 : ((t237.length : Int) == 0) = true := beq_iff_eq.mpr c10
       have c10b1 : ((t237.length : Int) != 0) = false := bne_eq_false_iff_eq.mpr c10
       clear c10
       obtain ⟨y240, hy240⟩ : ∃ y_ : List Int, y_ = (([] : List Int)) := ⟨_, rfl⟩
       replace H : (some (y240, false)) = some (r1, r2) := by first | (rw [hy240]; with_reducible exact H) | (have H2_ := (Option.bind_some _ _).symm.trans H; rw [hy240]; with_reducible exact H2_) | (have H2_ := (Option.bind_some _ _).symm.trans H; with_reducible exact H2_) | with_reducible exact H | (rw [hy240]; exact H) | exact H
       have Ny240 := am hy240
       clear hy240
       simp only [Option.some.injEq, Prod.mk.injEq] at H
       obtain ⟨rfl, rfl⟩ := H
       have p236 : 0 ≤ (x5_1 : Int) := od
       have q236 : x5_1 < (l0.length : Int) := od
       obtain ⟨ad236, e236, hx236_0, hx236_1⟩ := at_T30 HR0.out x5_1 p236 q236
       cases e236
       replace hx236_0 := (HB.out.cell (World.block_lt_of_cell? w _ hx236_0)).trans hx236_0
       replace hx236_1 := (HB.out.cell (World.block_lt_of_cell? w _ hx236_1)).trans hx236_1
       replace p236 := eq_true p236
       replace q236 := eq_true q236
       go_wp2_with (first | ((with_reducible refine gate_callee (f := 94) rfl ?_); refine goesL_ (some 27) rfl rfl Tryd.func94 (by kernel_rfl) rfl #[.agg #[.int .i64 ((rd_T30 l0 x5_1).f0), .bool ((rd_T30 l0 x5_1).f1)]] rfl (by (try simp only [List.map_toArray, List.map_cons, List.map_nil]); first | done | rfl | (simp only [List.length_drop, List.length_take]; rfl)) ?_; (with_reducible refine (spec_HexAll.calls k1 ((rd_T30 l0 x5_1).f0) ((rd_T30 l0 x5_1).f1) t237 _ A9.out).mono ?_); rintro e w11 ⟨v238, rfl, ho0, hb⟩; refine ⟨_, rfl, ?_⟩; have n0_ := am (Kd.R_elder' (ru HO_4.out) (Kd.R_base ho0) hb); have n1_ := am (Kd.R_lower (Kd.R_new' ho0 (Kd.R_lt (ru HO_4.out))) (below_size (bu HB.out))); have n2_ := am (below_step (bu HB.out) hb); clear HO_4; clear HB; have HO_4 := n0_; have HO239 := n1_; have HB := n2_; clear n0_ n1_ n2_; (try clear hb); (try clear hb2); (try clear hk); (try clear hi); (try clear ho0); obtain ⟨Ao12, co12, eo12⟩ := Kd.R_slice HO239.out; subst eo12) | ((with_reducible refine gate_dst (N := 30) rfl ?_); refine Kd.R_lit (Kd.int .i64) _ 3 ?hg (N := 30) ?hd (xs := ([] : List Int)) (inner := []) (ok := fun _ => True) (okp := fun _ => True) ?hr ?hp (fun _ hk => hk) trivial (Below.refl _ _) (Nat.le_refl _) (by simp) ?_; (case hd => rfl); (case hg => rfl); (case hr => first | (go_simp; done) | (go_simp; rfl)); (case hp => exact (Reps.none _ _)); intro v241 w13 ho14 hb hg_ hnew_; clear hg_ hnew_; (first | rw [← Ny240.out] at ho14 | (simp only [Int.reduceToNat] at ho14; rw [← Ny240.out] at ho14)); have n0_ := am (Kd.R_elder' (ru HO_4.out) (Kd.R_base ho14) hb); have n1_ := am (Kd.R_elder' (ru HO239.out) (Kd.R_base ho14) hb); have n2_ := am (Kd.R_lower (Kd.R_new' (Kd.R_new' ho14 (Kd.R_lt (ru HO_4.out))) (Kd.R_lt (ru HO239.out))) (below_size (bu HB.out))); have n3_ := am (below_step (bu HB.out) hb); clear HO_4; clear HO239; clear HB; have HO_4 := n0_; have HO239 := n1_; have HO242 := n2_; have HB := n3_; clear n0_ n1_ n2_ n3_; clear hb ho14))
       go_ret2
       exact ⟨_, by first | rfl | (simp [errW_none, errW_some] <;> rfl) | (simp [*, errW_none, errW_some] <;> rfl), by (with_reducible repeat (first | apply Kd.R_alloc | apply Kd.R_drewN | apply Kd.R_drew)); exact Kd.R_mono HO242.out (fun _ hk => trivial), bu HB.out⟩
      ·rw [if_neg c10] at H
       have c10b0 : ((t237.length : Int) == 0) = false := beq_eq_false_iff_ne.mpr c10
       have c10b1 : ((t237.length : Int) != 0) = true := bne_iff_ne.mpr c10
       have c10b2 : ¬ (t237 = []) := fun h_ => c10 (by rw [h_]; rfl)
       have H' := am H
       clear H
       have p236 : 0 ≤ (x5_1 : Int) := od
       have q236 : x5_1 < (l0.length : Int) := od
       obtain ⟨ad236, e236, hx236_0, hx236_1⟩ := at_T30 HR0.out x5_1 p236 q236
       cases e236
       replace hx236_0 := (HB.out.cell (World.block_lt_of_cell? w _ hx236_0)).trans hx236_0
       replace hx236_1 := (HB.out.cell (World.block_lt_of_cell? w _ hx236_1)).trans hx236_1
       replace p236 := eq_true p236
       replace q236 := eq_true q236
       go_wp2_with (first | ((with_reducible refine gate_callee (f := 94) rfl ?_); refine goesL_ (some 27) rfl rfl Tryd.func94 (by kernel_rfl) rfl #[.agg #[.int .i64 ((rd_T30 l0 x5_1).f0), .bool ((rd_T30 l0 x5_1).f1)]] rfl (by (try simp only [List.map_toArray, List.map_cons, List.map_nil]); first | done | rfl | (simp only [List.length_drop, List.length_take]; rfl)) ?_; (with_reducible refine (spec_HexAll.calls k1 ((rd_T30 l0 x5_1).f0) ((rd_T30 l0 x5_1).f1) t237 _ A9.out).mono ?_); rintro e w15 ⟨v238, rfl, ho0, hb⟩; refine ⟨_, rfl, ?_⟩; have n0_ := am (Kd.R_elder' (ru HO_4.out) (Kd.R_base ho0) hb); have n1_ := am (Kd.R_lower (Kd.R_new' ho0 (Kd.R_lt (ru HO_4.out))) (below_size (bu HB.out))); have n2_ := am (below_step (bu HB.out) hb); clear HO_4; clear HB; have HO_4 := n0_; have HO239 := n1_; have HB := n2_; clear n0_ n1_ n2_; (try clear hb); (try clear hb2); (try clear hk); (try clear hi); (try clear ho0); obtain ⟨Ao16, co16, eo16⟩ := Kd.R_slice HO239.out; subst eo16))
       go_roundg k1
       case measure => have := HK1.out; omega
       case rel => exact ⟨(wrap64 (x5_1 + 1)), (by first | rfl | (simp; done) | (simp [*]; done)), H', ⟨by have := HK1.out; omega⟩, ⟨by (with_reducible repeat (first | apply Kd.R_alloc | apply Kd.R_drewN | apply Kd.R_drew)); exact Kd.R_mono HO_4.out (fun _ hk => trivial)⟩, ⟨bu HB.out⟩⟩
     ·rw [if_neg c8] at H
      exact absurd H (by simp)
    ·rw [if_neg c7] at H
     have c7b0 : decide (x5_1 < (l0.length : Int)) = false := decide_eq_false c7
     clear c7
     replace H := Option.bind_eq_some_iff.mp H
     obtain ⟨t243, A170, H⟩ := H
     replace H : (spec_SingBest.l1 k1 l0 y232 t243 0) = some (r1, r2) := H
     have A17 := am A170
     clear A170
     have H' := am H
     clear H
     go_wp2_with (first | ((with_reducible refine gate_callee (f := 95) rfl ?_); refine goesL_ (some 32) rfl rfl Tryd.func95 (by kernel_rfl) rfl #[.slice A0 l0.length c0] rfl (by (try simp only [List.map_toArray, List.map_cons, List.map_nil]); first | done | rfl | (simp only [List.length_drop, List.length_take]; rfl)) ?_; (with_reducible refine (spec_l2Fewest.calls k1 _ _ l0 t243 _ ?side1 ?side2 A17.out).mono ?_); (case side1 => repeat (first | exact (Kd.C_below HR0.out HB.out) | (with_reducible refine Kd.C_alloc ?_ _) | (with_reducible refine Kd.C_drewN ?_ _) | (with_reducible refine Kd.C_drew ?_))); (case side2 => exact HC0.out); rintro e w18 ⟨v244, rfl, ho0, hb⟩; refine ⟨_, rfl, ?_⟩; have n0_ := am (Kd.R_below (ru HO_4.out) hb); have n1_ := am (Kd.S_lower (Kd.S_new' ho0 (Kd.R_lt (ru HO_4.out))) (below_size (bu HB.out))); have n2_ := am (below_step (bu HB.out) hb); clear HO_4; clear HB; have HO_4 := n0_; have HO245 := n1_; have HB := n2_; clear n0_ n1_ n2_; (try clear hb); (try clear hb2); (try clear hk); (try clear hi); (try clear ho0)))
     go_loopg [4, 7] k1 (fun kq v4 v7 w' => ∃ (x4_2 : List Int) (x7_2 : Int), v7 = .int .i64 x7_2 ∧ Aside0 (spec_SingBest.l1 kq l0 x4_2 t243 x7_2 = some (r1, r2)) ∧ Aside0 (kq ≤ k1) ∧ Aside0 (Kd.R (Kd.int .i64) 3 w' w.heap.size (fun _ => True) v4 x4_2) ∧ Aside0 (Kd.S (Kd.slice 3 (Kd.int .i64)) 26 w' w.heap.size (fun k_ => some k_ ≠ (v4 : Value).ownBlock) v244 t243) ∧ Aside0 (Below w.heap.size w w'))
     case atStart => exact ⟨(y232), (0), (by first | rfl | (simp; done) | (simp [*]; done)), H', ⟨Nat.le_refl _⟩, ⟨ru HO_4.out⟩, ⟨by (with_reducible repeat (first | apply Kd.S_alloc | apply Kd.S_drewN | apply Kd.S_drew)); exact Kd.S_mono HO245.out (fun _ hk => hk.2)⟩, ⟨bu HB.out⟩⟩
     case round =>
      clear H'
      try clear c1
      try clear p2
      try clear q2
      try clear hx2
      try clear c3
      try clear p6
      try clear c7
      try clear c7b0
      try clear c8
      try clear c8b0
      try clear c9
      try clear c10
      try clear c10b0
      try clear c10b1
      try clear c10b2
      try clear hx236_0
      try clear hx236_1
      try clear p2
      try clear p236
      try clear q236
      obtain ⟨x4_2, x7_2, rfl, HA, HK2, HO_4, HO_6, HB⟩ := hrel
      cases gk with
      | zero => exact absurd HA.out (by simp [spec_SingBest.l1])
      | succ k2 =>
       have H := HA.out
       clear HA
       simp only [spec_SingBest.l1] at H
       by_cases c19 : x7_2 < (l0.length : Int)
       ·rw [if_pos c19] at H
        have c19b0 : decide (x7_2 < (l0.length : Int)) = true := decide_eq_true c19
        clear c19
        have H' := am H
        clear H
        go_wp2
        go_loopg [8, 9, 10] k2 (fun kq v8 v9 v10 w' => ∃ (x8_3 : Int) (x9_3 : Int) (x10_3 : Int), v8 = .int .i64 x8_3 ∧ v9 = .int .i64 x9_3 ∧ v10 = .int .i64 x10_3 ∧ Aside0 (spec_SingBest.l2 kq l0 x4_2 t243 x7_2 x8_3 x9_3 x10_3 = some (r1, r2)) ∧ Aside0 (kq ≤ k2) ∧ Aside0 (Kd.R (Kd.int .i64) 3 w' w.heap.size (fun _ => True) u4 x4_2) ∧ Aside0 (Kd.S (Kd.slice 3 (Kd.int .i64)) 26 w' w.heap.size (fun k_ => some k_ ≠ (u4 : Value).ownBlock) v244 t243) ∧ Aside0 (Below w.heap.size w w'))
        case atStart => exact ⟨((-1)), ((-1)), (0), (by first | rfl | (simp; done) | (simp [*]; done)), (by first | rfl | (simp; done) | (simp [*]; done)), (by first | rfl | (simp; done) | (simp [*]; done)), H', ⟨Nat.le_refl _⟩, ⟨ru HO_4.out⟩, ⟨by (with_reducible repeat (first | apply Kd.S_alloc | apply Kd.S_drewN | apply Kd.S_drew)); exact HO_6.out⟩, ⟨bu HB.out⟩⟩
        case round =>
         clear H'
         try clear c1
         try clear p2
         try clear q2
         try clear hx2
         try clear c3
         try clear p6
         try clear c7
         try clear c7b0
         try clear c8
         try clear c8b0
         try clear c9
         try clear c10
         try clear c10b0
         try clear c10b1
         try clear c10b2
         try clear c19
         try clear c19b0
         try clear hx236_0
         try clear hx236_1
         try clear p2
         try clear p236
         try clear p6
         try clear q2
         try clear q236
         obtain ⟨x8_3, x9_3, x10_3, rfl, rfl, rfl, HA, HK3, HO_4, HO_6, HB⟩ := hrel
         cases gk with
         | zero => exact absurd HA.out (by simp [spec_SingBest.l2])
         | succ k3 =>
          have H := HA.out
          clear HA
          simp only [spec_SingBest.l2] at H
          by_cases c20 : x10_3 ≤ 20
          ·rw [if_pos c20] at H
           have c20b0 : decide (x10_3 ≤ 20) = true := decide_eq_true c20
           clear c20
           by_cases c21 : 0 ≤ x7_2
           ·rw [if_pos c21] at H
            have c21b0 : decide (0 ≤ x7_2) = true := decide_eq_true c21
            clear c21
            by_cases c22 : x7_2 < (t243.length : Int)
            ·rw [if_pos c22] at H
             have c22b0 : decide (x7_2 < (t243.length : Int)) = true := decide_eq_true c22
             clear c22
             by_cases c23 : 0 ≤ x10_3
             ·rw [if_pos c23] at H
              have c23b0 : decide (0 ≤ x10_3) = true := decide_eq_true c23
              clear c23
              by_cases c24 : x10_3 < ((rd_L5 t243 x7_2).length : Int)
              ·rw [if_pos c24] at H
               have c24b0 : decide (x10_3 < ((rd_L5 t243 x7_2).length : Int)) = true := decide_eq_true c24
               clear c24
               by_cases c25 : (rd (rd_L5 t243 x7_2) x10_3) < 0
               ·rw [if_pos c25] at H
                have c25b0 : decide ((rd (rd_L5 t243 x7_2) x10_3) < 0) = true := decide_eq_true c25
                clear c25
                have H' := am H
                clear H
                obtain ⟨Ao26, co26, eo26⟩ := Kd.S_slice HO_6.out
                subst eo26
                have p249 : 0 ≤ (x7_2 : Int) := od
                have q249 : x7_2 < (t243.length : Int) := od
                obtain ⟨ad249, A249_0, c249_0, e249, hx249_0, hl249_0, hi249_0⟩ := at_L5 (Kd.S_reads' HO_6.out).2.2 x7_2 p249 q249
                cases e249
                obtain ⟨ce249, hce249, hMe249, hcc249⟩ := Kd.S_get HO_6.out [] x7_2 p249 (by first | exact q249 | exact od | (have e_ := (Kd.S_reads' HO_6.out).1; omega))
                obtain ⟨ve249_0, rfl, ge249_0⟩ := hMe249
                have hv249_0 := hcc249 0 _ rfl
                rw [Nat.add_zero, show ((Kd.slice 3 (Kd.int .i64))).sz = 1 from rfl, Nat.mul_one] at hv249_0
                replace hv249_0 := Option.some.inj (hv249_0.symm.trans hx249_0)
                rw [hv249_0] at ge249_0
                have HL249_0 := am (show Kd.R (Kd.int .i64) 3 _ _ _ _ (rd_L5 t243 x7_2) from ge249_0)
                clear hv249_0 ge249_0
                clear hcc249 hce249
                have HR249_0 := am hi249_0
                have HC249_0 := am hl249_0
                clear hi249_0 hl249_0
                replace p249 := eq_true p249
                replace q249 := eq_true q249
                have p250 : 0 ≤ (x10_3 : Int) := od
                have q250 : x10_3 < ((rd_L5 t243 x7_2).length : Int) := od
                obtain ⟨ad250, e250, hx250_0⟩ := Kd.at_int (by repeat (first | (with_reducible exact HR249_0.out) | (with_reducible refine Kd.C_alloc ?_ _) | (with_reducible refine Kd.C_drewN ?_ _) | (with_reducible refine Kd.C_drew ?_) | exact HR249_0.out)) x10_3 p250 q250
                cases e250
                replace p250 := eq_true p250
                replace q250 := eq_true q250
                go_wp2
                go_roundg k3
                case measure => have := HK1.out; have := HK2.out; have := HK3.out; omega
                case rel => exact ⟨(x8_3), (x9_3), (wrap64 (x10_3 + 1)), (by first | rfl | (simp; done) | (simp [*]; done)), (by first | rfl | (simp; done) | (simp [*]; done)), (by first | rfl | (simp; done) | (simp [*]; done)), H', ⟨by have := HK1.out; have := HK2.out; have := HK3.out; omega⟩, ⟨ru HO_4.out⟩, ⟨by (with_reducible repeat (first | apply Kd.S_alloc | apply Kd.S_drewN | apply Kd.S_drew)); exact HO_6.out⟩, ⟨bu HB.out⟩⟩
               ·rw [if_neg c25] at H
                have c25b0 : decide ((rd (rd_L5 t243 x7_2) x10_3) < 0) = false := decide_eq_false c25
                clear c25
                have HC27 := am H
                clear H
                obtain ⟨Ao28, co28, eo28⟩ := Kd.S_slice HO_6.out
                subst eo28
                have p249 : 0 ≤ (x7_2 : Int) := od
                have q249 : x7_2 < (t243.length : Int) := od
                obtain ⟨ad249, A249_0, c249_0, e249, hx249_0, hl249_0, hi249_0⟩ := at_L5 (Kd.S_reads' HO_6.out).2.2 x7_2 p249 q249
                cases e249
                obtain ⟨ce249, hce249, hMe249, hcc249⟩ := Kd.S_get HO_6.out [] x7_2 p249 (by first | exact q249 | exact od | (have e_ := (Kd.S_reads' HO_6.out).1; omega))
                obtain ⟨ve249_0, rfl, ge249_0⟩ := hMe249
                have hv249_0 := hcc249 0 _ rfl
                rw [Nat.add_zero, show ((Kd.slice 3 (Kd.int .i64))).sz = 1 from rfl, Nat.mul_one] at hv249_0
                replace hv249_0 := Option.some.inj (hv249_0.symm.trans hx249_0)
                rw [hv249_0] at ge249_0
                have HL249_0 := am (show Kd.R (Kd.int .i64) 3 _ _ _ _ (rd_L5 t243 x7_2) from ge249_0)
                clear hv249_0 ge249_0
                clear hcc249 hce249
                have HR249_0 := am hi249_0
                have HC249_0 := am hl249_0
                clear hi249_0 hl249_0
                replace p249 := eq_true p249
                replace q249 := eq_true q249
                have p250 : 0 ≤ (x10_3 : Int) := od
                have q250 : x10_3 < ((rd_L5 t243 x7_2).length : Int) := od
                obtain ⟨ad250, e250, hx250_0⟩ := Kd.at_int (by repeat (first | (with_reducible exact HR249_0.out) | (with_reducible refine Kd.C_alloc ?_ _) | (with_reducible refine Kd.C_drewN ?_ _) | (with_reducible refine Kd.C_drew ?_) | exact HR249_0.out)) x10_3 p250 q250
                cases e250
                replace p250 := eq_true p250
                replace q250 := eq_true q250
                go_upto_region 20 with (fail)
                go_cut [62] (fun v62 wc => ∃ (kq : Nat) (x62_26 : Bool), v62 = .bool x62_26 ∧ Aside0 (spec_SingBest.j3 kq l0 x4_2 t243 x7_2 x8_3 x9_3 x10_3 (rd (rd_L5 t243 x7_2) x10_3) x62_26 = some (r1, r2)) ∧ Aside0 (kq ≤ k3) ∧ Aside0 (Kd.R (Kd.int .i64) 3 wc w.heap.size (fun _ => True) u4 x4_2) ∧ Aside0 (Kd.S (Kd.slice 3 (Kd.int .i64)) 26 wc w.heap.size (fun k_ => some k_ ≠ (u4 : Value).ownBlock) (.slice (some ad249) t243.length co28) t243) ∧ Aside0 (Kd.C (Kd.int .i64) wc (some ad250) (rd_L5 t243 x7_2).length (rd_L5 t243 x7_2)) ∧ Aside0 (Below w.heap.size w wc))
                case first =>
                 have H := HC27.out
                 clear HC27
                 by_cases c29 : x7_2 > 0
                 ·rw [if_pos c29] at H
                  have c29b0 : decide (0 < x7_2) = true := decide_eq_true c29
                  clear c29
                  (first | rw [c29b0] | (simp only [i64_w, i32_w]; rw [c29b0]) | skip)
                  obtain ⟨ji30, hji30⟩ : ∃ j_ : Int, (wrap64 (x7_2 - 1)) = j_ := ⟨_, rfl⟩
                  replace H : (if 0 ≤ (ji30) then (if (ji30) < (x4_2.length : Int) then (spec_SingBest.j3 k3 l0 x4_2 t243 x7_2 x8_3 x9_3 x10_3 (rd (rd_L5 t243 x7_2) x10_3) (x10_3 != (rd x4_2 (ji30)))) else (none)) else (none)) = some (r1, r2) := by first | (rw [hji30] at H; exact H) | (simp only [hji30] at H ⊢; exact H)
                  have hji30w : (IntKind.i64.wrap (x7_2 - 1)) = ji30 := (i64_w _).trans hji30
                  by_cases c31 : 0 ≤ (ji30)
                  ·rw [if_pos c31] at H
                   have c31b0 : decide (0 ≤ (ji30)) = true := decide_eq_true c31
                   clear c31
                   by_cases c32 : (ji30) < (x4_2.length : Int)
                   ·rw [if_pos c32] at H
                    have c32b0 : decide ((ji30) < (x4_2.length : Int)) = true := decide_eq_true c32
                    clear c32
                    have H' := am H
                    clear H
                    obtain ⟨Ao33, co33, eo33⟩ := Kd.R_slice HO_4.out
                    subst eo33
                    have p251 : 0 ≤ ((ji30) : Int) := od
                    have q251 : (ji30) < (x4_2.length : Int) := od
                    obtain ⟨ad251, e251, hx251_0⟩ := Kd.at_int (Kd.R_reads' HO_4.out).2.2 (ji30) p251 q251
                    cases e251
                    replace p251 := eq_true p251
                    replace q251 := eq_true q251
                    go_wp2
                    go_meet
                    case rel => exact ⟨_, ((x10_3 != (rd x4_2 (ji30)))), (by first | rfl | (simp; done) | (simp only [← hji30] <;> (first | rfl | simp)) | (simp [*]; done)), H', ⟨by have := HK1.out; have := HK2.out; have := HK3.out; first | omega | exact Nat.le_refl _⟩, ⟨ru HO_4.out⟩, ⟨by (with_reducible repeat (first | apply Kd.S_alloc | apply Kd.S_drewN | apply Kd.S_drew)); exact HO_6.out⟩, ⟨by repeat (first | (with_reducible exact HR249_0.out) | (with_reducible refine Kd.C_alloc ?_ _) | (with_reducible refine Kd.C_drewN ?_ _) | (with_reducible refine Kd.C_drew ?_) | exact HR249_0.out)⟩, ⟨bu HB.out⟩⟩
                   ·rw [if_neg c32] at H
                    exact absurd H (by simp)
                  ·rw [if_neg c31] at H
                   exact absurd H (by simp)
                 ·rw [if_neg c29] at H
                  have c29b0 : decide (0 < x7_2) = false := decide_eq_false c29
                  clear c29
                  (first | rw [c29b0] | (simp only [i64_w, i32_w]; rw [c29b0]) | skip)
                  have H' := am H
                  clear H
                  go_wp2
                  go_meet
                  case rel => exact ⟨_, (false), (by first | rfl | (simp; done) | (simp [*]; done)), H', ⟨by have := HK1.out; have := HK2.out; have := HK3.out; first | omega | exact Nat.le_refl _⟩, ⟨ru HO_4.out⟩, ⟨by (with_reducible repeat (first | apply Kd.S_alloc | apply Kd.S_drewN | apply Kd.S_drew)); exact HO_6.out⟩, ⟨by repeat (first | (with_reducible exact HR249_0.out) | (with_reducible refine Kd.C_alloc ?_ _) | (with_reducible refine Kd.C_drewN ?_ _) | (with_reducible refine Kd.C_drew ?_) | exact HR249_0.out)⟩, ⟨bu HB.out⟩⟩
                case rest =>
                 clear HC27
                 try clear c1
                 try clear c2
                 try clear p2
                 try clear q2
                 try clear hx2
                 try clear c3
                 try clear p6
                 try clear c7
                 try clear c7b0
                 try clear c8
                 try clear c8b0
                 try clear c9
                 try clear c10
                 try clear c10b0
                 try clear c10b1
                 try clear c10b2
                 try clear c19
                 try clear c19b0
                 try clear c20
                 try clear c20b0
                 try clear c21
                 try clear c21b0
                 try clear c22
                 try clear c22b0
                 try clear c23
                 try clear c23b0
                 try clear p23
                 try clear q23
                 try clear hx23
                 try clear c24
                 try clear c24b0
                 try clear p24
                 try clear q24
                 try clear hx24
                 try clear c25
                 try clear c25b0
                 try clear p25
                 try clear q25
                 try clear hx25
                 try clear c29
                 try clear c29b0
                 try clear c31
                 try clear c31b0
                 try clear c32
                 try clear c32b0
                 try clear hx236_0
                 try clear hx236_1
                 try clear hx249_0
                 try clear hx250_0
                 try clear hx251_0
                 try clear p2
                 try clear p236
                 try clear p249
                 try clear p250
                 try clear p251
                 try clear p6
                 try clear q2
                 try clear q236
                 try clear q249
                 try clear q250
                 try clear q251
                 obtain ⟨kq, x62_26, rfl, HA, HJ26, HO_4, HO_6, HR249_0, HB⟩ := hcut
                 cases kq with
                 | zero => exact absurd HA.out (by simp [spec_SingBest.j3])
                 | succ kj26 =>
                  have H := HA.out
                  clear HA
                  simp only [spec_SingBest.j3] at H
                  by_cases c34 : x62_26 = true
                  ·subst c34
                   have H1 : (if x8_3 < 0 then (spec_SingBest.l2 kj26 l0 x4_2 t243 x7_2 x10_3 (wrap64 ((rd (rd_L5 t243 x7_2) x10_3) + 1)) (wrap64 (x10_3 + 1))) else (if (wrap64 ((rd (rd_L5 t243 x7_2) x10_3) + 1)) < x9_3 then (spec_SingBest.l2 kj26 l0 x4_2 t243 x7_2 x10_3 (wrap64 ((rd (rd_L5 t243 x7_2) x10_3) + 1)) (wrap64 (x10_3 + 1))) else (spec_SingBest.l2 kj26 l0 x4_2 t243 x7_2 x8_3 x9_3 (wrap64 (x10_3 + 1))))) = some (r1, r2) := by rw [if_pos rfl] at H; exact H
                   clear H
                   have H := H1
                   clear H1
                   by_cases c35 : x8_3 < 0
                   ·rw [if_pos c35] at H
                    have c35b0 : decide (x8_3 < 0) = true := decide_eq_true c35
                    clear c35
                    have H' := am H
                    clear H
                    go_wp2
                    go_roundg kj26
                    case measure => have := HK1.out; have := HK2.out; have := HK3.out; have := HJ26.out; omega
                    case rel => exact ⟨(x10_3), (wrap64 ((rd (rd_L5 t243 x7_2) x10_3) + 1)), (wrap64 (x10_3 + 1)), (by first | rfl | (simp; done) | (simp [*]; done)), (by first | rfl | (simp; done) | (simp [*]; done)), (by first | rfl | (simp; done) | (simp [*]; done)), H', ⟨by have := HK1.out; have := HK2.out; have := HK3.out; have := HJ26.out; omega⟩, ⟨ru HO_4.out⟩, ⟨by (with_reducible repeat (first | apply Kd.S_alloc | apply Kd.S_drewN | apply Kd.S_drew)); exact HO_6.out⟩, ⟨bu HB.out⟩⟩
                   ·rw [if_neg c35] at H
                    have c35b0 : decide (x8_3 < 0) = false := decide_eq_false c35
                    clear c35
                    by_cases c36 : (wrap64 ((rd (rd_L5 t243 x7_2) x10_3) + 1)) < x9_3
                    ·rw [if_pos c36] at H
                     have c36b0 : decide ((wrap64 ((rd (rd_L5 t243 x7_2) x10_3) + 1)) < x9_3) = true := decide_eq_true c36
                     clear c36
                     have H' := am H
                     clear H
                     go_wp2
                     go_roundg kj26
                     case measure => have := HK1.out; have := HK2.out; have := HK3.out; have := HJ26.out; omega
                     case rel => exact ⟨(x10_3), (wrap64 ((rd (rd_L5 t243 x7_2) x10_3) + 1)), (wrap64 (x10_3 + 1)), (by first | rfl | (simp; done) | (simp [*]; done)), (by first | rfl | (simp; done) | (simp [*]; done)), (by first | rfl | (simp; done) | (simp [*]; done)), H', ⟨by have := HK1.out; have := HK2.out; have := HK3.out; have := HJ26.out; omega⟩, ⟨ru HO_4.out⟩, ⟨by (with_reducible repeat (first | apply Kd.S_alloc | apply Kd.S_drewN | apply Kd.S_drew)); exact HO_6.out⟩, ⟨bu HB.out⟩⟩
                    ·rw [if_neg c36] at H
                     have c36b0 : decide ((wrap64 ((rd (rd_L5 t243 x7_2) x10_3) + 1)) < x9_3) = false := decide_eq_false c36
                     clear c36
                     have H' := am H
                     clear H
                     go_wp2
                     go_roundg kj26
                     case measure => have := HK1.out; have := HK2.out; have := HK3.out; have := HJ26.out; omega
                     case rel => exact ⟨(x8_3), (x9_3), (wrap64 (x10_3 + 1)), (by first | rfl | (simp; done) | (simp [*]; done)), (by first | rfl | (simp; done) | (simp [*]; done)), (by first | rfl | (simp; done) | (simp [*]; done)), H', ⟨by have := HK1.out; have := HK2.out; have := HK3.out; have := HJ26.out; omega⟩, ⟨ru HO_4.out⟩, ⟨by (with_reducible repeat (first | apply Kd.S_alloc | apply Kd.S_drewN | apply Kd.S_drew)); exact HO_6.out⟩, ⟨bu HB.out⟩⟩
                  ·replace c34 := Bool.eq_false_iff.mpr c34
                   subst c34
                   have H1 : (if x8_3 < 0 then (spec_SingBest.l2 kj26 l0 x4_2 t243 x7_2 x10_3 (rd (rd_L5 t243 x7_2) x10_3) (wrap64 (x10_3 + 1))) else (if (rd (rd_L5 t243 x7_2) x10_3) < x9_3 then (spec_SingBest.l2 kj26 l0 x4_2 t243 x7_2 x10_3 (rd (rd_L5 t243 x7_2) x10_3) (wrap64 (x10_3 + 1))) else (spec_SingBest.l2 kj26 l0 x4_2 t243 x7_2 x8_3 x9_3 (wrap64 (x10_3 + 1))))) = some (r1, r2) := by rw [if_neg (show ¬ (false = true) by decide)] at H; exact H
                   clear H
                   have H := H1
                   clear H1
                   by_cases c37 : x8_3 < 0
                   ·rw [if_pos c37] at H
                    have c37b0 : decide (x8_3 < 0) = true := decide_eq_true c37
                    clear c37
                    have H' := am H
                    clear H
                    go_wp2
                    go_roundg kj26
                    case measure => have := HK1.out; have := HK2.out; have := HK3.out; have := HJ26.out; omega
                    case rel => exact ⟨(x10_3), ((rd (rd_L5 t243 x7_2) x10_3)), (wrap64 (x10_3 + 1)), (by first | rfl | (simp; done) | (simp [*]; done)), (by first | rfl | (simp; done) | (simp [*]; done)), (by first | rfl | (simp; done) | (simp [*]; done)), H', ⟨by have := HK1.out; have := HK2.out; have := HK3.out; have := HJ26.out; omega⟩, ⟨ru HO_4.out⟩, ⟨by (with_reducible repeat (first | apply Kd.S_alloc | apply Kd.S_drewN | apply Kd.S_drew)); exact HO_6.out⟩, ⟨bu HB.out⟩⟩
                   ·rw [if_neg c37] at H
                    have c37b0 : decide (x8_3 < 0) = false := decide_eq_false c37
                    clear c37
                    by_cases c38 : (rd (rd_L5 t243 x7_2) x10_3) < x9_3
                    ·rw [if_pos c38] at H
                     have c38b0 : decide ((rd (rd_L5 t243 x7_2) x10_3) < x9_3) = true := decide_eq_true c38
                     clear c38
                     have H' := am H
                     clear H
                     go_wp2
                     go_roundg kj26
                     case measure => have := HK1.out; have := HK2.out; have := HK3.out; have := HJ26.out; omega
                     case rel => exact ⟨(x10_3), ((rd (rd_L5 t243 x7_2) x10_3)), (wrap64 (x10_3 + 1)), (by first | rfl | (simp; done) | (simp [*]; done)), (by first | rfl | (simp; done) | (simp [*]; done)), (by first | rfl | (simp; done) | (simp [*]; done)), H', ⟨by have := HK1.out; have := HK2.out; have := HK3.out; have := HJ26.out; omega⟩, ⟨ru HO_4.out⟩, ⟨by (with_reducible repeat (first | apply Kd.S_alloc | apply Kd.S_drewN | apply Kd.S_drew)); exact HO_6.out⟩, ⟨bu HB.out⟩⟩
                    ·rw [if_neg c38] at H
                     have c38b0 : decide ((rd (rd_L5 t243 x7_2) x10_3) < x9_3) = false := decide_eq_false c38
                     clear c38
                     have H' := am H
                     clear H
                     go_wp2
                     go_roundg kj26
                     case measure => have := HK1.out; have := HK2.out; have := HK3.out; have := HJ26.out; omega
                     case rel => exact ⟨(x8_3), (x9_3), (wrap64 (x10_3 + 1)), (by first | rfl | (simp; done) | (simp [*]; done)), (by first | rfl | (simp; done) | (simp [*]; done)), (by first | rfl | (simp; done) | (simp [*]; done)), H', ⟨by have := HK1.out; have := HK2.out; have := HK3.out; have := HJ26.out; omega⟩, ⟨ru HO_4.out⟩, ⟨by (with_reducible repeat (first | apply Kd.S_alloc | apply Kd.S_drewN | apply Kd.S_drew)); exact HO_6.out⟩, ⟨bu HB.out⟩⟩
              ·rw [if_neg c24] at H
               exact absurd H (by simp)
             ·rw [if_neg c23] at H
              exact absurd H (by simp)
            ·rw [if_neg c22] at H
             exact absurd H (by simp)
           ·rw [if_neg c21] at H
            exact absurd H (by simp)
          ·rw [if_neg c20] at H
           have c20b0 : decide (x10_3 ≤ 20) = false := decide_eq_false c20
           clear c20
           by_cases c39 : x4_2.length < 17592186044416
           ·rw [if_pos c39] at H
            have LMc39 := am c39
            clear c39
            obtain ⟨y246, hy246⟩ : ∃ y_ : List Int, y_ = (x4_2 ++ [x8_3]) := ⟨_, rfl⟩
            replace H : (spec_SingBest.l1 k3 l0 y246 t243 (wrap64 (x7_2 + 1))) = some (r1, r2) := by first | (rw [hy246]; with_reducible exact H) | (have H2_ := (Option.bind_some _ _).symm.trans H; rw [hy246]; with_reducible exact H2_) | (have H2_ := (Option.bind_some _ _).symm.trans H; with_reducible exact H2_) | with_reducible exact H | (rw [hy246]; exact H) | exact H
            have Ny246 := am hy246
            clear hy246
            have H' := am H
            clear H
            go_wp2_with (first | ((with_reducible refine gate_builtin (b := .append) (xs := #[.tmp 74, .tmp 76]) rfl ?_); at_builtin; refine Kd.R_append (Kd.int .i64) (w0 := w) w.heap.size rfl (.tmp 74) (.tmp 76) 26 3 (.int .i64 0) 8 rfl Tryd.underlying26 info3 rfl (by decide) (by omega) u4 x4_2 x8_3 [.int .i64 x8_3] (fun _ => True) (fun _ => False) rfl rfl ?aP (fun _ hk => hk.elim) ?aF ?aO ?aB ?aS ?aL ?_; (case aP => exact rfl); (case aB => exact (bu HB.out)); (case aF => exact (fun _ _ => trivial)); (case aO => exact (ru HO_4.out)); (case aS => exact (below_size (bu HB.out))); (case aL => have := LMc39.out; omega); intro v247 w40 ho hb hg hat; rw [← Ny246.out] at ho; have n0_ := am (Kd.S_after (ok := (fun _ => True)) (by (with_reducible repeat (first | apply Kd.S_alloc | apply Kd.S_drewN | apply Kd.S_drew)); exact Kd.S_mono HO_6.out (fun _ hk => ⟨trivial, hk⟩)) hg hat); have n1_ := am (hb); have n2_ := am (ho); clear HO_6; clear HB; clear HO_4; have HO_6 := n0_; have HB := n1_; have HO248 := n2_; clear n0_ n1_ n2_; clear ho hb hg hat))
            go_roundg k3
            case measure => have := HK1.out; have := HK2.out; have := HK3.out; omega
            case rel => exact ⟨(y246), (wrap64 (x7_2 + 1)), (by first | rfl | (simp; done) | (simp [*]; done)), H', ⟨by have := HK1.out; have := HK2.out; have := HK3.out; omega⟩, ⟨ru HO248.out⟩, ⟨by (with_reducible repeat (first | apply Kd.S_alloc | apply Kd.S_drewN | apply Kd.S_drew)); exact Kd.S_mono HO_6.out (fun _ hk => hk.2)⟩, ⟨bu HB.out⟩⟩
           ·rw [if_neg c39] at H
            exact absurd H (by simp)
       ·rw [if_neg c19] at H
        have c19b0 : decide (x7_2 < (l0.length : Int)) = false := decide_eq_false c19
        clear c19
        simp only [Option.some.injEq, Prod.mk.injEq] at H
        obtain ⟨rfl, rfl⟩ := H
        go_wp2
        go_ret2
        exact ⟨_, by first | rfl | (simp [errW_none, errW_some] <;> rfl) | (simp [*, errW_none, errW_some] <;> rfl), ru HO_4.out, bu HB.out⟩
 ·replace c3 := Bool.eq_false_iff.mpr c3
  subst c3
  have H1 : (some (y232, false)) = some (r1, r2) := by rw [if_neg (show ¬ (false = true) by decide)] at H; exact H
  clear H
  have H := H1
  clear H1
  simp only [Option.some.injEq, Prod.mk.injEq] at H
  obtain ⟨rfl, rfl⟩ := H
  go_enter Tryd.func38, Tryd.ntmps38
  go_wp2_with (first | ((with_reducible refine gate_dst (N := 12) rfl ?_); refine Kd.R_lit (Kd.int .i64) _ 3 ?hg (N := 12) ?hd (xs := ([] : List Int)) (inner := []) (ok := fun _ => True) (okp := fun _ => True) ?hr ?hp (fun _ hk => hk) trivial (Below.refl _ _) (Nat.le_refl _) (by simp) ?_; (case hd => rfl); (case hg => rfl); (case hr => first | (go_simp; done) | (go_simp; rfl)); (case hp => exact (Reps.none _ _)); intro v233 w41 ho42 hb hg_ hnew_; clear hg_ hnew_; (first | rw [← Ny232.out] at ho42 | (simp only [Int.reduceToNat] at ho42; rw [← Ny232.out] at ho42)); have n0_ := am (Kd.R_lower ho42 (below_size (bu HB.out))); have n1_ := am (below_step (bu HB.out) hb); clear HB; have HO234 := n0_; have HB := n1_; clear n0_ n1_; clear hb ho42) | ((with_reducible refine gate_callee (f := 93) rfl ?_); refine goesL_ (some 14) rfl rfl Tryd.func93 (by kernel_rfl) rfl #[.slice A0 l0.length c0] rfl (by (try simp only [List.map_toArray, List.map_cons, List.map_nil]); first | done | rfl | (simp only [List.length_drop, List.length_take]; rfl)) ?_; (with_reducible refine (spec_MelodyValid.calls k _ _ l0 false _ ?side1 ?side2 A2.out).mono ?_); (case side1 => repeat (first | exact (Kd.C_below HR0.out HB.out) | (with_reducible refine Kd.C_alloc ?_ _) | (with_reducible refine Kd.C_drewN ?_ _) | (with_reducible refine Kd.C_drew ?_))); (case side2 => exact HC0.out); rintro e w43 ⟨rfl, hb⟩; refine ⟨_, rfl, ?_⟩; have n0_ := am (Kd.R_below (ru HO234.out) hb); have n1_ := am (below_step (bu HB.out) hb); clear HO234; clear HB; have HO234 := n0_; have HB := n1_; clear n0_ n1_; (try clear hb); (try clear hb2); (try clear hk); (try clear hi)))
  go_ret2
  exact ⟨_, by first | rfl | (simp [errW_none, errW_some] <;> rfl) | (simp [*, errW_none, errW_some] <;> rfl), ru HO234.out, bu HB.out⟩

-- INNER impl_hexTable_at
def impl_HexSyllable.f (a0 : Int) (a1_0 : Int) (a1_1 : Bool) : Option Int := (impl_Tone_valid.f a1_0 a1_1).bind fun b => some (if isHex a0 = true then (if b = true then sylOf a0.toNat a1_0 a1_1 else -1) else -1)
set_option maxHeartbeats 4000000 in
set_option maxRecDepth 100000 in
theorem impl_HexSyllable.calls (a0 : Int) (a1_0 : Int) (a1_1 : Bool) (r : Int) (w : World) (hTL : TabL w) (h : impl_HexSyllable.f a0 a1_0 a1_1 = some r) :
  Calls Tryd.prog 41 #[.int .i64 a0, .agg #[.int .i64 a1_0, .bool a1_1]] w fun e w' => e = .returned (.int .i64 r) ∧ Below w.heap.size w w' := by
 have hu2 := Tryd.underlying30
 have HT := am (hTL.alloc (.cells #[.int .i64 a1_0, .bool a1_1] 30))
 have HB0 := am (below_alloc (Below.refl w.heap.size w) (.cells #[.int .i64 a1_0, .bool a1_1] 30))
 have HN := am (blk_new w (.cells #[.int .i64 a1_0, .bool a1_1] 30))
 clear hTL
 obtain ⟨b, hb0, h⟩ := Option.bind_eq_some_iff.mp h
 have HV := am hb0
 have e1 := Option.some.inj h
 clear h hb0
 rcases hex_cases a0 with ⟨hx, k, hk, hkx⟩ | ⟨hx, hno⟩
 ·rw [if_pos hx] at e1
  have HX := am hkx
  clear hx hkx
  cases b with
  | true =>
   rw [if_pos rfl] at e1
   have E1 := am e1
   clear e1
   go_enter Tryd.func41, Tryd.ntmps41
   go_wp2_with fail
   refine (hexachords_tab _ HT.out).mono ?_
   rintro e w1 ⟨g, ad, c, rfl, hTab, hb⟩
   have HB := am (below_step HB0.out hb)
   have HK := am (blk_below HN.out hb)
   have H := am hTab
   clear hb hTab
   go_wp2_with fail
   refine (hexAt_some H.out a0 k hk HX.out).mono ?_
   rintro e w2 ⟨rfl, rfl⟩
   have k0 : w1.cell? ⟨w.heap.size, 0, none⟩ = some (.int .i64 a1_0) := blk_cell HK.out 0
   have k1 : w1.cell? ⟨w.heap.size, 1, none⟩ = some (.bool a1_1) := blk_cell HK.out 1
   go_wp2_with fail
   refine (impl_Tone_valid.calls a1_0 a1_1 true _ HV.out).mono ?_
   rintro e w3 ⟨rfl, hb3⟩
   have HB2 := am (below_step HB.out hb3)
   have HK2 := am (blk_below HK.out hb3)
   have H2 := am (H.out.below hb3)
   clear hb3 k0 k1 HB HK H
   have k0 : w3.cell? ⟨w.heap.size, 0, none⟩ = some (.int .i64 a1_0) := blk_cell HK2.out 0
   have k1 : w3.cell? ⟨w.heap.size, 1, none⟩ = some (.bool a1_1) := blk_cell HK2.out 1
   go_wp2_with fail
   refine (syllable_any (ad.add (k * 13)) a0.toNat a1_0 a1_1 _ (fun i v hv => ?_)).mono ?_
   ·have h0 : hexAll.getD k 0 = a0.toNat := by have := HX.out; omega
    have := H2.out.row k hk i v (by rw [h0]; exact hv)
    rw [add_add]
    exact this
   ·rintro e w4 ⟨rfl, hb4⟩
    have HB3 := am (below_step HB2.out hb4)
    rw [E1.out]
    clear hb4
    go_wp2
    go_ret
    exact ⟨rfl, HB3.out⟩
  | false =>
   rw [if_neg (by decide)] at e1
   subst e1
   go_enter Tryd.func41, Tryd.ntmps41
   go_wp2_with fail
   refine (hexachords_tab _ HT.out).mono ?_
   rintro e w1 ⟨g, ad, c, rfl, hTab, hb⟩
   have HB := am (below_step HB0.out hb)
   have HK := am (blk_below HN.out hb)
   have H := am hTab
   clear hb hTab
   go_wp2_with fail
   refine (hexAt_some H.out a0 k hk HX.out).mono ?_
   rintro e w2 ⟨rfl, rfl⟩
   have k0 : w1.cell? ⟨w.heap.size, 0, none⟩ = some (.int .i64 a1_0) := blk_cell HK.out 0
   have k1 : w1.cell? ⟨w.heap.size, 1, none⟩ = some (.bool a1_1) := blk_cell HK.out 1
   go_wp2_with fail
   refine (impl_Tone_valid.calls a1_0 a1_1 false _ HV.out).mono ?_
   rintro e w3 ⟨rfl, hb3⟩
   have HB2 := am (below_step HB.out hb3)
   clear hb3 k0 k1
   go_wp2
   go_ret
   exact ⟨rfl, HB2.out⟩
 ·rw [if_neg (by rw [hx]; decide)] at e1
  subst e1
  have HX := am hno
  clear hx hno
  go_enter Tryd.func41, Tryd.ntmps41
  go_wp2_with fail
  refine (hexachords_tab _ HT.out).mono ?_
  rintro e w1 ⟨g, ad, c, rfl, hTab, hb⟩
  have HB := am (below_step HB0.out hb)
  have H := am hTab
  clear hb hTab
  go_wp2_with fail
  refine (hexAt_none H.out a0 HX.out).mono ?_
  rintro e w2 ⟨rfl, rfl⟩
  go_wp2
  go_ret
  exact ⟨rfl, HB.out⟩


/-! ### impl_SingOk: function 45 -/
mutual
def impl_SingOk.j0 : Nat → List (S30) → List Int → Bool → Option (Bool)
 | 0, _, _, _ => none
 | k + 1, x0, x1, x16 => if x16 = true then (some false) else (impl_SingOk.l0 k x1 x0 (x0.length : Int) 0)
def impl_SingOk.l0 : Nat → List Int → List (S30) → Int → Int → Option (Bool)
 | 0, _, _, _, _ => none
 | k + 1, x1, x17, x18, x19 => if x19 < x18 then (if 0 ≤ x19 then (if x19 < (x17.length : Int) then (if x19 < (x1.length : Int) then ((impl_HexSyllable.f (rd x1 x19) ((rd_T30 x17 x19).f0) ((rd_T30 x17 x19).f1)).bind fun t256 => (if t256 < 0 then (some false) else (impl_SingOk.l0 k x1 x17 x18 (wrap64 (x19 + 1))))) else (none)) else (none)) else (none)) else (some true)
end
def impl_SingOk.f (k : Nat) (l0 : List (S30)) (l1 : List Int) : Option (Bool) := (impl_MelodyValid.f k l0).bind fun t252 => (if t252 = true then (impl_SingOk.j0 k l0 l1 ((l0.length : Int) != (l1.length : Int))) else (impl_SingOk.j0 k l0 l1 true))
set_option maxHeartbeats 8000000 in
set_option maxRecDepth 100000 in
theorem impl_SingOk.calls (k : Nat) (A0 : Option Addr) (c0 : Nat) (l0 : List (S30)) (A1 : Option Addr) (c1 : Nat) (l1 : List Int) (r : Bool) (w : World) (hr0 : Kd.C k30 w A0 l0.length l0) (hc0 : l0.length ≤ c0) (hr1 : Kd.C (Kd.int .i64) w A1 l1.length l1) (hc1 : l1.length ≤ c1) (hTL : TabL w) (h : impl_SingOk.f k l0 l1 = some r) :
  Calls Tryd.prog 45 #[.slice A0 l0.length c0, .slice A1 l1.length c1] w fun e w' => e = .returned (.bool r) ∧ Below w.heap.size w w' := by
 have hu30 := Tryd.underlying30
 have HTL := am hTL
 clear hTL
 have HR0 := am hr0
 have HC0 := am hc0
 clear hr0 hc0
 have HR1 := am hr1
 have HC1 := am hc1
 clear hr1 hc1
 have HB := am (Below.refl w.heap.size w)
 have H : ((impl_MelodyValid.f k l0).bind fun t252 => (if t252 = true then (impl_SingOk.j0 k l0 l1 ((l0.length : Int) != (l1.length : Int))) else (impl_SingOk.j0 k l0 l1 true))) = some r := h
 clear h
 have HC3 := am H
 clear H
 go_enter Tryd.func45, Tryd.ntmps45
 go_upto_region 1 with (fail)
 go_cut [16] (fun v16 wc => ∃ (kq : Nat) (x16_2 : Bool), v16 = .bool x16_2 ∧ Aside0 (impl_SingOk.j0 kq l0 l1 x16_2 = some r) ∧ Aside0 (kq ≤ k) ∧ Aside0 (Below w.heap.size w wc))
 case first =>
  have H := HC3.out
  clear HC3
  replace H := Option.bind_eq_some_iff.mp H
  obtain ⟨t252, A40, H⟩ := H
  replace H : (if t252 = true then (impl_SingOk.j0 k l0 l1 ((l0.length : Int) != (l1.length : Int))) else (impl_SingOk.j0 k l0 l1 true)) = some r := H
  have A4 := am A40
  clear A40
  by_cases c5 : t252 = true
  ·subst c5
   have H1 : (impl_SingOk.j0 k l0 l1 ((l0.length : Int) != (l1.length : Int))) = some r := by rw [if_pos rfl] at H; exact H
   clear H
   have H := H1
   clear H1
   have H' := am H
   clear H
   go_wp2_with (first | ((with_reducible refine gate_callee (f := 58) rfl ?_); refine goesL_ (some 8) rfl rfl Tryd.func58 (by kernel_rfl) rfl #[.slice A0 l0.length c0] rfl (by (try simp only [List.map_toArray, List.map_cons, List.map_nil]); first | done | rfl | (simp only [List.length_drop, List.length_take]; rfl)) ?_; (with_reducible refine (impl_MelodyValid.calls k _ _ l0 true _ ?side1 ?side2 A4.out).mono ?_); (case side1 => repeat (first | exact (Kd.C_below HR0.out HB.out) | (with_reducible refine Kd.C_alloc ?_ _) | (with_reducible refine Kd.C_drewN ?_ _) | (with_reducible refine Kd.C_drew ?_))); (case side2 => exact HC0.out); rintro e w6 ⟨rfl, hb⟩; refine ⟨_, rfl, ?_⟩; have n0_ := am (below_step (bu HB.out) hb); clear HB; have HB := n0_; clear n0_; (try clear hb); (try clear hb2); (try clear hk); (try clear hi)))
   go_meet
   case rel => exact ⟨_, (((l0.length : Int) != (l1.length : Int))), (by first | rfl | (simp; done) | (simp [*]; done)), H', ⟨by first | omega | exact Nat.le_refl _⟩, ⟨bu HB.out⟩⟩
  ·replace c5 := Bool.eq_false_iff.mpr c5
   subst c5
   have H1 : (impl_SingOk.j0 k l0 l1 true) = some r := by rw [if_neg (show ¬ (false = true) by decide)] at H; exact H
   clear H
   have H := H1
   clear H1
   have H' := am H
   clear H
   go_wp2_with (first | ((with_reducible refine gate_callee (f := 58) rfl ?_); refine goesL_ (some 8) rfl rfl Tryd.func58 (by kernel_rfl) rfl #[.slice A0 l0.length c0] rfl (by (try simp only [List.map_toArray, List.map_cons, List.map_nil]); first | done | rfl | (simp only [List.length_drop, List.length_take]; rfl)) ?_; (with_reducible refine (impl_MelodyValid.calls k _ _ l0 false _ ?side1 ?side2 A4.out).mono ?_); (case side1 => repeat (first | exact (Kd.C_below HR0.out HB.out) | (with_reducible refine Kd.C_alloc ?_ _) | (with_reducible refine Kd.C_drewN ?_ _) | (with_reducible refine Kd.C_drew ?_))); (case side2 => exact HC0.out); rintro e w7 ⟨rfl, hb⟩; refine ⟨_, rfl, ?_⟩; have n0_ := am (below_step (bu HB.out) hb); clear HB; have HB := n0_; clear n0_; (try clear hb); (try clear hb2); (try clear hk); (try clear hi)))
   go_meet
   case rel => exact ⟨_, (true), (by first | rfl | (simp; done) | (simp [*]; done)), H', ⟨by first | omega | exact Nat.le_refl _⟩, ⟨bu HB.out⟩⟩
 case rest =>
  clear HC3
  try clear c1
  try clear p2
  try clear c4
  try clear c5
  obtain ⟨kq, x16_2, rfl, HA, HJ2, HB⟩ := hcut
  cases kq with
  | zero => exact absurd HA.out (by simp [impl_SingOk.j0])
  | succ kj2 =>
   have H := HA.out
   clear HA
   simp only [impl_SingOk.j0] at H
   by_cases c8 : x16_2 = true
   ·subst c8
    have H1 : (some false) = some r := by rw [if_pos rfl] at H; exact H
    clear H
    have H := H1
    clear H1
    obtain rfl := Option.some.inj H
    go_wp2
    go_ret
    exact ⟨by first | rfl | (simp [errW_none, errW_some] <;> rfl) | (simp [*, errW_none, errW_some] <;> rfl), bu HB.out⟩
   ·replace c8 := Bool.eq_false_iff.mpr c8
    subst c8
    have H1 : (impl_SingOk.l0 kj2 l1 l0 (l0.length : Int) 0) = some r := by rw [if_neg (show ¬ (false = true) by decide)] at H; exact H
    clear H
    have H := H1
    clear H1
    have H' := am H
    clear H
    go_wp2
    go_loopg [19] kj2 (fun kq v19 w' => ∃ (x19_2 : Int), v19 = .int .i64 x19_2 ∧ Aside0 (impl_SingOk.l0 kq l1 l0 (l0.length : Int) x19_2 = some r) ∧ Aside0 (kq ≤ kj2) ∧ Aside0 (Below w.heap.size w w'))
    case atStart => exact ⟨(0), (by first | rfl | (simp; done) | (simp [*]; done)), H', ⟨Nat.le_refl _⟩, ⟨bu HB.out⟩⟩
    case round =>
     clear H'
     try clear c1
     try clear p2
     try clear c4
     try clear c5
     try clear c8
     try clear p2
     obtain ⟨x19_2, rfl, HA, HK2, HB⟩ := hrel
     cases gk with
     | zero => exact absurd HA.out (by simp [impl_SingOk.l0])
     | succ k2 =>
      have H := HA.out
      clear HA
      simp only [impl_SingOk.l0] at H
      by_cases c9 : x19_2 < (l0.length : Int)
      ·rw [if_pos c9] at H
       have c9b0 : decide (x19_2 < (l0.length : Int)) = true := decide_eq_true c9
       clear c9
       by_cases c10 : 0 ≤ x19_2
       ·rw [if_pos c10] at H
        have c10b0 : decide (0 ≤ x19_2) = true := decide_eq_true c10
        clear c10
        by_cases c11 : x19_2 < (l0.length : Int)
        ·rw [if_pos c11] at H
         have c11b0 : decide (x19_2 < (l0.length : Int)) = true := decide_eq_true c11
         clear c11
         by_cases c12 : x19_2 < (l1.length : Int)
         ·rw [if_pos c12] at H
          have c12b0 : decide (x19_2 < (l1.length : Int)) = true := decide_eq_true c12
          clear c12
          replace H := Option.bind_eq_some_iff.mp H
          obtain ⟨t256, A130, H⟩ := H
          replace H : (if t256 < 0 then (some false) else (impl_SingOk.l0 k2 l1 l0 (l0.length : Int) (wrap64 (x19_2 + 1)))) = some r := H
          have A13 := am A130
          clear A130
          by_cases c14 : t256 < 0
          ·rw [if_pos c14] at H
           have c14b0 : decide (t256 < 0) = true := decide_eq_true c14
           clear c14
           obtain rfl := Option.some.inj H
           have p253 : 0 ≤ (x19_2 : Int) := od
           have q253 : x19_2 < (l0.length : Int) := od
           obtain ⟨ad253, e253, hx253_0, hx253_1⟩ := at_T30 HR0.out x19_2 p253 q253
           cases e253
           replace hx253_0 := (HB.out.cell (World.block_lt_of_cell? w _ hx253_0)).trans hx253_0
           replace hx253_1 := (HB.out.cell (World.block_lt_of_cell? w _ hx253_1)).trans hx253_1
           replace p253 := eq_true p253
           replace q253 := eq_true q253
           try go_wp2_with (first | ((with_reducible refine gate_dst (N := 6) rfl ?_); (try (refine gate_guard (by rfl) ?_; dsimp only)); refine box_event ?hg (N := 6) ?hd (cs := #[.int .i64 0, .bool false]) (t := 30) ?hr ?_; (case hd => rfl); (case hg => rfl); (case hr => first | (go_simp; done) | (go_simp; rfl)); intro gb254 hg w15 hbox hb; have n0_ := am (below_step (bu HB.out) hb); have n1_ := am (hbox); have n2_ := am ((by rw [hg]; exact (below_size (bu HB.out)) : w.heap.size ≤ gb254)); have n3_ := am ((by rw [hg]; exact (below_size (bu HB.out)) : w.heap.size ≤ gb254)); clear HB; have HB := n0_; have BK254 := n1_; have GW254 := n2_; have GE254 := n3_; clear n0_ n1_ n2_ n3_; clear hb hbox hg; have hcz16_0 : w15.cell? ⟨gb254, 0, none⟩ = some (.int .i64 0) := (blk_cell BK254.out 0).trans rfl; have hcz16_1 : w15.cell? ⟨gb254, 1, none⟩ = some (.bool false) := (blk_cell BK254.out 1).trans rfl; have hfz16_0 := blk_frozen BK254.out 0; have hfz16_1 := blk_frozen BK254.out 1))
           have n0_ : Aside0 (((w15.setCell ⟨gb254, 0, none⟩ (.int .i64 ((rd_T30 l0 x19_2).f0))).setCell ⟨gb254, 1, none⟩ (.bool ((rd_T30 l0 x19_2).f1))).heap[gb254]? = some (.cells #[.int .i64 ((rd_T30 l0 x19_2).f0), .bool ((rd_T30 l0 x19_2).f1)] 30 (0, 0))) := ⟨by (with_reducible repeat (first | refine blk_drewN ?_ _ | refine blk_drew ?_ | refine blk_alloc ?_ _)); refine blk_put (cs := #[.int .i64 ((rd_T30 l0 x19_2).f0), .bool false]) ?_ 1 _ rfl; (with_reducible repeat (first | refine blk_drewN ?_ _ | refine blk_drew ?_ | refine blk_alloc ?_ _)); refine blk_put (cs := #[.int .i64 0, .bool false]) ?_ 0 _ rfl; (with_reducible repeat (first | refine blk_drewN ?_ _ | refine blk_drew ?_ | refine blk_alloc ?_ _)); exact BK254.out⟩
           have n1_ : Aside0 (Below w.heap.size w ((w15.setCell ⟨gb254, 0, none⟩ (.int .i64 ((rd_T30 l0 x19_2).f0))).setCell ⟨gb254, 1, none⟩ (.bool ((rd_T30 l0 x19_2).f1)))) := ⟨bu HB.out⟩
           (try clear BK254)
           (try clear HB)
           generalize ((w15.setCell ⟨gb254, 0, none⟩ (.int .i64 ((rd_T30 l0 x19_2).f0))).setCell ⟨gb254, 1, none⟩ (.bool ((rd_T30 l0 x19_2).f1))) = w17 at n0_ n1_ ⊢
           have BK254 := n0_
           have HB := n1_
           clear n0_ n1_
           have n0_ := am (blk_drew BK254.out)
           have n1_ := am (below_drew1 HB.out)
           clear BK254
           clear HB
           have BK254 := n0_
           have HB := n1_
           clear n0_ n1_
           have p255 : 0 ≤ (x19_2 : Int) := od
           have q255 : x19_2 < (l1.length : Int) := od
           obtain ⟨ad255, e255, hx255_0⟩ := Kd.at_int HR1.out x19_2 p255 q255
           have hw255_0 := hx255_0
           cases e255
           replace hx255_0 := (HB.out.cell (World.block_lt_of_cell? w _ hx255_0)).trans hx255_0
           replace p255 := eq_true p255
           replace q255 := eq_true q255
           refine start_ (n := 7) (S := fun w' => w'.cell? ⟨gb254, 0, none⟩ = some (.int .i64 ((rd_T30 l0 x19_2).f0)) ∧ w'.cell? ⟨gb254, 1, none⟩ = some (.bool ((rd_T30 l0 x19_2).f1)) ∧ w'.cell? (ad255.add (x19_2).toNat) = some (.int .i64 (rd l1 x19_2))) (ds := []) #[F,F,F,F,F,F,F] (by kernel_rfl) rfl rfl ⟨(blk_cell BK254.out 0).trans rfl, (blk_cell BK254.out 1).trans rfl, ((HB.out.cell (World.block_lt_of_cell? w _ hw255_0)).trans hw255_0)⟩ (fun hHeld => ?_)
           generalize w17.drew = w18 at BK254 HB hx255_0 hHeld ⊢
           refine pz 0 (some 24) #[T,F,F,F,F,F,F] (by kernel_rfl) (h := ?_)
           refine pz 1 (some 25) #[T,T,F,F,F,F,F] (by kernel_rfl) (h := ?_)
           refine pz 2 (some 26) #[T,T,T,F,F,F,F] (by kernel_rfl) (h := ?_)
           refine tz hHeld 3 (some 27) #[T,T,T,T,F,F,F] (by kernel_rfl) (h := ?_)
           refine tz hHeld 4 (some 28) #[T,T,T,T,T,F,F] (by kernel_rfl) (h := ?_)
           refine one_ (i := 5) (N := some 29) #[T,T,T,T,T,T,F] rfl rfl (by kernel_rfl) (by decide) (fun K hK => ?_)
           refine goes_ Tryd.func41 (by kernel_rfl) rfl #[.int .i64 (rd l1 x19_2), .agg #[.int .i64 ((rd_T30 l0 x19_2).f0), .bool ((rd_T30 l0 x19_2).f1)]] (by rfl) rfl rfl (by (try simp only [List.map_toArray, List.map_cons, List.map_nil]); first | done | rfl | (simp only [List.length_drop, List.length_take]; rfl)) ?_
           with_reducible refine (impl_HexSyllable.calls (rd l1 x19_2) ((rd_T30 l0 x19_2).f0) ((rd_T30 l0 x19_2).f1) t256 _ ?side1 A13.out).mono ?_
           (case side1 => first | exact HTL.out | exact TabAt.below HTL.out (bu HB.out))
           rintro e w19 ⟨rfl, hb⟩
           refine ⟨_, rfl, ?_⟩
           have n0_ := am (blk_below (g := gb254) (o := .cells #[.int .i64 ((rd_T30 l0 x19_2).f0), .bool ((rd_T30 l0 x19_2).f1)] 30 (0, 0)) (gu BK254.out) hb)
           have n1_ := am (below_step (bu HB.out) hb)
           clear BK254
           clear HB
           have BK254 := n0_
           have HB := n1_
           clear n0_ n1_
           (try clear hb)
           (try clear hb2)
           (try clear hk)
           (try clear hi)
           refine hK.out _ _ ⟨(blk_cell BK254.out 0).trans rfl, (blk_cell BK254.out 1).trans rfl, ((HB.out.cell (World.block_lt_of_cell? w _ hw255_0)).trans hw255_0)⟩ (fun hHeld => ?_)
           clear hK K
           refine norm_ (a' := ?_) ?_ ?_
           rotate_left
           ·show Act.put _ (some 29) _ = _
            simp only [Act.put, sA, sZ, sS, i64_w, i32_w]
            rfl
           refine pz 6 (some 30) #[T,T,T,T,T,T,T] (by kernel_rfl) (h := ?_)
           refine done_ (by kernel_rfl) ?_
           try go_wp2
           go_ret
           exact ⟨by first | rfl | (simp [errW_none, errW_some] <;> rfl) | (simp [*, errW_none, errW_some] <;> rfl), bu HB.out⟩
          ·rw [if_neg c14] at H
           have c14b0 : decide (t256 < 0) = false := decide_eq_false c14
           clear c14
           have H' := am H
           clear H
           have p253 : 0 ≤ (x19_2 : Int) := od
           have q253 : x19_2 < (l0.length : Int) := od
           obtain ⟨ad253, e253, hx253_0, hx253_1⟩ := at_T30 HR0.out x19_2 p253 q253
           cases e253
           replace hx253_0 := (HB.out.cell (World.block_lt_of_cell? w _ hx253_0)).trans hx253_0
           replace hx253_1 := (HB.out.cell (World.block_lt_of_cell? w _ hx253_1)).trans hx253_1
           replace p253 := eq_true p253
           replace q253 := eq_true q253
           try go_wp2_with (first | ((with_reducible refine gate_dst (N := 6) rfl ?_); (try (refine gate_guard (by rfl) ?_; dsimp only)); refine box_event ?hg (N := 6) ?hd (cs := #[.int .i64 0, .bool false]) (t := 30) ?hr ?_; (case hd => rfl); (case hg => rfl); (case hr => first | (go_simp; done) | (go_simp; rfl)); intro gb254 hg w20 hbox hb; have n0_ := am (below_step (bu HB.out) hb); have n1_ := am (hbox); have n2_ := am ((by rw [hg]; exact (below_size (bu HB.out)) : w.heap.size ≤ gb254)); have n3_ := am ((by rw [hg]; exact (below_size (bu HB.out)) : w.heap.size ≤ gb254)); clear HB; have HB := n0_; have BK254 := n1_; have GW254 := n2_; have GE254 := n3_; clear n0_ n1_ n2_ n3_; clear hb hbox hg; have hcz21_0 : w20.cell? ⟨gb254, 0, none⟩ = some (.int .i64 0) := (blk_cell BK254.out 0).trans rfl; have hcz21_1 : w20.cell? ⟨gb254, 1, none⟩ = some (.bool false) := (blk_cell BK254.out 1).trans rfl; have hfz21_0 := blk_frozen BK254.out 0; have hfz21_1 := blk_frozen BK254.out 1))
           have n0_ : Aside0 (((w20.setCell ⟨gb254, 0, none⟩ (.int .i64 ((rd_T30 l0 x19_2).f0))).setCell ⟨gb254, 1, none⟩ (.bool ((rd_T30 l0 x19_2).f1))).heap[gb254]? = some (.cells #[.int .i64 ((rd_T30 l0 x19_2).f0), .bool ((rd_T30 l0 x19_2).f1)] 30 (0, 0))) := ⟨by (with_reducible repeat (first | refine blk_drewN ?_ _ | refine blk_drew ?_ | refine blk_alloc ?_ _)); refine blk_put (cs := #[.int .i64 ((rd_T30 l0 x19_2).f0), .bool false]) ?_ 1 _ rfl; (with_reducible repeat (first | refine blk_drewN ?_ _ | refine blk_drew ?_ | refine blk_alloc ?_ _)); refine blk_put (cs := #[.int .i64 0, .bool false]) ?_ 0 _ rfl; (with_reducible repeat (first | refine blk_drewN ?_ _ | refine blk_drew ?_ | refine blk_alloc ?_ _)); exact BK254.out⟩
           have n1_ : Aside0 (Below w.heap.size w ((w20.setCell ⟨gb254, 0, none⟩ (.int .i64 ((rd_T30 l0 x19_2).f0))).setCell ⟨gb254, 1, none⟩ (.bool ((rd_T30 l0 x19_2).f1)))) := ⟨bu HB.out⟩
           (try clear BK254)
           (try clear HB)
           generalize ((w20.setCell ⟨gb254, 0, none⟩ (.int .i64 ((rd_T30 l0 x19_2).f0))).setCell ⟨gb254, 1, none⟩ (.bool ((rd_T30 l0 x19_2).f1))) = w22 at n0_ n1_ ⊢
           have BK254 := n0_
           have HB := n1_
           clear n0_ n1_
           have n0_ := am (blk_drew BK254.out)
           have n1_ := am (below_drew1 HB.out)
           clear BK254
           clear HB
           have BK254 := n0_
           have HB := n1_
           clear n0_ n1_
           have p255 : 0 ≤ (x19_2 : Int) := od
           have q255 : x19_2 < (l1.length : Int) := od
           obtain ⟨ad255, e255, hx255_0⟩ := Kd.at_int HR1.out x19_2 p255 q255
           have hw255_0 := hx255_0
           cases e255
           replace hx255_0 := (HB.out.cell (World.block_lt_of_cell? w _ hx255_0)).trans hx255_0
           replace p255 := eq_true p255
           replace q255 := eq_true q255
           refine start_ (n := 7) (S := fun w' => w'.cell? ⟨gb254, 0, none⟩ = some (.int .i64 ((rd_T30 l0 x19_2).f0)) ∧ w'.cell? ⟨gb254, 1, none⟩ = some (.bool ((rd_T30 l0 x19_2).f1)) ∧ w'.cell? (ad255.add (x19_2).toNat) = some (.int .i64 (rd l1 x19_2))) (ds := []) #[F,F,F,F,F,F,F] (by kernel_rfl) rfl rfl ⟨(blk_cell BK254.out 0).trans rfl, (blk_cell BK254.out 1).trans rfl, ((HB.out.cell (World.block_lt_of_cell? w _ hw255_0)).trans hw255_0)⟩ (fun hHeld => ?_)
           generalize w22.drew = w23 at BK254 HB hx255_0 hHeld ⊢
           refine pz 0 (some 24) #[T,F,F,F,F,F,F] (by kernel_rfl) (h := ?_)
           refine pz 1 (some 25) #[T,T,F,F,F,F,F] (by kernel_rfl) (h := ?_)
           refine pz 2 (some 26) #[T,T,T,F,F,F,F] (by kernel_rfl) (h := ?_)
           refine tz hHeld 3 (some 27) #[T,T,T,T,F,F,F] (by kernel_rfl) (h := ?_)
           refine tz hHeld 4 (some 28) #[T,T,T,T,T,F,F] (by kernel_rfl) (h := ?_)
           refine one_ (i := 5) (N := some 29) #[T,T,T,T,T,T,F] rfl rfl (by kernel_rfl) (by decide) (fun K hK => ?_)
           refine goes_ Tryd.func41 (by kernel_rfl) rfl #[.int .i64 (rd l1 x19_2), .agg #[.int .i64 ((rd_T30 l0 x19_2).f0), .bool ((rd_T30 l0 x19_2).f1)]] (by rfl) rfl rfl (by (try simp only [List.map_toArray, List.map_cons, List.map_nil]); first | done | rfl | (simp only [List.length_drop, List.length_take]; rfl)) ?_
           with_reducible refine (impl_HexSyllable.calls (rd l1 x19_2) ((rd_T30 l0 x19_2).f0) ((rd_T30 l0 x19_2).f1) t256 _ ?side1 A13.out).mono ?_
           (case side1 => first | exact HTL.out | exact TabAt.below HTL.out (bu HB.out))
           rintro e w24 ⟨rfl, hb⟩
           refine ⟨_, rfl, ?_⟩
           have n0_ := am (blk_below (g := gb254) (o := .cells #[.int .i64 ((rd_T30 l0 x19_2).f0), .bool ((rd_T30 l0 x19_2).f1)] 30 (0, 0)) (gu BK254.out) hb)
           have n1_ := am (below_step (bu HB.out) hb)
           clear BK254
           clear HB
           have BK254 := n0_
           have HB := n1_
           clear n0_ n1_
           (try clear hb)
           (try clear hb2)
           (try clear hk)
           (try clear hi)
           refine hK.out _ _ ⟨(blk_cell BK254.out 0).trans rfl, (blk_cell BK254.out 1).trans rfl, ((HB.out.cell (World.block_lt_of_cell? w _ hw255_0)).trans hw255_0)⟩ (fun hHeld => ?_)
           clear hK K
           refine norm_ (a' := ?_) ?_ ?_
           rotate_left
           ·show Act.put _ (some 29) _ = _
            simp only [Act.put, sA, sZ, sS, i64_w, i32_w]
            rfl
           refine pz 6 (some 30) #[T,T,T,T,T,T,T] (by kernel_rfl) (h := ?_)
           refine done_ (by kernel_rfl) ?_
           try go_wp2
           go_roundg k2
           case measure => have := HJ2.out; have := HK2.out; omega
           case rel => exact ⟨(wrap64 (x19_2 + 1)), (by first | rfl | (simp; done) | (simp [*]; done)), H', ⟨by have := HJ2.out; have := HK2.out; omega⟩, ⟨bu HB.out⟩⟩
         ·rw [if_neg c12] at H
          exact absurd H (by simp)
        ·rw [if_neg c11] at H
         exact absurd H (by simp)
       ·rw [if_neg c10] at H
        exact absurd H (by simp)
      ·rw [if_neg c9] at H
       have c9b0 : decide (x19_2 < (l0.length : Int)) = false := decide_eq_false c9
       clear c9
       obtain rfl := Option.some.inj H
       go_wp2
       go_ret
       exact ⟨by first | rfl | (simp [errW_none, errW_some] <;> rfl) | (simp [*, errW_none, errW_some] <;> rfl), bu HB.out⟩

end Go.Proofs.YtcndojoghmblaaaDoor.SF
