-- Made by this session's gprint.py out of the translation. Not trusted: Lean checks it. -- SLIM -- SQUEEZED
import Derived.Test.YtjnkmckklmabcaaGreatDoorXLx0
import Derived.Test.YtjnkmckklmabcaaGreatDoorXLx3
import Derived.Test.YtjnkmckklmabcaaGreatDoorXLx6
import Derived.Test.YtjnkmckklmabcaaGreatDoorXLx7
import Derived.Test.YtjnkmckklmabcaaGreatDoorXLx8
import Derived.Test.YtjnkmckklmabcaaGreatDoorXLx9
import Derived.Test.YtjnkmckklmabcaaGreatDoorXLx10
import Derived.Test.YtjnkmckklmabcaaGreatDoorXLx11
namespace Go.Proofs.YtjnkmckklmabcaaGreatDoor.XL
open Go.RowKit Go.Proofs.YtjnkmckklmabcaaGreatDoorW.PrintWords Go.Proofs.YtjnkmckklmabcaaGreatDoorW.PrintLast Go.Proofs.YtjnkmckklmabcaaGreatDoorW.PrintMore
attribute [local go_sem] max2_int min2_int max_two min_two max_three min_three max_four min_four   -- for this text's walks alone
set_option maxHeartbeats 8000000
set_option maxRecDepth 100000
set_option linter.unusedVariables false
set_option linter.unusedSimpArgs false

/-! ### spec_SingBest: function 33 -/
mutual
def spec_SingBest.l0 : Nat → List (S74) → List Int → Int → Option (List Int × Bool)
 | 0, _, _, _ => none
 | k + 1, x0, x4, x5 => if x5 < (x0.length : Int) then (if 0 ≤ x5 then ((spec_HexAll.f k ((rd_T74 x0 x5).f0) ((rd_T74 x0 x5).f1)).bind fun t261 => (if (t261.length : Int) = 0 then (some ((([] : List Int)), false)) else (spec_SingBest.l0 k x0 x4 (wrap64 (x5 + 1))))) else (none)) else ((spec_l2Fewest.f k x0).bind fun t267 => (spec_SingBest.l1 k x0 x4 t267 0))
def spec_SingBest.l1 : Nat → List (S74) → List Int → List (List Int) → Int → Option (List Int × Bool)
 | 0, _, _, _, _ => none
 | k + 1, x0, x4, x6, x7 => if x7 < (x0.length : Int) then (spec_SingBest.l2 k x0 x4 x6 x7 (-1) (-1) 0) else (some (x4, true))
def spec_SingBest.l2 : Nat → List (S74) → List Int → List (List Int) → Int → Int → Int → Int → Option (List Int × Bool)
 | 0, _, _, _, _, _, _, _ => none
 | k + 1, x0, x4, x6, x7, x8, x9, x10 => if x10 ≤ 20 then (if 0 ≤ x7 then (if x7 < (x6.length : Int) then (if 0 ≤ x10 then (if x10 < ((rd_L8 x6 x7).length : Int) then (if (rd (rd_L8 x6 x7) x10) < 0 then (spec_SingBest.l2 k x0 x4 x6 x7 x8 x9 (wrap64 (x10 + 1))) else (if x7 > 0 then (if 0 ≤ (wrap64 (x7 - 1)) then (if (wrap64 (x7 - 1)) < (x4.length : Int) then (spec_SingBest.j3 k x0 x4 x6 x7 x8 x9 x10 (rd (rd_L8 x6 x7) x10) (x10 != (rd x4 (wrap64 (x7 - 1))))) else (none)) else (none)) else (spec_SingBest.j3 k x0 x4 x6 x7 x8 x9 x10 (rd (rd_L8 x6 x7) x10) false))) else (none)) else (none)) else (none)) else (none)) else (if x4.length < 17592186044416 then (spec_SingBest.l1 k x0 (x4 ++ [x8]) x6 (wrap64 (x7 + 1))) else (none))
def spec_SingBest.j3 : Nat → List (S74) → List Int → List (List Int) → Int → Int → Int → Int → Int → Bool → Option (List Int × Bool)
 | 0, _, _, _, _, _, _, _, _, _ => none
 | k + 1, x0, x4, x6, x7, x8, x9, x10, x11, x62 => if x62 = true then (if x8 < 0 then (spec_SingBest.l2 k x0 x4 x6 x7 x10 (wrap64 (x11 + 1)) (wrap64 (x10 + 1))) else (if (wrap64 (x11 + 1)) < x9 then (spec_SingBest.l2 k x0 x4 x6 x7 x10 (wrap64 (x11 + 1)) (wrap64 (x10 + 1))) else (spec_SingBest.l2 k x0 x4 x6 x7 x8 x9 (wrap64 (x10 + 1))))) else (if x8 < 0 then (spec_SingBest.l2 k x0 x4 x6 x7 x10 x11 (wrap64 (x10 + 1))) else (if x11 < x9 then (spec_SingBest.l2 k x0 x4 x6 x7 x10 x11 (wrap64 (x10 + 1))) else (spec_SingBest.l2 k x0 x4 x6 x7 x8 x9 (wrap64 (x10 + 1)))))
end
def spec_SingBest.f (k : Nat) (l0 : List (S74)) : Option (List Int × Bool) := (some (([] : List Int) : List Int)).bind fun y256 => ((spec_MelodyValid.f k l0).bind fun t259 => (if t259 = true then (spec_SingBest.l0 k l0 y256 0) else (some (y256, false))))
theorem spec_SingBest.calls (k : Nat) (A0 : Option Addr) (c0 : Nat) (l0 : List (S74)) (r1 : List Int) (r2 : Bool) (w : World) (hr0 : Kd.C k74 w A0 l0.length l0) (hc0 : l0.length ≤ c0) (h : spec_SingBest.f k l0 = some (r1, r2)) :
  Calls Tryz.prog 33 #[.slice A0 l0.length c0] w fun e w' => ∃ v0_ : Value, e = .returned (.tuple #[v0_, .bool r2]) ∧ Kd.R (Kd.int .i64) 3 w' w.heap.size (fun _ => True) v0_ r1 ∧ Below w.heap.size w w' := by
 have hu74 := Tryz.underlying74
 have HR0 := am hr0
 have HC0 := am hc0
 clear hr0 hc0
 have HB := am (Below.refl w.heap.size w)
 have H : ((some (([] : List Int) : List Int)).bind fun y256 => ((spec_MelodyValid.f k l0).bind fun t259 => (if t259 = true then (spec_SingBest.l0 k l0 y256 0) else (some (y256, false))))) = some (r1, r2) := h
 clear h
 obtain ⟨y256, hy256⟩ : ∃ y_ : List Int, y_ = (([] : List Int)) := ⟨_, rfl⟩
 replace H : ((spec_MelodyValid.f k l0).bind fun t259 => (if t259 = true then (spec_SingBest.l0 k l0 y256 0) else (some (y256, false)))) = some (r1, r2) := by first | (rw [hy256]; with_reducible exact H) | (have H2_ := (Option.bind_some _ _).symm.trans H; rw [hy256]; with_reducible exact H2_) | (have H2_ := (Option.bind_some _ _).symm.trans H; with_reducible exact H2_) | with_reducible exact H | (rw [hy256]; exact H) | exact H
 have Ny256 := am hy256
 clear hy256
 replace H := Option.bind_eq_some_iff.mp H
 obtain ⟨t259, A20, H⟩ := H
 replace H : (if t259 = true then (spec_SingBest.l0 k l0 y256 0) else (some (y256, false))) = some (r1, r2) := H
 have A2 := am A20
 clear A20
 by_cases c3 : t259 = true
 ·subst c3
  have H1 : (spec_SingBest.l0 k l0 y256 0) = some (r1, r2) := by rw [if_pos rfl] at H; exact H
  clear H
  have H := H1
  clear H1
  have H' := am H
  clear H
  go_enter Tryz.func33, Tryz.ntmps33
  go_wp2_with (first | ((with_reducible refine gate_dst (N := 12) rfl ?_); refine Kd.R_lit (Kd.int .i64) _ 3 ?hg (N := 12) ?hd (xs := ([] : List Int)) (inner := []) (ok := fun _ => True) (okp := fun _ => True) ?hr ?hp (fun _ hk => hk) trivial (Below.refl _ _) (Nat.le_refl _) (by simp) ?_; (case hd => rfl); (case hg => rfl); (case hr => first | (go_simp; done) | (go_simp; rfl)); (case hp => exact (Reps.none _ _)); intro v257 w4 ho5 hb hg_ hnew_; clear hg_ hnew_; (first | rw [← Ny256.out] at ho5 | (simp only [Int.reduceToNat] at ho5; rw [← Ny256.out] at ho5)); have n0_ := am (Kd.R_lower ho5 (below_size (bu HB.out))); have n1_ := am (below_step (bu HB.out) hb); clear HB; have HO258 := n0_; have HB := n1_; clear n0_ n1_; clear hb ho5) | ((with_reducible refine gate_callee (f := 57) rfl ?_); refine goesL_ (some 14) rfl rfl Tryz.func57 (by kernel_rfl) rfl #[.slice A0 l0.length c0] rfl (by (try simp only [mA, mC, mN]); first | done | rfl) ?_; (with_reducible refine (spec_MelodyValid.calls k _ _ l0 true _ ?side1 ?side2 A2.out).mono ?_); (case side1 => repeat (first | exact (Kd.C_below HR0.out HB.out) | (with_reducible refine Kd.C_alloc ?_ _) | (with_reducible refine Kd.C_drewN ?_ _) | (with_reducible refine Kd.C_drew ?_))); (case side2 => exact HC0.out); rintro e w6 ⟨rfl, hb⟩; refine ⟨_, rfl, ?_⟩; have n0_ := am (Kd.R_below (ru HO258.out) hb); have n1_ := am (below_step (bu HB.out) hb); clear HO258; clear HB; have HO258 := n0_; have HB := n1_; clear n0_ n1_; (try clear hb); (try clear hb2); (try clear hk); (try clear hi)))
  go_loopg [5] k (fun kq v5 w' => ∃ (x5_1 : Int), v5 = .int .i64 x5_1 ∧ Aside0 (spec_SingBest.l0 kq l0 y256 x5_1 = some (r1, r2)) ∧ Aside0 (kq ≤ k) ∧ Aside0 (Kd.R (Kd.int .i64) 3 w' w.heap.size (fun _ => True) v257 y256) ∧ Aside0 (Below w.heap.size w w'))
  case atStart => exact ⟨(0), (by first | rfl | simp | simp [*]), H', ⟨Nat.le_refl _⟩, ⟨ru HO258.out⟩, ⟨bu HB.out⟩⟩
  case round =>
   clear H'
   (try clear p2); (try clear c3); (try clear c5)
   obtain ⟨x5_1, rfl, HA, HK1, HO_4, HB⟩ := hrel
   cases gk with
   | zero => exact absurd HA.out (by simp [spec_SingBest.l0])
   | succ k1 =>
    have H := HA.out
    clear HA
    simp only [spec_SingBest.l0] at H
    by_cases c7 : x5_1 < (l0.length : Int)
    ·rw [if_pos c7] at H
     have c7b0 : decide (x5_1 < (l0.length : Int)) = true := decide_eq_true c7
     clear c7
     by_cases c8 : 0 ≤ x5_1
     case neg => rw [if_neg c8] at H; exact absurd H (by simp)
     rw [if_pos c8] at H
     have c8b0 : decide (0 ≤ x5_1) = true := decide_eq_true c8
     clear c8
     replace H := Option.bind_eq_some_iff.mp H
     obtain ⟨t261, A90, H⟩ := H
     replace H : (if (t261.length : Int) = 0 then (some ((([] : List Int)), false)) else (spec_SingBest.l0 k1 l0 y256 (wrap64 (x5_1 + 1)))) = some (r1, r2) := H
     have A9 := am A90
     clear A90
     by_cases c10 : (t261.length : Int) = 0
     ·rw [if_pos c10] at H
      have c10b0 : ((t261.length : Int) == 0) = true := beq_iff_eq.mpr c10
      have c10b1 : ((t261.length : Int) != 0) = false := bne_eq_false_iff_eq.mpr c10
      clear c10
      obtain ⟨y264, hy264⟩ : ∃ y_ : List Int, y_ = (([] : List Int)) := ⟨_, rfl⟩
      replace H : (some (y264, false)) = some (r1, r2) := by first | (rw [hy264]; with_reducible exact H) | (have H2_ := (Option.bind_some _ _).symm.trans H; rw [hy264]; with_reducible exact H2_) | (have H2_ := (Option.bind_some _ _).symm.trans H; with_reducible exact H2_) | with_reducible exact H | (rw [hy264]; exact H) | exact H
      have Ny264 := am hy264
      clear hy264
      simp only [Option.some.injEq, Prod.mk.injEq] at H
      obtain ⟨rfl, rfl⟩ := H
      have p260 : 0 ≤ (x5_1 : Int) := od
      have q260 : x5_1 < (l0.length : Int) := od
      obtain ⟨ad260, e260, hx260_0, hx260_1⟩ := at_T74 HR0.out x5_1 p260 q260
      cases e260
      replace hx260_0 := (HB.out.cell (World.block_lt_of_cell? w _ hx260_0)).trans hx260_0
      replace hx260_1 := (HB.out.cell (World.block_lt_of_cell? w _ hx260_1)).trans hx260_1
      replace p260 := eq_true p260
      replace q260 := eq_true q260
      go_wp2_with (first | ((with_reducible refine gate_callee (f := 71) rfl ?_); refine goesL_ (some 27) rfl rfl Tryz.func71 (by kernel_rfl) rfl #[.agg #[.int .i64 ((rd_T74 l0 x5_1).f0), .bool ((rd_T74 l0 x5_1).f1)]] rfl (by (try simp only [mA, mC, mN]); first | done | rfl) ?_; (with_reducible refine (spec_HexAll.calls k1 ((rd_T74 l0 x5_1).f0) ((rd_T74 l0 x5_1).f1) t261 _ A9.out).mono ?_); rintro e w11 ⟨v262, rfl, ho0, hb⟩; refine ⟨_, rfl, ?_⟩; have n0_ := am (Kd.R_elder' (ru HO_4.out) (Kd.R_base ho0) hb); have n1_ := am (Kd.R_lower (Kd.R_new' ho0 (Kd.R_lt (ru HO_4.out))) (below_size (bu HB.out))); have n2_ := am (below_step (bu HB.out) hb); clear HO_4; clear HB; have HO_4 := n0_; have HO263 := n1_; have HB := n2_; clear n0_ n1_ n2_; (try clear hb); (try clear hb2); (try clear hk); (try clear hi); (try clear ho0); obtain ⟨Ao12, co12, eo12⟩ := Kd.R_slice HO263.out; subst eo12) | ((with_reducible refine gate_dst (N := 30) rfl ?_); refine Kd.R_lit (Kd.int .i64) _ 3 ?hg (N := 30) ?hd (xs := ([] : List Int)) (inner := []) (ok := fun _ => True) (okp := fun _ => True) ?hr ?hp (fun _ hk => hk) trivial (Below.refl _ _) (Nat.le_refl _) (by simp) ?_; (case hd => rfl); (case hg => rfl); (case hr => first | (go_simp; done) | (go_simp; rfl)); (case hp => exact (Reps.none _ _)); intro v265 w13 ho14 hb hg_ hnew_; clear hg_ hnew_; (first | rw [← Ny264.out] at ho14 | (simp only [Int.reduceToNat] at ho14; rw [← Ny264.out] at ho14)); have n0_ := am (Kd.R_elder' (ru HO_4.out) (Kd.R_base ho14) hb); have n1_ := am (Kd.R_elder' (ru HO263.out) (Kd.R_base ho14) hb); have n2_ := am (Kd.R_lower (Kd.R_new' (Kd.R_new' ho14 (Kd.R_lt (ru HO_4.out))) (Kd.R_lt (ru HO263.out))) (below_size (bu HB.out))); have n3_ := am (below_step (bu HB.out) hb); clear HO_4; clear HO263; clear HB; have HO_4 := n0_; have HO263 := n1_; have HO266 := n2_; have HB := n3_; clear n0_ n1_ n2_ n3_; clear hb ho14))
      go_ret2
      exact ⟨_, by first | rfl | (simp [*] <;> rfl), by (with_reducible repeat (first | apply Kd.R_alloc | apply Kd.R_drewN | apply Kd.R_drew)); exact Kd.R_mono HO266.out (fun _ hk => trivial), bu HB.out⟩
     rw [if_neg c10] at H
     have c10b0 : ((t261.length : Int) == 0) = false := beq_eq_false_iff_ne.mpr c10
     have c10b1 : ((t261.length : Int) != 0) = true := bne_iff_ne.mpr c10
     have c10b2 : ¬ (t261 = []) := fun h_ => c10 (by rw [h_]; rfl)
     have H' := am H
     clear H
     have p260 : 0 ≤ (x5_1 : Int) := od
     have q260 : x5_1 < (l0.length : Int) := od
     obtain ⟨ad260, e260, hx260_0, hx260_1⟩ := at_T74 HR0.out x5_1 p260 q260
     cases e260
     replace hx260_0 := (HB.out.cell (World.block_lt_of_cell? w _ hx260_0)).trans hx260_0
     replace hx260_1 := (HB.out.cell (World.block_lt_of_cell? w _ hx260_1)).trans hx260_1
     replace p260 := eq_true p260
     replace q260 := eq_true q260
     go_wp2_with ((with_reducible refine gate_callee (f := 71) rfl ?_); refine goesL_ (some 27) rfl rfl Tryz.func71 (by kernel_rfl) rfl #[.agg #[.int .i64 ((rd_T74 l0 x5_1).f0), .bool ((rd_T74 l0 x5_1).f1)]] rfl (by (try simp only [mA, mC, mN]); first | done | rfl) ?_; (with_reducible refine (spec_HexAll.calls k1 ((rd_T74 l0 x5_1).f0) ((rd_T74 l0 x5_1).f1) t261 _ A9.out).mono ?_); rintro e w15 ⟨v262, rfl, ho0, hb⟩; refine ⟨_, rfl, ?_⟩; have n0_ := am (Kd.R_elder' (ru HO_4.out) (Kd.R_base ho0) hb); have n1_ := am (Kd.R_lower (Kd.R_new' ho0 (Kd.R_lt (ru HO_4.out))) (below_size (bu HB.out))); have n2_ := am (below_step (bu HB.out) hb); clear HO_4; clear HB; have HO_4 := n0_; have HO263 := n1_; have HB := n2_; clear n0_ n1_ n2_; (try clear hb); (try clear hb2); (try clear hk); (try clear hi); (try clear ho0); obtain ⟨Ao16, co16, eo16⟩ := Kd.R_slice HO263.out; subst eo16)
     go_roundg k1
     case measure => have := HK1.out; omega
     case rel => exact ⟨(wrap64 (x5_1 + 1)), (by first | rfl | simp | simp [*]), H', ⟨by have := HK1.out; omega⟩, ⟨by (with_reducible repeat (first | apply Kd.R_alloc | apply Kd.R_drewN | apply Kd.R_drew)); exact Kd.R_mono HO_4.out (fun _ hk => trivial)⟩, ⟨bu HB.out⟩⟩
    rw [if_neg c7] at H
    have c7b0 : decide (x5_1 < (l0.length : Int)) = false := decide_eq_false c7
    clear c7
    replace H := Option.bind_eq_some_iff.mp H
    obtain ⟨t267, A170, H⟩ := H
    replace H : (spec_SingBest.l1 k1 l0 y256 t267 0) = some (r1, r2) := H
    have A17 := am A170
    clear A170
    have H' := am H
    clear H
    go_wp2_with ((with_reducible refine gate_callee (f := 72) rfl ?_); refine goesL_ (some 32) rfl rfl Tryz.func72 (by kernel_rfl) rfl #[.slice A0 l0.length c0] rfl (by (try simp only [mA, mC, mN]); first | done | rfl) ?_; (with_reducible refine (spec_l2Fewest.calls k1 _ _ l0 t267 _ ?side1 ?side2 A17.out).mono ?_); (case side1 => repeat (first | exact (Kd.C_below HR0.out HB.out) | (with_reducible refine Kd.C_alloc ?_ _) | (with_reducible refine Kd.C_drewN ?_ _) | (with_reducible refine Kd.C_drew ?_))); (case side2 => exact HC0.out); rintro e w18 ⟨v268, rfl, ho0, hb⟩; refine ⟨_, rfl, ?_⟩; have n0_ := am (Kd.R_below (ru HO_4.out) hb); have n1_ := am (Kd.S_lower (Kd.S_new' ho0 (Kd.R_lt (ru HO_4.out))) (below_size (bu HB.out))); have n2_ := am (below_step (bu HB.out) hb); clear HO_4; clear HB; have HO_4 := n0_; have HO269 := n1_; have HB := n2_; clear n0_ n1_ n2_; (try clear hb); (try clear hb2); (try clear hk); (try clear hi); (try clear ho0))
    go_loopg [4, 7] k1 (fun kq v4 v7 w' => ∃ (x4_2 : List Int) (x7_2 : Int), v7 = .int .i64 x7_2 ∧ Aside0 (spec_SingBest.l1 kq l0 x4_2 t267 x7_2 = some (r1, r2)) ∧ Aside0 (kq ≤ k1) ∧ Aside0 (Kd.R (Kd.int .i64) 3 w' w.heap.size (fun _ => True) v4 x4_2) ∧ Aside0 (Kd.S (Kd.slice 3 (Kd.int .i64)) 28 w' w.heap.size (fun k_ => some k_ ≠ (v4 : Value).ownBlock) v268 t267) ∧ Aside0 (Below w.heap.size w w'))
    case atStart => exact ⟨(y256), (0), (by first | rfl | simp | simp [*]), H', ⟨Nat.le_refl _⟩, ⟨ru HO_4.out⟩, ⟨by (with_reducible repeat (first | apply Kd.S_alloc | apply Kd.S_drewN | apply Kd.S_drew)); exact Kd.S_mono HO269.out (fun _ hk => hk.2)⟩, ⟨bu HB.out⟩⟩
    case round =>
     clear H'
     (try clear c1); (try clear p2); (try clear q2); (try clear hx2); (try clear c3); (try clear c5); (try clear p6); (try clear c7); (try clear c7b0); (try clear c8); (try clear c8b0); (try clear c10); (try clear c10b0); (try clear c10b1); (try clear c10b2); (try clear hx260_0); (try clear hx260_1); (try clear p2); (try clear p260); (try clear q260)
     obtain ⟨x4_2, x7_2, rfl, HA, HK2, HO_4, HO_6, HB⟩ := hrel
     cases gk with
     | zero => exact absurd HA.out (by simp [spec_SingBest.l1])
     | succ k2 =>
      have H := HA.out
      clear HA
      simp only [spec_SingBest.l1] at H
      by_cases c19 : x7_2 < (l0.length : Int)
      ·rw [if_pos c19] at H
       have c19b0 : decide (x7_2 < (l0.length : Int)) = true := decide_eq_true c19
       clear c19
       have H' := am H
       clear H
       go_wp2
       go_loopg [8, 9, 10] k2 (fun kq v8 v9 v10 w' => ∃ (x8_3 : Int) (x9_3 : Int) (x10_3 : Int), v8 = .int .i64 x8_3 ∧ v9 = .int .i64 x9_3 ∧ v10 = .int .i64 x10_3 ∧ Aside0 (spec_SingBest.l2 kq l0 x4_2 t267 x7_2 x8_3 x9_3 x10_3 = some (r1, r2)) ∧ Aside0 (kq ≤ k2) ∧ Aside0 (Kd.R (Kd.int .i64) 3 w' w.heap.size (fun _ => True) u4 x4_2) ∧ Aside0 (Kd.S (Kd.slice 3 (Kd.int .i64)) 28 w' w.heap.size (fun k_ => some k_ ≠ (u4 : Value).ownBlock) v268 t267) ∧ Aside0 (Below w.heap.size w w'))
       case atStart => exact ⟨((-1)), ((-1)), (0), (by first | rfl | simp | simp [*]), (by first | rfl | simp | simp [*]), (by first | rfl | simp | simp [*]), H', ⟨Nat.le_refl _⟩, ⟨ru HO_4.out⟩, ⟨by (with_reducible repeat (first | apply Kd.S_alloc | apply Kd.S_drewN | apply Kd.S_drew)); exact HO_6.out⟩, ⟨bu HB.out⟩⟩
       case round =>
        clear H'
        (try clear c1); (try clear p2); (try clear q2); (try clear hx2); (try clear c3); (try clear c5); (try clear p6); (try clear c7); (try clear c7b0); (try clear c8); (try clear c8b0); (try clear c10); (try clear c10b0); (try clear c10b1); (try clear c10b2); (try clear c19); (try clear c19b0); (try clear hx260_0); (try clear hx260_1); (try clear p2); (try clear p260); (try clear p6); (try clear q2); (try clear q260)
        obtain ⟨x8_3, x9_3, x10_3, rfl, rfl, rfl, HA, HK3, HO_4, HO_6, HB⟩ := hrel
        cases gk with
        | zero => exact absurd HA.out (by simp [spec_SingBest.l2])
        | succ k3 =>
         have H := HA.out
         clear HA
         simp only [spec_SingBest.l2] at H
         by_cases c20 : x10_3 ≤ 20
         ·rw [if_pos c20] at H
          have c20b0 : decide (x10_3 ≤ 20) = true := decide_eq_true c20
          clear c20
          by_cases c21 : 0 ≤ x7_2
          case neg => rw [if_neg c21] at H; exact absurd H (by simp)
          rw [if_pos c21] at H
          have c21b0 : decide (0 ≤ x7_2) = true := decide_eq_true c21
          clear c21
          by_cases c22 : x7_2 < (t267.length : Int)
          case neg => rw [if_neg c22] at H; exact absurd H (by simp)
          rw [if_pos c22] at H
          have c22b0 : decide (x7_2 < (t267.length : Int)) = true := decide_eq_true c22
          clear c22
          by_cases c23 : 0 ≤ x10_3
          case neg => rw [if_neg c23] at H; exact absurd H (by simp)
          rw [if_pos c23] at H
          have c23b0 : decide (0 ≤ x10_3) = true := decide_eq_true c23
          clear c23
          by_cases c24 : x10_3 < ((rd_L8 t267 x7_2).length : Int)
          case neg => rw [if_neg c24] at H; exact absurd H (by simp)
          rw [if_pos c24] at H
          have c24b0 : decide (x10_3 < ((rd_L8 t267 x7_2).length : Int)) = true := decide_eq_true c24
          clear c24
          by_cases c25 : (rd (rd_L8 t267 x7_2) x10_3) < 0
          ·rw [if_pos c25] at H
           have c25b0 : decide ((rd (rd_L8 t267 x7_2) x10_3) < 0) = true := decide_eq_true c25
           clear c25
           have H' := am H
           clear H
           obtain ⟨Ao26, co26, eo26⟩ := Kd.S_slice HO_6.out
           subst eo26
           have p273 : 0 ≤ (x7_2 : Int) := od
           have q273 : x7_2 < (t267.length : Int) := od
           obtain ⟨ad273, A273_0, c273_0, e273, hx273_0, hl273_0, hi273_0⟩ := at_L8 (Kd.S_reads' HO_6.out).2.2 x7_2 p273 q273
           cases e273
           obtain ⟨ce273, hce273, hMe273, hcc273⟩ := Kd.S_get HO_6.out [] x7_2 p273 (by first | exact q273 | exact od | (have e_ := (Kd.S_reads' HO_6.out).1; omega))
           obtain ⟨ve273_0, rfl, ge273_0⟩ := hMe273
           have hv273_0 := hcc273 0 _ rfl
           rw [Nat.add_zero, show ((Kd.slice 3 (Kd.int .i64))).sz = 1 from rfl, Nat.mul_one] at hv273_0
           replace hv273_0 := Option.some.inj (hv273_0.symm.trans hx273_0)
           rw [hv273_0] at ge273_0
           have HL273_0 := am (show Kd.R (Kd.int .i64) 3 _ _ _ _ (rd_L8 t267 x7_2) from ge273_0)
           clear hv273_0 ge273_0
           clear hcc273 hce273
           have HR273_0 := am hi273_0
           have HC273_0 := am hl273_0
           clear hi273_0 hl273_0
           replace p273 := eq_true p273
           replace q273 := eq_true q273
           have p274 : 0 ≤ (x10_3 : Int) := od
           have q274 : x10_3 < ((rd_L8 t267 x7_2).length : Int) := od
           obtain ⟨ad274, e274, hx274_0⟩ := Kd.at_int (by repeat (first | (with_reducible exact HR273_0.out) | (with_reducible refine Kd.C_alloc ?_ _) | (with_reducible refine Kd.C_drewN ?_ _) | (with_reducible refine Kd.C_drew ?_) | exact HR273_0.out)) x10_3 p274 q274
           cases e274
           replace p274 := eq_true p274
           replace q274 := eq_true q274
           go_wp2
           go_roundg k3
           case measure => have := HK1.out; have := HK2.out; have := HK3.out; omega
           case rel => exact ⟨(x8_3), (x9_3), (wrap64 (x10_3 + 1)), (by first | rfl | simp | simp [*]), (by first | rfl | simp | simp [*]), (by first | rfl | simp | simp [*]), H', ⟨by have := HK1.out; have := HK2.out; have := HK3.out; omega⟩, ⟨ru HO_4.out⟩, ⟨by (with_reducible repeat (first | apply Kd.S_alloc | apply Kd.S_drewN | apply Kd.S_drew)); exact HO_6.out⟩, ⟨bu HB.out⟩⟩
          rw [if_neg c25] at H
          have c25b0 : decide ((rd (rd_L8 t267 x7_2) x10_3) < 0) = false := decide_eq_false c25
          clear c25
          have HC27 := am H
          clear H
          obtain ⟨Ao28, co28, eo28⟩ := Kd.S_slice HO_6.out
          subst eo28
          have p273 : 0 ≤ (x7_2 : Int) := od
          have q273 : x7_2 < (t267.length : Int) := od
          obtain ⟨ad273, A273_0, c273_0, e273, hx273_0, hl273_0, hi273_0⟩ := at_L8 (Kd.S_reads' HO_6.out).2.2 x7_2 p273 q273
          cases e273
          obtain ⟨ce273, hce273, hMe273, hcc273⟩ := Kd.S_get HO_6.out [] x7_2 p273 (by first | exact q273 | exact od | (have e_ := (Kd.S_reads' HO_6.out).1; omega))
          obtain ⟨ve273_0, rfl, ge273_0⟩ := hMe273
          have hv273_0 := hcc273 0 _ rfl
          rw [Nat.add_zero, show ((Kd.slice 3 (Kd.int .i64))).sz = 1 from rfl, Nat.mul_one] at hv273_0
          replace hv273_0 := Option.some.inj (hv273_0.symm.trans hx273_0)
          rw [hv273_0] at ge273_0
          have HL273_0 := am (show Kd.R (Kd.int .i64) 3 _ _ _ _ (rd_L8 t267 x7_2) from ge273_0)
          clear hv273_0 ge273_0
          clear hcc273 hce273
          have HR273_0 := am hi273_0
          have HC273_0 := am hl273_0
          clear hi273_0 hl273_0
          replace p273 := eq_true p273
          replace q273 := eq_true q273
          have p274 : 0 ≤ (x10_3 : Int) := od
          have q274 : x10_3 < ((rd_L8 t267 x7_2).length : Int) := od
          obtain ⟨ad274, e274, hx274_0⟩ := Kd.at_int (by repeat (first | (with_reducible exact HR273_0.out) | (with_reducible refine Kd.C_alloc ?_ _) | (with_reducible refine Kd.C_drewN ?_ _) | (with_reducible refine Kd.C_drew ?_) | exact HR273_0.out)) x10_3 p274 q274
          cases e274
          replace p274 := eq_true p274
          replace q274 := eq_true q274
          go_upto_region 20 with (fail)
          go_cut [62] (fun v62 wc => ∃ (kq : Nat) (x62_26 : Bool), v62 = .bool x62_26 ∧ Aside0 (spec_SingBest.j3 kq l0 x4_2 t267 x7_2 x8_3 x9_3 x10_3 (rd (rd_L8 t267 x7_2) x10_3) x62_26 = some (r1, r2)) ∧ Aside0 (kq ≤ k3) ∧ Aside0 (Kd.R (Kd.int .i64) 3 wc w.heap.size (fun _ => True) u4 x4_2) ∧ Aside0 (Kd.S (Kd.slice 3 (Kd.int .i64)) 28 wc w.heap.size (fun k_ => some k_ ≠ (u4 : Value).ownBlock) (.slice (some ad273) t267.length co28) t267) ∧ Aside0 (Kd.C (Kd.int .i64) wc (some ad274) (rd_L8 t267 x7_2).length (rd_L8 t267 x7_2)) ∧ Aside0 (Below w.heap.size w wc))
          case first =>
           have H := HC27.out
           clear HC27
           by_cases c29 : x7_2 > 0
           ·rw [if_pos c29] at H
            have c29b0 : decide (0 < x7_2) = true := decide_eq_true c29
            clear c29
            (first | rw [c29b0] | (simp only [i64_w, i32_w]; rw [c29b0]) | skip)
            obtain ⟨ji30, hji30⟩ : ∃ j_ : Int, (wrap64 (x7_2 - 1)) = j_ := ⟨_, rfl⟩
            replace H : (if 0 ≤ (ji30) then (if (ji30) < (x4_2.length : Int) then (spec_SingBest.j3 k3 l0 x4_2 t267 x7_2 x8_3 x9_3 x10_3 (rd (rd_L8 t267 x7_2) x10_3) (x10_3 != (rd x4_2 (ji30)))) else (none)) else (none)) = some (r1, r2) := by first | (rw [hji30] at H; exact H) | (simp only [hji30] at H ⊢; exact H)
            have hji30w : (IntKind.i64.wrap (x7_2 - 1)) = ji30 := (i64_w _).trans hji30
            by_cases c31 : 0 ≤ (ji30)
            case neg => rw [if_neg c31] at H; exact absurd H (by simp)
            rw [if_pos c31] at H
            have c31b0 : decide (0 ≤ (ji30)) = true := decide_eq_true c31
            clear c31
            by_cases c32 : (ji30) < (x4_2.length : Int)
            case neg => rw [if_neg c32] at H; exact absurd H (by simp)
            rw [if_pos c32] at H
            have c32b0 : decide ((ji30) < (x4_2.length : Int)) = true := decide_eq_true c32
            clear c32
            have H' := am H
            clear H
            obtain ⟨Ao33, co33, eo33⟩ := Kd.R_slice HO_4.out
            subst eo33
            have p275 : 0 ≤ ((ji30) : Int) := od
            have q275 : (ji30) < (x4_2.length : Int) := od
            obtain ⟨ad275, e275, hx275_0⟩ := Kd.at_int (Kd.R_reads' HO_4.out).2.2 (ji30) p275 q275
            cases e275
            replace p275 := eq_true p275
            replace q275 := eq_true q275
            go_wp2
            go_meet
            case rel => exact ⟨_, ((x10_3 != (rd x4_2 (ji30)))), (by first | rfl | (simp; done) | (simp only [← hji30] <;> (first | rfl | simp)) | (simp [*]; done)), H', ⟨by have := HK1.out; have := HK2.out; have := HK3.out; first | omega | exact Nat.le_refl _⟩, ⟨ru HO_4.out⟩, ⟨by (with_reducible repeat (first | apply Kd.S_alloc | apply Kd.S_drewN | apply Kd.S_drew)); exact HO_6.out⟩, ⟨by repeat (first | (with_reducible exact HR273_0.out) | (with_reducible refine Kd.C_alloc ?_ _) | (with_reducible refine Kd.C_drewN ?_ _) | (with_reducible refine Kd.C_drew ?_) | exact HR273_0.out)⟩, ⟨bu HB.out⟩⟩
           rw [if_neg c29] at H
           have c29b0 : decide (0 < x7_2) = false := decide_eq_false c29
           clear c29
           (first | rw [c29b0] | (simp only [i64_w, i32_w]; rw [c29b0]) | skip)
           have H' := am H
           clear H
           go_wp2
           go_meet
           case rel => exact ⟨_, (false), (by first | rfl | simp | simp [*]), H', ⟨by have := HK1.out; have := HK2.out; have := HK3.out; first | omega | exact Nat.le_refl _⟩, ⟨ru HO_4.out⟩, ⟨by (with_reducible repeat (first | apply Kd.S_alloc | apply Kd.S_drewN | apply Kd.S_drew)); exact HO_6.out⟩, ⟨by repeat (first | (with_reducible exact HR273_0.out) | (with_reducible refine Kd.C_alloc ?_ _) | (with_reducible refine Kd.C_drewN ?_ _) | (with_reducible refine Kd.C_drew ?_) | exact HR273_0.out)⟩, ⟨bu HB.out⟩⟩
          case rest =>
           clear HC27
           (try clear c1); (try clear c2); (try clear p2); (try clear q2); (try clear hx2); (try clear c3); (try clear c5); (try clear p6); (try clear c7); (try clear c7b0); (try clear c8); (try clear c8b0); (try clear c10); (try clear c10b0); (try clear c10b1); (try clear c10b2); (try clear c19); (try clear c19b0); (try clear c20); (try clear c20b0); (try clear c21); (try clear c21b0); (try clear c22); (try clear c22b0); (try clear c23); (try clear c23b0); (try clear c24); (try clear c24b0); (try clear c25); (try clear c25b0); (try clear p26); (try clear q26); (try clear hx26); (try clear c27); (try clear p27); (try clear q27); (try clear hx27); (try clear c29); (try clear c29b0); (try clear c31); (try clear c31b0); (try clear c32); (try clear c32b0); (try clear c33); (try clear hx260_0); (try clear hx260_1); (try clear hx273_0); (try clear hx274_0); (try clear hx275_0); (try clear p2); (try clear p260); (try clear p273); (try clear p274); (try clear p275); (try clear p6); (try clear q2); (try clear q260); (try clear q273); (try clear q274); (try clear q275)
           obtain ⟨kq, x62_26, rfl, HA, HJ26, HO_4, HO_6, HR273_0, HB⟩ := hcut
           cases kq with
           | zero => exact absurd HA.out (by simp [spec_SingBest.j3])
           | succ kj26 =>
            have H := HA.out
            clear HA
            simp only [spec_SingBest.j3] at H
            by_cases c34 : x62_26 = true
            ·subst c34
             have H1 : (if x8_3 < 0 then (spec_SingBest.l2 kj26 l0 x4_2 t267 x7_2 x10_3 (wrap64 ((rd (rd_L8 t267 x7_2) x10_3) + 1)) (wrap64 (x10_3 + 1))) else (if (wrap64 ((rd (rd_L8 t267 x7_2) x10_3) + 1)) < x9_3 then (spec_SingBest.l2 kj26 l0 x4_2 t267 x7_2 x10_3 (wrap64 ((rd (rd_L8 t267 x7_2) x10_3) + 1)) (wrap64 (x10_3 + 1))) else (spec_SingBest.l2 kj26 l0 x4_2 t267 x7_2 x8_3 x9_3 (wrap64 (x10_3 + 1))))) = some (r1, r2) := by rw [if_pos rfl] at H; exact H
             clear H
             have H := H1
             clear H1
             by_cases c35 : x8_3 < 0
             ·rw [if_pos c35] at H
              have c35b0 : decide (x8_3 < 0) = true := decide_eq_true c35
              clear c35
              have H' := am H
              clear H
              go_wp2
              go_roundg kj26
              case measure => have := HK1.out; have := HK2.out; have := HK3.out; have := HJ26.out; omega
              case rel => exact ⟨(x10_3), (wrap64 ((rd (rd_L8 t267 x7_2) x10_3) + 1)), (wrap64 (x10_3 + 1)), (by first | rfl | simp | simp [*]), (by first | rfl | simp | simp [*]), (by first | rfl | simp | simp [*]), H', ⟨by have := HK1.out; have := HK2.out; have := HK3.out; have := HJ26.out; omega⟩, ⟨ru HO_4.out⟩, ⟨by (with_reducible repeat (first | apply Kd.S_alloc | apply Kd.S_drewN | apply Kd.S_drew)); exact HO_6.out⟩, ⟨bu HB.out⟩⟩
             rw [if_neg c35] at H
             have c35b0 : decide (x8_3 < 0) = false := decide_eq_false c35
             clear c35
             by_cases c36 : (wrap64 ((rd (rd_L8 t267 x7_2) x10_3) + 1)) < x9_3
             ·rw [if_pos c36] at H
              have c36b0 : decide ((wrap64 ((rd (rd_L8 t267 x7_2) x10_3) + 1)) < x9_3) = true := decide_eq_true c36
              clear c36
              have H' := am H
              clear H
              go_wp2
              go_roundg kj26
              case measure => have := HK1.out; have := HK2.out; have := HK3.out; have := HJ26.out; omega
              case rel => exact ⟨(x10_3), (wrap64 ((rd (rd_L8 t267 x7_2) x10_3) + 1)), (wrap64 (x10_3 + 1)), (by first | rfl | simp | simp [*]), (by first | rfl | simp | simp [*]), (by first | rfl | simp | simp [*]), H', ⟨by have := HK1.out; have := HK2.out; have := HK3.out; have := HJ26.out; omega⟩, ⟨ru HO_4.out⟩, ⟨by (with_reducible repeat (first | apply Kd.S_alloc | apply Kd.S_drewN | apply Kd.S_drew)); exact HO_6.out⟩, ⟨bu HB.out⟩⟩
             rw [if_neg c36] at H
             have c36b0 : decide ((wrap64 ((rd (rd_L8 t267 x7_2) x10_3) + 1)) < x9_3) = false := decide_eq_false c36
             clear c36
             have H' := am H
             clear H
             go_wp2
             go_roundg kj26
             case measure => have := HK1.out; have := HK2.out; have := HK3.out; have := HJ26.out; omega
             case rel => exact ⟨(x8_3), (x9_3), (wrap64 (x10_3 + 1)), (by first | rfl | simp | simp [*]), (by first | rfl | simp | simp [*]), (by first | rfl | simp | simp [*]), H', ⟨by have := HK1.out; have := HK2.out; have := HK3.out; have := HJ26.out; omega⟩, ⟨ru HO_4.out⟩, ⟨by (with_reducible repeat (first | apply Kd.S_alloc | apply Kd.S_drewN | apply Kd.S_drew)); exact HO_6.out⟩, ⟨bu HB.out⟩⟩
            replace c34 := Bool.eq_false_iff.mpr c34
            subst c34
            have H1 : (if x8_3 < 0 then (spec_SingBest.l2 kj26 l0 x4_2 t267 x7_2 x10_3 (rd (rd_L8 t267 x7_2) x10_3) (wrap64 (x10_3 + 1))) else (if (rd (rd_L8 t267 x7_2) x10_3) < x9_3 then (spec_SingBest.l2 kj26 l0 x4_2 t267 x7_2 x10_3 (rd (rd_L8 t267 x7_2) x10_3) (wrap64 (x10_3 + 1))) else (spec_SingBest.l2 kj26 l0 x4_2 t267 x7_2 x8_3 x9_3 (wrap64 (x10_3 + 1))))) = some (r1, r2) := by rw [if_neg (show ¬ (false = true) by decide)] at H; exact H
            clear H
            have H := H1
            clear H1
            by_cases c37 : x8_3 < 0
            ·rw [if_pos c37] at H
             have c37b0 : decide (x8_3 < 0) = true := decide_eq_true c37
             clear c37
             have H' := am H
             clear H
             go_wp2
             go_roundg kj26
             case measure => have := HK1.out; have := HK2.out; have := HK3.out; have := HJ26.out; omega
             case rel => exact ⟨(x10_3), ((rd (rd_L8 t267 x7_2) x10_3)), (wrap64 (x10_3 + 1)), (by first | rfl | simp | simp [*]), (by first | rfl | simp | simp [*]), (by first | rfl | simp | simp [*]), H', ⟨by have := HK1.out; have := HK2.out; have := HK3.out; have := HJ26.out; omega⟩, ⟨ru HO_4.out⟩, ⟨by (with_reducible repeat (first | apply Kd.S_alloc | apply Kd.S_drewN | apply Kd.S_drew)); exact HO_6.out⟩, ⟨bu HB.out⟩⟩
            rw [if_neg c37] at H
            have c37b0 : decide (x8_3 < 0) = false := decide_eq_false c37
            clear c37
            by_cases c38 : (rd (rd_L8 t267 x7_2) x10_3) < x9_3
            ·rw [if_pos c38] at H
             have c38b0 : decide ((rd (rd_L8 t267 x7_2) x10_3) < x9_3) = true := decide_eq_true c38
             clear c38
             have H' := am H
             clear H
             go_wp2
             go_roundg kj26
             case measure => have := HK1.out; have := HK2.out; have := HK3.out; have := HJ26.out; omega
             case rel => exact ⟨(x10_3), ((rd (rd_L8 t267 x7_2) x10_3)), (wrap64 (x10_3 + 1)), (by first | rfl | simp | simp [*]), (by first | rfl | simp | simp [*]), (by first | rfl | simp | simp [*]), H', ⟨by have := HK1.out; have := HK2.out; have := HK3.out; have := HJ26.out; omega⟩, ⟨ru HO_4.out⟩, ⟨by (with_reducible repeat (first | apply Kd.S_alloc | apply Kd.S_drewN | apply Kd.S_drew)); exact HO_6.out⟩, ⟨bu HB.out⟩⟩
            rw [if_neg c38] at H
            have c38b0 : decide ((rd (rd_L8 t267 x7_2) x10_3) < x9_3) = false := decide_eq_false c38
            clear c38
            have H' := am H
            clear H
            go_wp2
            go_roundg kj26
            case measure => have := HK1.out; have := HK2.out; have := HK3.out; have := HJ26.out; omega
            case rel => exact ⟨(x8_3), (x9_3), (wrap64 (x10_3 + 1)), (by first | rfl | simp | simp [*]), (by first | rfl | simp | simp [*]), (by first | rfl | simp | simp [*]), H', ⟨by have := HK1.out; have := HK2.out; have := HK3.out; have := HJ26.out; omega⟩, ⟨ru HO_4.out⟩, ⟨by (with_reducible repeat (first | apply Kd.S_alloc | apply Kd.S_drewN | apply Kd.S_drew)); exact HO_6.out⟩, ⟨bu HB.out⟩⟩
         rw [if_neg c20] at H
         have c20b0 : decide (x10_3 ≤ 20) = false := decide_eq_false c20
         clear c20
         by_cases c39 : x4_2.length < 17592186044416
         case neg => rw [if_neg c39] at H; exact absurd H (by simp)
         rw [if_pos c39] at H
         have LMc39 := am c39
         clear c39
         obtain ⟨y270, hy270⟩ : ∃ y_ : List Int, y_ = (x4_2 ++ [x8_3]) := ⟨_, rfl⟩
         replace H : (spec_SingBest.l1 k3 l0 y270 t267 (wrap64 (x7_2 + 1))) = some (r1, r2) := by first | (rw [hy270]; with_reducible exact H) | (have H2_ := (Option.bind_some _ _).symm.trans H; rw [hy270]; with_reducible exact H2_) | (have H2_ := (Option.bind_some _ _).symm.trans H; with_reducible exact H2_) | with_reducible exact H | (rw [hy270]; exact H) | exact H
         have Ny270 := am hy270
         clear hy270
         have H' := am H
         clear H
         go_wp2_with ((with_reducible refine gate_builtin (b := .append) (xs := #[.tmp 74, .tmp 76]) rfl ?_); at_builtin; refine Kd.R_append (Kd.int .i64) (w0 := w) w.heap.size rfl (.tmp 74) (.tmp 76) 28 3 (.int .i64 0) 8 rfl Tryz.underlying28 info3 rfl (by decide) (by omega) u4 x4_2 x8_3 [.int .i64 x8_3] (fun _ => True) (fun _ => False) rfl rfl ?aP (fun _ hk => hk.elim) ?aF ?aO ?aB ?aS ?aL ?_; (case aP => exact rfl); (case aB => exact (bu HB.out)); (case aF => exact (fun _ _ => trivial)); (case aO => exact (ru HO_4.out)); (case aS => exact (below_size (bu HB.out))); (case aL => have := LMc39.out; omega); intro v271 w40 ho hb hg hat; rw [← Ny270.out] at ho; have n0_ := am (Kd.S_after (ok := (fun _ => True)) (by (with_reducible repeat (first | apply Kd.S_alloc | apply Kd.S_drewN | apply Kd.S_drew)); exact Kd.S_mono HO_6.out (fun _ hk => ⟨trivial, hk⟩)) hg hat); have n1_ := am (hb); have n2_ := am (ho); clear HO_6; clear HB; clear HO_4; have HO_6 := n0_; have HB := n1_; have HO272 := n2_; clear n0_ n1_ n2_; clear ho hb hg hat)
         go_roundg k3
         case measure => have := HK1.out; have := HK2.out; have := HK3.out; omega
         case rel => exact ⟨(y270), (wrap64 (x7_2 + 1)), (by first | rfl | simp | simp [*]), H', ⟨by have := HK1.out; have := HK2.out; have := HK3.out; omega⟩, ⟨ru HO272.out⟩, ⟨by (with_reducible repeat (first | apply Kd.S_alloc | apply Kd.S_drewN | apply Kd.S_drew)); exact Kd.S_mono HO_6.out (fun _ hk => hk.2)⟩, ⟨bu HB.out⟩⟩
      rw [if_neg c19] at H
      have c19b0 : decide (x7_2 < (l0.length : Int)) = false := decide_eq_false c19
      clear c19
      simp only [Option.some.injEq, Prod.mk.injEq] at H
      obtain ⟨rfl, rfl⟩ := H
      go_wp2
      go_ret2
      exact ⟨_, by first | rfl | (simp [*] <;> rfl), ru HO_4.out, bu HB.out⟩
 replace c3 := Bool.eq_false_iff.mpr c3
 subst c3
 have H1 : (some (y256, false)) = some (r1, r2) := by rw [if_neg (show ¬ (false = true) by decide)] at H; exact H
 clear H
 have H := H1
 clear H1
 simp only [Option.some.injEq, Prod.mk.injEq] at H
 obtain ⟨rfl, rfl⟩ := H
 go_enter Tryz.func33, Tryz.ntmps33
 go_wp2_with (first | ((with_reducible refine gate_dst (N := 12) rfl ?_); refine Kd.R_lit (Kd.int .i64) _ 3 ?hg (N := 12) ?hd (xs := ([] : List Int)) (inner := []) (ok := fun _ => True) (okp := fun _ => True) ?hr ?hp (fun _ hk => hk) trivial (Below.refl _ _) (Nat.le_refl _) (by simp) ?_; (case hd => rfl); (case hg => rfl); (case hr => first | (go_simp; done) | (go_simp; rfl)); (case hp => exact (Reps.none _ _)); intro v257 w41 ho42 hb hg_ hnew_; clear hg_ hnew_; (first | rw [← Ny256.out] at ho42 | (simp only [Int.reduceToNat] at ho42; rw [← Ny256.out] at ho42)); have n0_ := am (Kd.R_lower ho42 (below_size (bu HB.out))); have n1_ := am (below_step (bu HB.out) hb); clear HB; have HO258 := n0_; have HB := n1_; clear n0_ n1_; clear hb ho42) | ((with_reducible refine gate_callee (f := 57) rfl ?_); refine goesL_ (some 14) rfl rfl Tryz.func57 (by kernel_rfl) rfl #[.slice A0 l0.length c0] rfl (by (try simp only [mA, mC, mN]); first | done | rfl) ?_; (with_reducible refine (spec_MelodyValid.calls k _ _ l0 false _ ?side1 ?side2 A2.out).mono ?_); (case side1 => repeat (first | exact (Kd.C_below HR0.out HB.out) | (with_reducible refine Kd.C_alloc ?_ _) | (with_reducible refine Kd.C_drewN ?_ _) | (with_reducible refine Kd.C_drew ?_))); (case side2 => exact HC0.out); rintro e w43 ⟨rfl, hb⟩; refine ⟨_, rfl, ?_⟩; have n0_ := am (Kd.R_below (ru HO258.out) hb); have n1_ := am (below_step (bu HB.out) hb); clear HO258; clear HB; have HO258 := n0_; have HB := n1_; clear n0_ n1_; (try clear hb); (try clear hb2); (try clear hk); (try clear hi)))
 go_ret2
 exact ⟨_, by first | rfl | (simp [*] <;> rfl), ru HO258.out, bu HB.out⟩

/-! ### laws_FnExecuteMelody: function 9 -/
mutual
def laws_FnExecuteMelody.j0 : Nat → List (S74) → List Int → Bool → List Int → Bool → Bool → Option (Bool)
 | 0, _, _, _, _, _, _ => none
 | k + 1, x3, x4, x5, x6, x7, x40 => if x40 = true then (if (x5 == x7) = true then ((laws_sameInts.f k x4 x6).bind fun t288 => (some t288)) else (some false)) else (if (x3.length : Int) = 0 then (some ((x4.length : Int) == 0)) else ((impl_MelodyText.f k x3).bind fun t289 => ((impl_MelodySteps.f k x3).bind fun t290 => (laws_FnExecuteMelody.l0 k x3 x4 t289 (⟨#[115, 116, 101, 112, 115]⟩ : ByteArray) t290 0))))
def laws_FnExecuteMelody.l0 : Nat → List (S74) → List Int → ByteArray → ByteArray → List Int → Int → Option (Bool)
 | 0, _, _, _, _, _, _ => none
 | k + 1, x3, x4, x8, x9, x10, x11 => if x11 < (x10.length : Int) then (if x9.size + 1 ≤ 9223372036854775807 then (if 0 ≤ x11 then ((laws_signed.f k (rd x10 x11)).bind fun t294 => (if (x9 ++ (⟨#[32]⟩ : ByteArray)).size + t294.size ≤ 9223372036854775807 then (laws_FnExecuteMelody.l0 k x3 x4 x8 ((x9 ++ (⟨#[32]⟩ : ByteArray)) ++ t294) x10 (wrap64 (x11 + 1))) else (none))) else (none)) else (none)) else (if 7 + x8.size ≤ 9223372036854775807 then (if ((⟨#[109, 101, 108, 111, 100, 121, 32]⟩ : ByteArray) ++ x8).size + 17 ≤ 9223372036854775807 then ((impl_Execute.f k (((⟨#[109, 101, 108, 111, 100, 121, 32]⟩ : ByteArray) ++ x8) ++ (⟨#[10, 115, 104, 111, 119, 10, 115, 116, 101, 112, 115, 10, 115, 105, 110, 103, 10]⟩ : ByteArray))).bind fun t295 => (if 10 + x8.size ≤ 9223372036854775807 then (if ((⟨#[111, 107, 10, 109, 101, 108, 111, 100, 121, 32]⟩ : ByteArray) ++ x8).size + 1 ≤ 9223372036854775807 then (if (((⟨#[111, 107, 10, 109, 101, 108, 111, 100, 121, 32]⟩ : ByteArray) ++ x8) ++ (⟨#[10]⟩ : ByteArray)).size + x9.size ≤ 9223372036854775807 then (if ((((⟨#[111, 107, 10, 109, 101, 108, 111, 100, 121, 32]⟩ : ByteArray) ++ x8) ++ (⟨#[10]⟩ : ByteArray)) ++ x9).size + 1 ≤ 9223372036854775807 then ((impl_SingText.f k x3 x4).bind fun t296 => (if (((((⟨#[111, 107, 10, 109, 101, 108, 111, 100, 121, 32]⟩ : ByteArray) ++ x8) ++ (⟨#[10]⟩ : ByteArray)) ++ x9) ++ (⟨#[10]⟩ : ByteArray)).size + t296.size ≤ 9223372036854775807 then (if ((((((⟨#[111, 107, 10, 109, 101, 108, 111, 100, 121, 32]⟩ : ByteArray) ++ x8) ++ (⟨#[10]⟩ : ByteArray)) ++ x9) ++ (⟨#[10]⟩ : ByteArray)) ++ t296).size + 1 ≤ 9223372036854775807 then ((laws_endLine.f k (x3.length : Int) 0).bind fun t297 => (if (((((((⟨#[111, 107, 10, 109, 101, 108, 111, 100, 121, 32]⟩ : ByteArray) ++ x8) ++ (⟨#[10]⟩ : ByteArray)) ++ x9) ++ (⟨#[10]⟩ : ByteArray)) ++ t296) ++ (⟨#[10]⟩ : ByteArray)).size + t297.size ≤ 9223372036854775807 then (some (t295.toList == ((((((((⟨#[111, 107, 10, 109, 101, 108, 111, 100, 121, 32]⟩ : ByteArray) ++ x8) ++ (⟨#[10]⟩ : ByteArray)) ++ x9) ++ (⟨#[10]⟩ : ByteArray)) ++ t296) ++ (⟨#[10]⟩ : ByteArray)) ++ t297).toList)) else (none))) else (none)) else (none))) else (none)) else (none)) else (none)) else (none))) else (none)) else (none))
end
def laws_FnExecuteMelody.f (k : Nat) (l0 : List Int) : Option (Bool) := if (l0.length : Int) > 1048576 then (some true) else ((spec_DrawSingBest.f k l0).bind fun t276 => ((impl_SingBest.f k t276).bind fun bt279 => ((spec_SingBest.f k t276).bind fun bt283 => (if (bt279.2 != bt283.2) = true then (laws_FnExecuteMelody.j0 k t276 bt279.1 bt279.2 bt283.1 bt283.2 true) else ((laws_sameInts.f k bt279.1 bt283.1).bind fun t287 => (if t287 = true then (laws_FnExecuteMelody.j0 k t276 bt279.1 bt279.2 bt283.1 bt283.2 (!bt279.2)) else (laws_FnExecuteMelody.j0 k t276 bt279.1 bt279.2 bt283.1 bt283.2 true)))))))
theorem laws_FnExecuteMelody.calls (k : Nat) (A0 : Option Addr) (c0 : Nat) (l0 : List Int) (r : Bool) (w : World) (hr0 : Kd.C (Kd.int .u8) w A0 l0.length l0) (hc0 : l0.length ≤ c0) (hTL : TabL w) (hTM : TabM w) (hTP : TabP w) (hTS : TabS w) (h : laws_FnExecuteMelody.f k l0 = some r) :
  Calls Tryz.prog 9 #[.slice A0 l0.length c0] w fun e w' => e = .returned (.bool r) ∧ Below w.heap.size w w' := by
 have HTL := am hTL
 clear hTL
 have HTM := am hTM
 clear hTM
 have HTP := am hTP
 clear hTP
 have HTS := am hTS
 clear hTS
 have HR0 := am hr0
 have HC0 := am hc0
 clear hr0 hc0
 have HB := am (Below.refl w.heap.size w)
 have H : (if (l0.length : Int) > 1048576 then (some true) else ((spec_DrawSingBest.f k l0).bind fun t276 => ((impl_SingBest.f k t276).bind fun bt279 => ((spec_SingBest.f k t276).bind fun bt283 => (if (bt279.2 != bt283.2) = true then (laws_FnExecuteMelody.j0 k t276 bt279.1 bt279.2 bt283.1 bt283.2 true) else ((laws_sameInts.f k bt279.1 bt283.1).bind fun t287 => (if t287 = true then (laws_FnExecuteMelody.j0 k t276 bt279.1 bt279.2 bt283.1 bt283.2 (!bt279.2)) else (laws_FnExecuteMelody.j0 k t276 bt279.1 bt279.2 bt283.1 bt283.2 true)))))))) = some r := h
 clear h
 by_cases c2 : (l0.length : Int) > 1048576
 ·rw [if_pos c2] at H
  have c2b0 : decide (1048576 < (l0.length : Int)) = true := decide_eq_true c2
  have c2b1 : decide (1048576 < l0.length) = true := decide_eq_true (by omega)
  clear c2
  obtain rfl := Option.some.inj H
  go_enter Tryz.func9, Tryz.ntmps9
  go_wp2
  go_ret
  exact ⟨by first | rfl | (simp [*] <;> rfl), bu HB.out⟩
 rw [if_neg c2] at H
 have c2b0 : decide (1048576 < (l0.length : Int)) = false := decide_eq_false c2
 have c2b1 : decide (1048576 < l0.length) = false := decide_eq_false (by omega)
 clear c2
 replace H := Option.bind_eq_some_iff.mp H
 obtain ⟨t276, A30, H⟩ := H
 replace H : ((impl_SingBest.f k t276).bind fun bt279 => ((spec_SingBest.f k t276).bind fun bt283 => (if (bt279.2 != bt283.2) = true then (laws_FnExecuteMelody.j0 k t276 bt279.1 bt279.2 bt283.1 bt283.2 true) else ((laws_sameInts.f k bt279.1 bt283.1).bind fun t287 => (if t287 = true then (laws_FnExecuteMelody.j0 k t276 bt279.1 bt279.2 bt283.1 bt283.2 (!bt279.2)) else (laws_FnExecuteMelody.j0 k t276 bt279.1 bt279.2 bt283.1 bt283.2 true)))))) = some r := H
 have A3 := am A30
 clear A30
 replace H := Option.bind_eq_some_iff.mp H
 obtain ⟨⟨t279, t280⟩, A40, H⟩ := H
 replace H : ((spec_SingBest.f k t276).bind fun bt283 => (if (t280 != bt283.2) = true then (laws_FnExecuteMelody.j0 k t276 t279 t280 bt283.1 bt283.2 true) else ((laws_sameInts.f k t279 bt283.1).bind fun t287 => (if t287 = true then (laws_FnExecuteMelody.j0 k t276 t279 t280 bt283.1 bt283.2 (!t280)) else (laws_FnExecuteMelody.j0 k t276 t279 t280 bt283.1 bt283.2 true))))) = some r := H
 have A4 := am A40
 clear A40
 replace H := Option.bind_eq_some_iff.mp H
 obtain ⟨⟨t283, t284⟩, A50, H⟩ := H
 replace H : (if (t280 != t284) = true then (laws_FnExecuteMelody.j0 k t276 t279 t280 t283 t284 true) else ((laws_sameInts.f k t279 t283).bind fun t287 => (if t287 = true then (laws_FnExecuteMelody.j0 k t276 t279 t280 t283 t284 (!t280)) else (laws_FnExecuteMelody.j0 k t276 t279 t280 t283 t284 true)))) = some r := H
 have A5 := am A50
 clear A50
 have HC6 := am H
 clear H
 go_enter Tryz.func9, Tryz.ntmps9
 go_upto_region 6 with (first | ((with_reducible refine gate_callee (f := 31) rfl ?_); refine goesL_ (some 17) rfl rfl Tryz.func31 (by kernel_rfl) rfl #[.slice A0 l0.length c0] rfl (by (try simp only [mA, mC, mN]); first | done | rfl) ?_; (with_reducible refine (spec_DrawSingBest.calls k _ _ l0 t276 _ ?side1 ?side2 A3.out).mono ?_); (case side1 => exact cu HR0.out); (case side2 => exact HC0.out); rintro e w7 ⟨v277, rfl, ho0, hb⟩; refine ⟨_, rfl, ?_⟩; have n0_ := am (Kd.R_lower ho0 (below_size (bu HB.out))); have n1_ := am (below_step (bu HB.out) hb); clear HB; have HO278 := n0_; have HB := n1_; clear n0_ n1_; (try clear hb); (try clear hb2); (try clear hk); (try clear hi); (try clear ho0); obtain ⟨Ao8, co8, eo8⟩ := Kd.R_slice HO278.out; subst eo8) | ((with_reducible refine gate_callee (f := 32) rfl ?_); refine goesL_ (some 20) rfl rfl Tryz.func32 (by kernel_rfl) rfl #[.slice Ao8 t276.length co8] rfl (by (try simp only [mA, mC, mN]); first | done | rfl) ?_; (with_reducible refine (impl_SingBest.calls k _ _ t276 t279 t280 _ ?side1 ?side2 ?side3 A4.out).mono ?_); (case side1 => exact cu (Kd.R_reads' HO278.out).2.2); (case side2 => exact (Kd.R_reads' HO278.out).2.1); (case side3 => first | exact HTL.out | exact TabAt.below HTL.out (bu HB.out)); rintro e w9 ⟨v281, rfl, ho0, hb⟩; refine ⟨_, rfl, ?_⟩; have n0_ := am (Kd.R_below (ru HO278.out) hb); have n1_ := am (Kd.R_lower ho0 (below_size (bu HB.out))); have n2_ := am (below_step (bu HB.out) hb); clear HO278; clear HB; have HO278 := n0_; have HO282 := n1_; have HB := n2_; clear n0_ n1_ n2_; (try clear hb); (try clear hb2); (try clear hk); (try clear hi); (try clear ho0)) | ((with_reducible refine gate_callee (f := 33) rfl ?_); refine goesL_ (some 25) rfl rfl Tryz.func33 (by kernel_rfl) rfl #[.slice Ao8 t276.length co8] rfl (by (try simp only [mA, mC, mN]); first | done | rfl) ?_; (with_reducible refine (spec_SingBest.calls k _ _ t276 t283 t284 _ ?side1 ?side2 A5.out).mono ?_); (case side1 => exact cu (Kd.R_reads' HO278.out).2.2); (case side2 => exact (Kd.R_reads' HO278.out).2.1); rintro e w10 ⟨v285, rfl, ho0, hb⟩; refine ⟨_, rfl, ?_⟩; have n0_ := am (Kd.R_below (ru HO278.out) hb); have n1_ := am (Kd.R_elder' (ru HO282.out) (Kd.R_base ho0) hb); have n2_ := am (Kd.R_lower (Kd.R_new' ho0 (Kd.R_lt (ru HO282.out))) (below_size (bu HB.out))); have n3_ := am (below_step (bu HB.out) hb); clear HO278; clear HO282; clear HB; have HO278 := n0_; have HO282 := n1_; have HO286 := n2_; have HB := n3_; clear n0_ n1_ n2_ n3_; (try clear hb); (try clear hb2); (try clear hk); (try clear hi); (try clear ho0)))
 (try simp only [Act.put, sA, sZ, sS])
 go_cut [40] (fun v40 wc => ∃ (kq : Nat) (x40_5 : Bool), v40 = .bool x40_5 ∧ Aside0 (laws_FnExecuteMelody.j0 kq t276 t279 t280 t283 t284 x40_5 = some r) ∧ Aside0 (kq ≤ k) ∧ Aside0 (Kd.R k74 74 wc w.heap.size (fun _ => True) (.slice Ao8 t276.length co8) t276) ∧ Aside0 (Kd.R (Kd.int .i64) 3 wc w.heap.size (fun k_ => some k_ ≠ (v285 : Value).ownBlock) v281 t279) ∧ Aside0 (Kd.R (Kd.int .i64) 3 wc w.heap.size (fun k_ => some k_ ≠ (v281 : Value).ownBlock) v285 t283) ∧ Aside0 (Below w.heap.size w wc))
 case first =>
  have H := HC6.out
  clear HC6
  by_cases c11 : (t280 != t284) = true
  ·rw [if_pos c11] at H
   have c11b0 : (t280 != t284) = true := c11
   (try (have c11b1 : decide (t280 = t284) = false := by simpa using c11))
   (try (have c11b2 : (t280 == t284) = false := by simpa using c11))
   (try (have c11b3 : ¬ (t280 = t284) := by simpa using c11))
   clear c11
   (first | rw [c11b0] | (simp only [i64_w, i32_w]; rw [c11b0]) | skip)
   have H' := am H
   clear H
   go_wp2
   go_meet
   case rel => exact ⟨_, (true), (by first | rfl | simp | simp [*]), H', ⟨by first | omega | exact Nat.le_refl _⟩, ⟨ru HO278.out⟩, ⟨by (with_reducible repeat (first | apply Kd.R_alloc | apply Kd.R_drewN | apply Kd.R_drew)); exact Kd.R_mono HO282.out (fun _ hk => hk.2)⟩, ⟨by (with_reducible repeat (first | apply Kd.R_alloc | apply Kd.R_drewN | apply Kd.R_drew)); exact Kd.R_mono HO286.out (fun _ hk => hk.2)⟩, ⟨bu HB.out⟩⟩
  rw [if_neg c11] at H
  have c11b0 : (t280 != t284) = false := by simpa using c11
  (try (have c11b1 : decide (t280 = t284) = true := by simpa using c11))
  (try (have c11b2 : (t280 == t284) = true := by simpa using c11))
  clear c11
  (first | rw [c11b0] | (simp only [i64_w, i32_w]; rw [c11b0]) | skip)
  replace H := Option.bind_eq_some_iff.mp H
  obtain ⟨t287, A120, H⟩ := H
  replace H : (if t287 = true then (laws_FnExecuteMelody.j0 k t276 t279 t280 t283 t284 (!t280)) else (laws_FnExecuteMelody.j0 k t276 t279 t280 t283 t284 true)) = some r := H
  have A12 := am A120
  clear A120
  by_cases c13 : t287 = true
  ·subst c13
   have H1 : (laws_FnExecuteMelody.j0 k t276 t279 t280 t283 t284 (!t280)) = some r := by rw [if_pos rfl] at H; exact H
   clear H
   have H := H1
   clear H1
   have H' := am H
   clear H
   obtain ⟨Ao14, co14, eo14⟩ := Kd.R_slice HO282.out
   subst eo14
   obtain ⟨Ao15, co15, eo15⟩ := Kd.R_slice HO286.out
   subst eo15
   go_wp2_with (go_at_call 19; (with_reducible refine (laws_sameInts.calls k _ _ t279 _ _ t283 true _ ?side1 ?side2 ?side3 ?side4 A12.out).mono ?_); (case side1 => exact cu (Kd.R_reads' HO282.out).2.2); (case side2 => exact (Kd.R_reads' HO282.out).2.1); (case side3 => exact cu (Kd.R_reads' HO286.out).2.2); (case side4 => exact (Kd.R_reads' HO286.out).2.1); rintro e w' ⟨rfl, ⟨nd, rfl⟩⟩)
   go_meet
   case rel => exact ⟨_, (!t280), (by first | rfl | simp | simp [*]), H', ⟨by first | omega | exact Nat.le_refl _⟩, ⟨ru HO278.out⟩, ⟨by (with_reducible repeat (first | apply Kd.R_alloc | apply Kd.R_drewN | apply Kd.R_drew)); exact Kd.R_mono HO282.out (fun _ hk => hk.2)⟩, ⟨by (with_reducible repeat (first | apply Kd.R_alloc | apply Kd.R_drewN | apply Kd.R_drew)); exact Kd.R_mono HO286.out (fun _ hk => hk.2)⟩, ⟨bu HB.out⟩⟩
  replace c13 := Bool.eq_false_iff.mpr c13
  subst c13
  have H1 : (laws_FnExecuteMelody.j0 k t276 t279 t280 t283 t284 true) = some r := by rw [if_neg (show ¬ (false = true) by decide)] at H; exact H
  clear H
  have H := H1
  clear H1
  have H' := am H
  clear H
  obtain ⟨Ao16, co16, eo16⟩ := Kd.R_slice HO282.out
  subst eo16
  obtain ⟨Ao17, co17, eo17⟩ := Kd.R_slice HO286.out
  subst eo17
  go_wp2_with (go_at_call 19; (with_reducible refine (laws_sameInts.calls k _ _ t279 _ _ t283 false _ ?side1 ?side2 ?side3 ?side4 A12.out).mono ?_); (case side1 => exact cu (Kd.R_reads' HO282.out).2.2); (case side2 => exact (Kd.R_reads' HO282.out).2.1); (case side3 => exact cu (Kd.R_reads' HO286.out).2.2); (case side4 => exact (Kd.R_reads' HO286.out).2.1); rintro e w' ⟨rfl, ⟨nd, rfl⟩⟩)
  go_meet
  case rel => exact ⟨_, (true), (by first | rfl | simp | simp [*]), H', ⟨by first | omega | exact Nat.le_refl _⟩, ⟨ru HO278.out⟩, ⟨by (with_reducible repeat (first | apply Kd.R_alloc | apply Kd.R_drewN | apply Kd.R_drew)); exact Kd.R_mono HO282.out (fun _ hk => hk.2)⟩, ⟨by (with_reducible repeat (first | apply Kd.R_alloc | apply Kd.R_drewN | apply Kd.R_drew)); exact Kd.R_mono HO286.out (fun _ hk => hk.2)⟩, ⟨bu HB.out⟩⟩
 case rest =>
  clear HC6
  (try clear c1); (try clear c2); (try clear c2b0); (try clear c2b1); (try clear p2); (try clear c3); (try clear c9); (try clear c11); (try clear c11b0); (try clear c11b1); (try clear c11b2); (try clear c13)
  obtain ⟨kq, x40_5, rfl, HA, HJ5, HO_3, HO_4, HO_6, HB⟩ := hcut
  cases kq with
  | zero => exact absurd HA.out (by simp [laws_FnExecuteMelody.j0])
  | succ kj5 =>
   have H := HA.out
   clear HA
   simp only [laws_FnExecuteMelody.j0] at H
   by_cases c18 : x40_5 = true
   ·subst c18
    have H1 : (if (t280 == t284) = true then ((laws_sameInts.f kj5 t279 t283).bind fun t288 => (some t288)) else (some false)) = some r := by rw [if_pos rfl] at H; exact H
    clear H
    have H := H1
    clear H1
    by_cases c19 : (t280 == t284) = true
    ·rw [if_pos c19] at H
     have c19b0 : (t280 == t284) = true := c19
     (try (have c19b1 : decide (t280 = t284) = true := by simpa using c19))
     (try (have c19b2 : (t280 == t284) = true := by simpa using c19))
     clear c19
     replace H := Option.bind_eq_some_iff.mp H
     obtain ⟨t288, A200, H⟩ := H
     replace H : (some t288) = some r := H
     have A20 := am A200
     clear A200
     obtain rfl := Option.some.inj H
     obtain ⟨Ao21, co21, eo21⟩ := Kd.R_slice HO_4.out
     subst eo21
     obtain ⟨Ao22, co22, eo22⟩ := Kd.R_slice HO_6.out
     subst eo22
     go_wp2_with (go_at_call 19; (with_reducible refine (laws_sameInts.calls kj5 _ _ t279 _ _ t283 t288 _ ?side1 ?side2 ?side3 ?side4 A20.out).mono ?_); (case side1 => exact cu (Kd.R_reads' HO_4.out).2.2); (case side2 => exact (Kd.R_reads' HO_4.out).2.1); (case side3 => exact cu (Kd.R_reads' HO_6.out).2.2); (case side4 => exact (Kd.R_reads' HO_6.out).2.1); rintro e w' ⟨rfl, ⟨nd, rfl⟩⟩)
     go_ret
     exact ⟨by first | rfl | (simp [*] <;> rfl), bu HB.out⟩
    rw [if_neg c19] at H
    have c19b0 : (t280 == t284) = false := by simpa using c19
    (try (have c19b1 : decide (t280 = t284) = false := by simpa using c19))
    (try (have c19b2 : (t280 == t284) = false := by simpa using c19))
    (try (have c19b3 : ¬ (t280 = t284) := by simpa using c19))
    clear c19
    obtain rfl := Option.some.inj H
    go_wp2
    go_ret
    exact ⟨by first | rfl | (simp [*] <;> rfl), bu HB.out⟩
   replace c18 := Bool.eq_false_iff.mpr c18
   subst c18
   have H1 : (if (t276.length : Int) = 0 then (some ((t279.length : Int) == 0)) else ((impl_MelodyText.f kj5 t276).bind fun t289 => ((impl_MelodySteps.f kj5 t276).bind fun t290 => (laws_FnExecuteMelody.l0 kj5 t276 t279 t289 (⟨#[115, 116, 101, 112, 115]⟩ : ByteArray) t290 0)))) = some r := by rw [if_neg (show ¬ (false = true) by decide)] at H; exact H
   clear H
   have H := H1
   clear H1
   by_cases c23 : (t276.length : Int) = 0
   ·rw [if_pos c23] at H
    have c23b0 : ((t276.length : Int) == 0) = true := beq_iff_eq.mpr c23
    have c23b1 : ((t276.length : Int) != 0) = false := bne_eq_false_iff_eq.mpr c23
    clear c23
    obtain rfl := Option.some.inj H
    obtain ⟨Ao24, co24, eo24⟩ := Kd.R_slice HO_4.out
    subst eo24
    go_wp2
    go_ret
    exact ⟨by first | rfl | (simp [*] <;> rfl), bu HB.out⟩
   rw [if_neg c23] at H
   have c23b0 : ((t276.length : Int) == 0) = false := beq_eq_false_iff_ne.mpr c23
   have c23b1 : ((t276.length : Int) != 0) = true := bne_iff_ne.mpr c23
   have c23b2 : ¬ (t276 = []) := fun h_ => c23 (by rw [h_]; rfl)
   replace H := Option.bind_eq_some_iff.mp H
   obtain ⟨t289, A250, H⟩ := H
   replace H : ((impl_MelodySteps.f kj5 t276).bind fun t290 => (laws_FnExecuteMelody.l0 kj5 t276 t279 t289 (⟨#[115, 116, 101, 112, 115]⟩ : ByteArray) t290 0)) = some r := H
   have A25 := am A250
   clear A250
   replace H := Option.bind_eq_some_iff.mp H
   obtain ⟨t290, A260, H⟩ := H
   replace H : (laws_FnExecuteMelody.l0 kj5 t276 t279 t289 (⟨#[115, 116, 101, 112, 115]⟩ : ByteArray) t290 0) = some r := H
   have A26 := am A260
   clear A260
   have H' := am H
   clear H
   go_wp2_with (first | ((with_reducible refine gate_callee (f := 26) rfl ?_); refine goesL_ (some 56) rfl rfl Tryz.func26 (by kernel_rfl) rfl #[.slice Ao8 t276.length co8] rfl (by (try simp only [mA, mC, mN]); first | done | rfl) ?_; (with_reducible refine (impl_MelodyText.calls kj5 _ _ t276 t289 _ ?side1 ?side2 ?side3 A25.out).mono ?_); (case side1 => exact cu (Kd.R_reads' HO_3.out).2.2); (case side2 => exact (Kd.R_reads' HO_3.out).2.1); (case side3 => first | exact HTL.out | exact TabAt.below HTL.out (bu HB.out)); rintro e w27 ⟨rfl, hb⟩; refine ⟨_, rfl, ?_⟩; have n0_ := am (Kd.R_below (ru HO_3.out) hb); have n1_ := am (Kd.R_below (ru HO_4.out) hb); have n2_ := am (Kd.R_below (ru HO_6.out) hb); have n3_ := am (below_step (bu HB.out) hb); clear HO_3; clear HO_4; clear HO_6; clear HB; have HO_3 := n0_; have HO_4 := n1_; have HO_6 := n2_; have HB := n3_; clear n0_ n1_ n2_ n3_; (try clear hb); (try clear hb2); (try clear hk); (try clear hi)) | ((with_reducible refine gate_callee (f := 34) rfl ?_); refine goesL_ (some 58) rfl rfl Tryz.func34 (by kernel_rfl) rfl #[.slice Ao8 t276.length co8] rfl (by (try simp only [mA, mC, mN]); first | done | rfl) ?_; (with_reducible refine (impl_MelodySteps.calls kj5 _ _ t276 t290 _ ?side1 ?side2 A26.out).mono ?_); (case side1 => exact cu (Kd.R_reads' HO_3.out).2.2); (case side2 => exact (Kd.R_reads' HO_3.out).2.1); rintro e w28 ⟨v291, rfl, ho0, hb⟩; refine ⟨_, rfl, ?_⟩; have n0_ := am (Kd.R_below (ru HO_3.out) hb); have n1_ := am (Kd.R_elder' (ru HO_4.out) (Kd.R_base ho0) hb); have n2_ := am (Kd.R_elder' (ru HO_6.out) (Kd.R_base ho0) hb); have n3_ := am (Kd.R_lower (Kd.R_new' (Kd.R_new' ho0 (Kd.R_lt (ru HO_4.out))) (Kd.R_lt (ru HO_6.out))) (below_size (bu HB.out))); have n4_ := am (below_step (bu HB.out) hb); clear HO_3; clear HO_4; clear HO_6; clear HB; have HO_3 := n0_; have HO_4 := n1_; have HO_6 := n2_; have HO292 := n3_; have HB := n4_; clear n0_ n1_ n2_ n3_ n4_; (try clear hb); (try clear hb2); (try clear hk); (try clear hi); (try clear ho0)))
   go_loopg [9, 11] kj5 (fun kq v9 v11 w' => ∃ (x9_2 : ByteArray) (x11_2 : Int), v9 = .string x9_2 ∧ v11 = .int .i64 x11_2 ∧ Aside0 (laws_FnExecuteMelody.l0 kq t276 t279 t289 x9_2 t290 x11_2 = some r) ∧ Aside0 (kq ≤ kj5) ∧ Aside0 (Kd.R k74 74 w' w.heap.size (fun _ => True) (.slice Ao8 t276.length co8) t276) ∧ Aside0 (Kd.R (Kd.int .i64) 3 w' w.heap.size (fun k_ => some k_ ≠ (v291 : Value).ownBlock) v281 t279) ∧ Aside0 (Kd.R (Kd.int .i64) 3 w' w.heap.size (fun k_ => some k_ ≠ (v281 : Value).ownBlock) v291 t290) ∧ Aside0 (Below w.heap.size w w'))
   case atStart => exact ⟨((⟨#[115, 116, 101, 112, 115]⟩ : ByteArray)), (0), (by first | rfl | simp | simp [*]), (by first | rfl | simp | simp [*]), H', ⟨Nat.le_refl _⟩, ⟨ru HO_3.out⟩, ⟨by (with_reducible repeat (first | apply Kd.R_alloc | apply Kd.R_drewN | apply Kd.R_drew)); exact Kd.R_mono HO_4.out (fun _ hk => hk.2)⟩, ⟨by (with_reducible repeat (first | apply Kd.R_alloc | apply Kd.R_drewN | apply Kd.R_drew)); exact Kd.R_mono HO292.out (fun _ hk => hk.1.2)⟩, ⟨bu HB.out⟩⟩
   case round =>
    clear H'
    (try clear c1); (try clear c2); (try clear c2b0); (try clear c2b1); (try clear p2); (try clear c3); (try clear c9); (try clear c11); (try clear c11b0); (try clear c11b1); (try clear c11b2); (try clear c13); (try clear c18); (try clear c19); (try clear c19b0); (try clear c19b1); (try clear c19b2); (try clear c23); (try clear c23b0); (try clear c23b1); (try clear c23b2); (try clear c26); (try clear p2)
    obtain ⟨x9_2, x11_2, rfl, rfl, HA, HK2, HO_3, HO_4, HO_10, HB⟩ := hrel
    cases gk with
    | zero => exact absurd HA.out (by simp [laws_FnExecuteMelody.l0])
    | succ k2 =>
     have H := HA.out
     clear HA
     simp only [laws_FnExecuteMelody.l0] at H
     by_cases c29 : x11_2 < (t290.length : Int)
     ·rw [if_pos c29] at H
      have c29b0 : decide (x11_2 < (t290.length : Int)) = true := decide_eq_true c29
      clear c29
      by_cases c30 : x9_2.size + 1 ≤ 9223372036854775807
      case neg => rw [if_neg c30] at H; exact absurd H (by simp)
      rw [if_pos c30] at H
      have c30b0 := eq_true c30
      try have c30b2 : (9223372036854775807 < x9_2.size + 1) = False := eq_false (Nat.not_lt.2 c30)
      by_cases c31 : 0 ≤ x11_2
      case neg => rw [if_neg c31] at H; exact absurd H (by simp)
      rw [if_pos c31] at H
      have c31b0 : decide (0 ≤ x11_2) = true := decide_eq_true c31
      clear c31
      replace H := Option.bind_eq_some_iff.mp H
      obtain ⟨t294, A320, H⟩ := H
      replace H : (if (x9_2 ++ (⟨#[32]⟩ : ByteArray)).size + t294.size ≤ 9223372036854775807 then (laws_FnExecuteMelody.l0 k2 t276 t279 t289 ((x9_2 ++ (⟨#[32]⟩ : ByteArray)) ++ t294) t290 (wrap64 (x11_2 + 1))) else (none)) = some r := H
      have A32 := am A320
      clear A320
      by_cases c33 : (x9_2 ++ (⟨#[32]⟩ : ByteArray)).size + t294.size ≤ 9223372036854775807
      case neg => rw [if_neg c33] at H; exact absurd H (by simp)
      rw [if_pos c33] at H
      have c33b0 := eq_true c33
      have c33b7 : x9_2.size + 1 + t294.size ≤ 9223372036854775807 := Nat.le_trans (Nat.le_of_eq (by rw [ByteArray.size_append]; rfl)) c33
      have c33b8 : (x9_2.size + 1 + t294.size ≤ 9223372036854775807) = True := eq_true c33b7
      have c33b9 : (9223372036854775807 < x9_2.size + 1 + t294.size) = False := eq_false (Nat.not_lt.2 c33b7)
      have c33b6 : ((x9_2 ++ (⟨#[32]⟩ : ByteArray)).size + t294.size) = (x9_2.size + 1 + t294.size) := by rw [ByteArray.size_append]; rfl
      try have c33b4 : (9223372036854775807 < x9_2.size + 1 + t294.size) = False := eq_false (by have h_ := c33; simp only [ByteArray.size_append] at h_; have e0_ : (⟨#[32]⟩ : ByteArray).size = 1 := rfl; omega)
      have H' := am H
      clear H
      obtain ⟨Ao34, co34, eo34⟩ := Kd.R_slice HO_10.out
      subst eo34
      have p293 : 0 ≤ (x11_2 : Int) := od
      have q293 : x11_2 < (t290.length : Int) := od
      obtain ⟨ad293, e293, hx293_0⟩ := Kd.at_int (Kd.R_reads' HO_10.out).2.2 x11_2 p293 q293
      cases e293
      replace p293 := eq_true p293
      replace q293 := eq_true q293
      go_wp2_with ((with_reducible refine gate_callee (f := 27) rfl ?_); refine goesL_ (some 71) rfl rfl Tryz.func27 (by kernel_rfl) rfl #[.int .i64 (rd t290 x11_2)] rfl (by (try simp only [mA, mC, mN]); first | done | rfl) ?_; (with_reducible refine (laws_signed.calls k2 (rd t290 x11_2) t294 _ A32.out).mono ?_); rintro e w35 ⟨rfl, hb⟩; refine ⟨_, rfl, ?_⟩; have n0_ := am (Kd.R_below (ru HO_3.out) hb); have n1_ := am (Kd.R_below (ru HO_4.out) hb); have n2_ := am (Kd.R_below (ru HO_10.out) hb); have n3_ := am (below_step (bu HB.out) hb); clear HO_3; clear HO_4; clear HO_10; clear HB; have HO_3 := n0_; have HO_4 := n1_; have HO_10 := n2_; have HB := n3_; clear n0_ n1_ n2_ n3_; (try clear hb); (try clear hb2); (try clear hk); (try clear hi))
      go_roundg k2
      case measure => have := HJ5.out; have := HK2.out; omega
      case rel => exact ⟨((x9_2 ++ (⟨#[32]⟩ : ByteArray)) ++ t294), (wrap64 (x11_2 + 1)), (by first | rfl | simp | simp [*]), (by first | rfl | simp | simp [*]), H', ⟨by have := HJ5.out; have := HK2.out; omega⟩, ⟨ru HO_3.out⟩, ⟨ru HO_4.out⟩, ⟨ru HO_10.out⟩, ⟨bu HB.out⟩⟩
     rw [if_neg c29] at H
     have c29b0 : decide (x11_2 < (t290.length : Int)) = false := decide_eq_false c29
     clear c29
     by_cases c36 : 7 + t289.size ≤ 9223372036854775807
     ·rw [if_pos c36] at H
      have c36b0 := eq_true c36
      try have c36b2 : (9223372036854775807 < 7 + t289.size) = False := eq_false (Nat.not_lt.2 c36)
      by_cases c37 : ((⟨#[109, 101, 108, 111, 100, 121, 32]⟩ : ByteArray) ++ t289).size + 17 ≤ 9223372036854775807
      case neg => rw [if_neg c37] at H; exact absurd H (by simp)
      rw [if_pos c37] at H
      have c37b0 := eq_true c37
      try have c37b4 : (9223372036854775807 < 7 + t289.size + 17) = False := eq_false (by have h_ := c37; simp only [ByteArray.size_append] at h_; have e0_ : (⟨#[109, 101, 108, 111, 100, 121, 32]⟩ : ByteArray).size = 7 := rfl; omega)
      replace H := Option.bind_eq_some_iff.mp H
      obtain ⟨t295, A380, H⟩ := H
      replace H : (if 10 + t289.size ≤ 9223372036854775807 then (if ((⟨#[111, 107, 10, 109, 101, 108, 111, 100, 121, 32]⟩ : ByteArray) ++ t289).size + 1 ≤ 9223372036854775807 then (if (((⟨#[111, 107, 10, 109, 101, 108, 111, 100, 121, 32]⟩ : ByteArray) ++ t289) ++ (⟨#[10]⟩ : ByteArray)).size + x9_2.size ≤ 9223372036854775807 then (if ((((⟨#[111, 107, 10, 109, 101, 108, 111, 100, 121, 32]⟩ : ByteArray) ++ t289) ++ (⟨#[10]⟩ : ByteArray)) ++ x9_2).size + 1 ≤ 9223372036854775807 then ((impl_SingText.f k2 t276 t279).bind fun t296 => (if (((((⟨#[111, 107, 10, 109, 101, 108, 111, 100, 121, 32]⟩ : ByteArray) ++ t289) ++ (⟨#[10]⟩ : ByteArray)) ++ x9_2) ++ (⟨#[10]⟩ : ByteArray)).size + t296.size ≤ 9223372036854775807 then (if ((((((⟨#[111, 107, 10, 109, 101, 108, 111, 100, 121, 32]⟩ : ByteArray) ++ t289) ++ (⟨#[10]⟩ : ByteArray)) ++ x9_2) ++ (⟨#[10]⟩ : ByteArray)) ++ t296).size + 1 ≤ 9223372036854775807 then ((laws_endLine.f k2 (t276.length : Int) 0).bind fun t297 => (if (((((((⟨#[111, 107, 10, 109, 101, 108, 111, 100, 121, 32]⟩ : ByteArray) ++ t289) ++ (⟨#[10]⟩ : ByteArray)) ++ x9_2) ++ (⟨#[10]⟩ : ByteArray)) ++ t296) ++ (⟨#[10]⟩ : ByteArray)).size + t297.size ≤ 9223372036854775807 then (some (t295.toList == ((((((((⟨#[111, 107, 10, 109, 101, 108, 111, 100, 121, 32]⟩ : ByteArray) ++ t289) ++ (⟨#[10]⟩ : ByteArray)) ++ x9_2) ++ (⟨#[10]⟩ : ByteArray)) ++ t296) ++ (⟨#[10]⟩ : ByteArray)) ++ t297).toList)) else (none))) else (none)) else (none))) else (none)) else (none)) else (none)) else (none)) = some r := H
      have A38 := am A380
      clear A380
      by_cases c39 : 10 + t289.size ≤ 9223372036854775807
      case neg => rw [if_neg c39] at H; exact absurd H (by simp)
      rw [if_pos c39] at H
      have c39b0 := eq_true c39
      try have c39b2 : (9223372036854775807 < 10 + t289.size) = False := eq_false (Nat.not_lt.2 c39)
      by_cases c40 : ((⟨#[111, 107, 10, 109, 101, 108, 111, 100, 121, 32]⟩ : ByteArray) ++ t289).size + 1 ≤ 9223372036854775807
      case neg => rw [if_neg c40] at H; exact absurd H (by simp)
      rw [if_pos c40] at H
      have c40b0 := eq_true c40
      try have c40b4 : (9223372036854775807 < 10 + t289.size + 1) = False := eq_false (by have h_ := c40; simp only [ByteArray.size_append] at h_; have e0_ : (⟨#[111, 107, 10, 109, 101, 108, 111, 100, 121, 32]⟩ : ByteArray).size = 10 := rfl; omega)
      by_cases c41 : (((⟨#[111, 107, 10, 109, 101, 108, 111, 100, 121, 32]⟩ : ByteArray) ++ t289) ++ (⟨#[10]⟩ : ByteArray)).size + x9_2.size ≤ 9223372036854775807
      case neg => rw [if_neg c41] at H; exact absurd H (by simp)
      rw [if_pos c41] at H
      have c41b0 := eq_true c41
      try have c41b4 : (9223372036854775807 < 10 + t289.size + 1 + x9_2.size) = False := eq_false (by have h_ := c41; simp only [ByteArray.size_append] at h_; have e0_ : (⟨#[111, 107, 10, 109, 101, 108, 111, 100, 121, 32]⟩ : ByteArray).size = 10 := rfl; have e1_ : (⟨#[10]⟩ : ByteArray).size = 1 := rfl; omega)
      by_cases c42 : ((((⟨#[111, 107, 10, 109, 101, 108, 111, 100, 121, 32]⟩ : ByteArray) ++ t289) ++ (⟨#[10]⟩ : ByteArray)) ++ x9_2).size + 1 ≤ 9223372036854775807
      case neg => rw [if_neg c42] at H; exact absurd H (by simp)
      rw [if_pos c42] at H
      have c42b0 := eq_true c42
      try have c42b4 : (9223372036854775807 < 10 + t289.size + 1 + x9_2.size + 1) = False := eq_false (by have h_ := c42; simp only [ByteArray.size_append] at h_; have e0_ : (⟨#[111, 107, 10, 109, 101, 108, 111, 100, 121, 32]⟩ : ByteArray).size = 10 := rfl; have e1_ : (⟨#[10]⟩ : ByteArray).size = 1 := rfl; omega)
      replace H := Option.bind_eq_some_iff.mp H
      obtain ⟨t296, A430, H⟩ := H
      replace H : (if (((((⟨#[111, 107, 10, 109, 101, 108, 111, 100, 121, 32]⟩ : ByteArray) ++ t289) ++ (⟨#[10]⟩ : ByteArray)) ++ x9_2) ++ (⟨#[10]⟩ : ByteArray)).size + t296.size ≤ 9223372036854775807 then (if ((((((⟨#[111, 107, 10, 109, 101, 108, 111, 100, 121, 32]⟩ : ByteArray) ++ t289) ++ (⟨#[10]⟩ : ByteArray)) ++ x9_2) ++ (⟨#[10]⟩ : ByteArray)) ++ t296).size + 1 ≤ 9223372036854775807 then ((laws_endLine.f k2 (t276.length : Int) 0).bind fun t297 => (if (((((((⟨#[111, 107, 10, 109, 101, 108, 111, 100, 121, 32]⟩ : ByteArray) ++ t289) ++ (⟨#[10]⟩ : ByteArray)) ++ x9_2) ++ (⟨#[10]⟩ : ByteArray)) ++ t296) ++ (⟨#[10]⟩ : ByteArray)).size + t297.size ≤ 9223372036854775807 then (some (t295.toList == ((((((((⟨#[111, 107, 10, 109, 101, 108, 111, 100, 121, 32]⟩ : ByteArray) ++ t289) ++ (⟨#[10]⟩ : ByteArray)) ++ x9_2) ++ (⟨#[10]⟩ : ByteArray)) ++ t296) ++ (⟨#[10]⟩ : ByteArray)) ++ t297).toList)) else (none))) else (none)) else (none)) = some r := H
      have A43 := am A430
      clear A430
      by_cases c44 : (((((⟨#[111, 107, 10, 109, 101, 108, 111, 100, 121, 32]⟩ : ByteArray) ++ t289) ++ (⟨#[10]⟩ : ByteArray)) ++ x9_2) ++ (⟨#[10]⟩ : ByteArray)).size + t296.size ≤ 9223372036854775807
      case neg => rw [if_neg c44] at H; exact absurd H (by simp)
      rw [if_pos c44] at H
      have c44b0 := eq_true c44
      try have c44b4 : (9223372036854775807 < 10 + t289.size + 1 + x9_2.size + 1 + t296.size) = False := eq_false (by have h_ := c44; simp only [ByteArray.size_append] at h_; have e0_ : (⟨#[111, 107, 10, 109, 101, 108, 111, 100, 121, 32]⟩ : ByteArray).size = 10 := rfl; have e1_ : (⟨#[10]⟩ : ByteArray).size = 1 := rfl; omega)
      by_cases c45 : ((((((⟨#[111, 107, 10, 109, 101, 108, 111, 100, 121, 32]⟩ : ByteArray) ++ t289) ++ (⟨#[10]⟩ : ByteArray)) ++ x9_2) ++ (⟨#[10]⟩ : ByteArray)) ++ t296).size + 1 ≤ 9223372036854775807
      case neg => rw [if_neg c45] at H; exact absurd H (by simp)
      rw [if_pos c45] at H
      have c45b0 := eq_true c45
      try have c45b4 : (9223372036854775807 < 10 + t289.size + 1 + x9_2.size + 1 + t296.size + 1) = False := eq_false (by have h_ := c45; simp only [ByteArray.size_append] at h_; have e0_ : (⟨#[111, 107, 10, 109, 101, 108, 111, 100, 121, 32]⟩ : ByteArray).size = 10 := rfl; have e1_ : (⟨#[10]⟩ : ByteArray).size = 1 := rfl; omega)
      replace H := Option.bind_eq_some_iff.mp H
      obtain ⟨t297, A460, H⟩ := H
      replace H : (if (((((((⟨#[111, 107, 10, 109, 101, 108, 111, 100, 121, 32]⟩ : ByteArray) ++ t289) ++ (⟨#[10]⟩ : ByteArray)) ++ x9_2) ++ (⟨#[10]⟩ : ByteArray)) ++ t296) ++ (⟨#[10]⟩ : ByteArray)).size + t297.size ≤ 9223372036854775807 then (some (t295.toList == ((((((((⟨#[111, 107, 10, 109, 101, 108, 111, 100, 121, 32]⟩ : ByteArray) ++ t289) ++ (⟨#[10]⟩ : ByteArray)) ++ x9_2) ++ (⟨#[10]⟩ : ByteArray)) ++ t296) ++ (⟨#[10]⟩ : ByteArray)) ++ t297).toList)) else (none)) = some r := H
      have A46 := am A460
      clear A460
      by_cases c47 : (((((((⟨#[111, 107, 10, 109, 101, 108, 111, 100, 121, 32]⟩ : ByteArray) ++ t289) ++ (⟨#[10]⟩ : ByteArray)) ++ x9_2) ++ (⟨#[10]⟩ : ByteArray)) ++ t296) ++ (⟨#[10]⟩ : ByteArray)).size + t297.size ≤ 9223372036854775807
      case neg => rw [if_neg c47] at H; exact absurd H (by simp)
      rw [if_pos c47] at H
      have c47b0 := eq_true c47
      try have c47b4 : (9223372036854775807 < 10 + t289.size + 1 + x9_2.size + 1 + t296.size + 1 + t297.size) = False := eq_false (by have h_ := c47; simp only [ByteArray.size_append] at h_; have e0_ : (⟨#[111, 107, 10, 109, 101, 108, 111, 100, 121, 32]⟩ : ByteArray).size = 10 := rfl; have e1_ : (⟨#[10]⟩ : ByteArray).size = 1 := rfl; omega)
      obtain rfl := Option.some.inj H
      obtain ⟨Ao48, co48, eo48⟩ := Kd.R_slice HO_10.out
      subst eo48
      go_wp2_with (first | ((with_reducible refine gate_callee (f := 12) rfl ?_); refine goesL_ (some 76) rfl rfl Tryz.func12 (by kernel_rfl) rfl #[.string (((⟨#[109, 101, 108, 111, 100, 121, 32]⟩ : ByteArray) ++ t289) ++ (⟨#[10, 115, 104, 111, 119, 10, 115, 116, 101, 112, 115, 10, 115, 105, 110, 103, 10]⟩ : ByteArray))] rfl (by (try simp only [mA, mC, mN]); first | done | rfl) ?_; (with_reducible refine (impl_Execute.calls k2 (((⟨#[109, 101, 108, 111, 100, 121, 32]⟩ : ByteArray) ++ t289) ++ (⟨#[10, 115, 104, 111, 119, 10, 115, 116, 101, 112, 115, 10, 115, 105, 110, 103, 10]⟩ : ByteArray)) t295 _ ?side1 ?side2 ?side3 ?side4 A38.out).mono ?_); (case side1 => first | exact HTL.out | exact TabAt.below HTL.out (bu HB.out)); (case side2 => first | exact HTM.out | exact TabAt.below HTM.out (bu HB.out) | exact TabM.below HTM.out (bu HB.out) | (repeat (first | exact HTM.out | (with_reducible refine TabAt.drewN ?_ _) | (with_reducible refine TabAt.drew ?_) | (with_reducible refine TabAt.alloc ?_ _)))); (case side3 => first | exact HTP.out | exact TabP.below HTP.out (bu HB.out)); (case side4 => first | exact HTS.out | exact TabAt.below HTS.out (bu HB.out)); rintro e w49 ⟨rfl, hb⟩; refine ⟨_, rfl, ?_⟩; have n0_ := am (Kd.R_below (ru HO_3.out) hb); have n1_ := am (Kd.R_below (ru HO_4.out) hb); have n2_ := am (Kd.R_below (ru HO_10.out) hb); have n3_ := am (below_step (bu HB.out) hb); clear HO_3; clear HO_4; clear HO_10; clear HB; have HO_3 := n0_; have HO_4 := n1_; have HO_10 := n2_; have HB := n3_; clear n0_ n1_ n2_ n3_; (try clear hb); (try clear hb2); (try clear hk); (try clear hi); obtain ⟨Ao50, co50, eo50⟩ := Kd.R_slice HO_4.out; subst eo50) | ((with_reducible refine gate_callee (f := 35) rfl ?_); refine goesL_ (some 86) rfl rfl Tryz.func35 (by kernel_rfl) rfl #[.slice Ao8 t276.length co8, .slice Ao50 t279.length co50] rfl (by (try simp only [mA, mC, mN]); first | done | rfl) ?_; (with_reducible refine (impl_SingText.calls k2 _ _ t276 _ _ t279 t296 _ ?side1 ?side2 ?side3 ?side4 ?side5 ?side6 A43.out).mono ?_); (case side1 => exact cu (Kd.R_reads' HO_3.out).2.2); (case side2 => exact (Kd.R_reads' HO_3.out).2.1); (case side3 => exact cu (Kd.R_reads' HO_4.out).2.2); (case side4 => exact (Kd.R_reads' HO_4.out).2.1); (case side5 => first | exact HTL.out | exact TabAt.below HTL.out (bu HB.out)); (case side6 => first | exact HTS.out | exact TabAt.below HTS.out (bu HB.out)); rintro e w51 ⟨rfl, hb⟩; refine ⟨_, rfl, ?_⟩; have n0_ := am (Kd.R_below (ru HO_3.out) hb); have n1_ := am (Kd.R_below (ru HO_4.out) hb); have n2_ := am (Kd.R_below (ru HO_10.out) hb); have n3_ := am (below_step (bu HB.out) hb); clear HO_3; clear HO_4; clear HO_10; clear HB; have HO_3 := n0_; have HO_4 := n1_; have HO_10 := n2_; have HB := n3_; clear n0_ n1_ n2_ n3_; (try clear hb); (try clear hb2); (try clear hk); (try clear hi)) | ((with_reducible refine gate_callee (f := 21) rfl ?_); refine goesL_ (some 91) rfl rfl Tryz.func21 (by kernel_rfl) rfl #[.int .i64 (t276.length : Int), .int .i64 0] rfl (by (try simp only [mA, mC, mN]); first | done | rfl) ?_; (with_reducible refine (laws_endLine.calls k2 (t276.length : Int) 0 t297 _ A46.out).mono ?_); rintro e w52 ⟨rfl, hb⟩; refine ⟨_, rfl, ?_⟩; have n0_ := am (Kd.R_below (ru HO_3.out) hb); have n1_ := am (Kd.R_below (ru HO_4.out) hb); have n2_ := am (Kd.R_below (ru HO_10.out) hb); have n3_ := am (below_step (bu HB.out) hb); clear HO_3; clear HO_4; clear HO_10; clear HB; have HO_3 := n0_; have HO_4 := n1_; have HO_10 := n2_; have HB := n3_; clear n0_ n1_ n2_ n3_; (try clear hb); (try clear hb2); (try clear hk); (try clear hi)))
      go_ret
      exact ⟨by first | rfl | (simp [*] <;> rfl), bu HB.out⟩
     ·rw [if_neg c36] at H
      exact absurd H (by simp)

end Go.Proofs.YtjnkmckklmabcaaGreatDoor.XL
