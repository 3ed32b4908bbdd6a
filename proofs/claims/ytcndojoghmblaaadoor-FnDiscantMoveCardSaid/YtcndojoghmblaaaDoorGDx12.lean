-- Made by this session's gprint.py out of the translation. Not trusted: Lean checks it.
import Derived.Test.YtcndojoghmblaaaDoorGDx0
import Derived.Test.YtcndojoghmblaaaDoorGDx9
import Derived.Test.YtcndojoghmblaaaDoorGDx10
import Derived.Test.YtcndojoghmblaaaDoorGDx11
namespace Go.Proofs.YtcndojoghmblaaaDoor.GD
open Go.RowKit Go.Proofs.YtcndojoghmblaaaDoorW.PrintWords Go.Proofs.YtcndojoghmblaaaDoorW.PrintLast Go.Proofs.YtcndojoghmblaaaDoorW.PrintMore
attribute [local go_sem] max2_int min2_int max_two min_two max_three min_three max_four min_four   -- for this text's walks alone
set_option linter.unusedVariables false
set_option linter.unusedSimpArgs false

/-! ### spec_MelodyMove: function 86 -/
mutual
def spec_MelodyMove.j0 : Nat → List (S30) → Int → Bool → Option ((List (S30)) × Bool)
 | 0, _, _, _ => none
 | k + 1, x0, x1, x21 => if x21 = true then (some ((([] : List (S30))), false)) else (spec_MelodyMove.l0 k x0 x1 0)
def spec_MelodyMove.l0 : Nat → List (S30) → Int → Int → Option ((List (S30)) × Bool)
 | 0, _, _, _ => none
 | k + 1, x0, x1, x6 => if x6 < 2 then (if 0 < (x0.length : Int) then ((spec_ToneValid.f (wrap64 (((rd_T30 x0 0).f0) + x1)) (x6 == 1)).bind fun t257 => (if t257 = true then ((spec_l1Height.f (wrap64 (((rd_T30 x0 0).f0) + x1)) (x6 == 1)).bind fun t258 => ((spec_l1Height.f ((rd_T30 x0 0).f0) ((rd_T30 x0 0).f1)).bind fun t260 => ((spec_l2Moved.f k x0 x1 (wrap64 (t258 - t260))).bind fun bt261 => (if bt261.2 = true then (some (bt261.1, true)) else (spec_MelodyMove.l0 k x0 x1 (wrap64 (x6 + 1))))))) else (spec_MelodyMove.l0 k x0 x1 (wrap64 (x6 + 1))))) else (none)) else (some ((([] : List (S30))), false))
end
def spec_MelodyMove.f (k : Nat) (l0 : List (S30)) (a1 : Int) : Option ((List (S30)) × Bool) := if (l0.length : Int) = 0 then (some ((([] : List (S30))), true)) else ((spec_MelodyValid.f k l0).bind fun t247 => (if t247 = true then ((spec_l6In.f a1 (-20) 20).bind fun t248 => (spec_MelodyMove.j0 k l0 a1 (!t248))) else (spec_MelodyMove.j0 k l0 a1 true)))
def spec_MelodyMove.T10 : Bool × List (List Nat × List Nat) := (true, [([], []), ([], []), ([], []), ([2], [2]), ([], []), ([4], [4]), ([5], [5]), ([6, 3], [6]), ([3, 7], [3, 7]), ([0, 1, 8, 7], [0, 1, 8]), ([9], [9]), ([10], [10]), ([10], [10]), ([11, 9, 0, 1, 2, 3, 4, 5, 6, 7, 8, 9, 10, 11], [11]), ([12, 13, 0, 1, 2, 3, 4, 5, 6, 7, 8, 9, 10, 11, 12, 13], [12])])
def spec_MelodyMove.B10 : List Nat := [0, 0, 0, 4, 0, 16, 48, 124, 252, 511, 1023, 2047, 2047, 4095, 16383]
theorem spec_MelodyMove.tab10 : rtab .any (opsOf Tryd.f86 10) = spec_MelodyMove.T10 := by kernel_rfl
theorem spec_MelodyMove.bits10 : waitsOk spec_MelodyMove.T10.2 spec_MelodyMove.B10 = true := by kernel_rfl
set_option maxHeartbeats 8000000 in
set_option maxRecDepth 100000 in
theorem spec_MelodyMove.calls (k : Nat) (A0 : Option Addr) (c0 : Nat) (l0 : List (S30)) (a1 : Int) (r1 : List (S30)) (r2 : Bool) (w : World) (hr0 : Kd.C k30 w A0 l0.length l0) (hc0 : l0.length ≤ c0) (h : spec_MelodyMove.f k l0 a1 = some (r1, r2)) :
  Calls Tryd.prog 86 #[.slice A0 l0.length c0, .int .i64 a1] w fun e w' => ∃ v0_ : Value, e = .returned (.tuple #[v0_, .bool r2]) ∧ Kd.R k30 30 w' w.heap.size (fun _ => True) v0_ r1 ∧ Below w.heap.size w w' := by
 have hu30 := Tryd.underlying30
 have HR0 := am hr0
 have HC0 := am hc0
 clear hr0 hc0
 have HB := am (Below.refl w.heap.size w)
 have H : (if (l0.length : Int) = 0 then (some ((([] : List (S30))), true)) else ((spec_MelodyValid.f k l0).bind fun t247 => (if t247 = true then ((spec_l6In.f a1 (-20) 20).bind fun t248 => (spec_MelodyMove.j0 k l0 a1 (!t248))) else (spec_MelodyMove.j0 k l0 a1 true)))) = some (r1, r2) := h
 clear h
 by_cases c3 : (l0.length : Int) = 0
 ·rw [if_pos c3] at H
  have c3b0 : ((l0.length : Int) == 0) = true := beq_iff_eq.mpr c3
  have c3b1 : ((l0.length : Int) != 0) = false := bne_eq_false_iff_eq.mpr c3
  clear c3
  obtain ⟨y244, hy244⟩ : ∃ y_ : List (S30), y_ = (([] : List (S30))) := ⟨_, rfl⟩
  replace H : (some (y244, true)) = some (r1, r2) := by first | (rw [hy244]; with_reducible exact H) | (have H2_ := (Option.bind_some _ _).symm.trans H; rw [hy244]; with_reducible exact H2_) | (have H2_ := (Option.bind_some _ _).symm.trans H; with_reducible exact H2_) | with_reducible exact H | (rw [hy244]; exact H) | exact H
  have Ny244 := am hy244
  clear hy244
  simp only [Option.some.injEq, Prod.mk.injEq] at H
  obtain ⟨rfl, rfl⟩ := H
  go_enter Tryd.func86, Tryd.ntmps86
  go_wp2_with (first | ((with_reducible refine gate_dst (N := 13) rfl ?_); refine Kd.R_lit k30 _ 30 ?hg (N := 13) ?hd (xs := ([] : List (S30))) (inner := []) (ok := fun _ => True) (okp := fun _ => True) ?hr ?hp (fun _ hk => hk) trivial (Below.refl _ _) (Nat.le_refl _) (by simp) ?_; (case hd => rfl); (case hg => rfl); (case hr => first | (go_simp; done) | (go_simp; rfl)); (case hp => exact (Reps.none _ _)); intro v245 w4 ho5 hb hg_ hnew_; clear hg_ hnew_; (first | rw [← Ny244.out] at ho5 | (simp only [Int.reduceToNat] at ho5; rw [← Ny244.out] at ho5)); have n0_ := am (Kd.R_lower ho5 (below_size (bu HB.out))); have n1_ := am (below_step (bu HB.out) hb); clear HB; have HO246 := n0_; have HB := n1_; clear n0_ n1_; clear hb ho5))
  go_ret2
  exact ⟨_, by first | rfl | (simp [errW_none, errW_some] <;> rfl) | (simp [*, errW_none, errW_some] <;> rfl), ru HO246.out, bu HB.out⟩
 ·rw [if_neg c3] at H
  have c3b0 : ((l0.length : Int) == 0) = false := beq_eq_false_iff_ne.mpr c3
  have c3b1 : ((l0.length : Int) != 0) = true := bne_iff_ne.mpr c3
  have c3b2 : ¬ (l0 = []) := fun h_ => c3 (by rw [h_]; rfl)
  have HC6 := am H
  clear H
  go_enter Tryd.func86, Tryd.ntmps86
  go_upto_region 3 with (fail)
  go_cut [21] (fun v21 wc => ∃ (kq : Nat) (x21_5 : Bool), v21 = .bool x21_5 ∧ Aside0 (spec_MelodyMove.j0 kq l0 a1 x21_5 = some (r1, r2)) ∧ Aside0 (kq ≤ k) ∧ Aside0 (Below w.heap.size w wc))
  case first =>
   have H := HC6.out
   clear HC6
   replace H := Option.bind_eq_some_iff.mp H
   obtain ⟨t247, A70, H⟩ := H
   replace H : (if t247 = true then ((spec_l6In.f a1 (-20) 20).bind fun t248 => (spec_MelodyMove.j0 k l0 a1 (!t248))) else (spec_MelodyMove.j0 k l0 a1 true)) = some (r1, r2) := H
   have A7 := am A70
   clear A70
   by_cases c8 : t247 = true
   ·subst c8
    have H1 : ((spec_l6In.f a1 (-20) 20).bind fun t248 => (spec_MelodyMove.j0 k l0 a1 (!t248))) = some (r1, r2) := by rw [if_pos rfl] at H; exact H
    clear H
    have H := H1
    clear H1
    replace H := Option.bind_eq_some_iff.mp H
    obtain ⟨t248, A90, H⟩ := H
    replace H : (spec_MelodyMove.j0 k l0 a1 (!t248)) = some (r1, r2) := H
    have A9 := am A90
    clear A90
    have H' := am H
    clear H
    go_wp2_with (first | ((with_reducible refine gate_callee (f := 93) rfl ?_); refine goesL_ (some 15) rfl rfl Tryd.func93 (by kernel_rfl) rfl #[.slice A0 l0.length c0] rfl (by (try simp only [List.map_toArray, List.map_cons, List.map_nil]); first | done | rfl | (simp only [List.length_drop, List.length_take]; rfl)) ?_; (with_reducible refine (spec_MelodyValid.calls k _ _ l0 true _ ?side1 ?side2 A7.out).mono ?_); (case side1 => repeat (first | exact (Kd.C_below HR0.out HB.out) | (with_reducible refine Kd.C_alloc ?_ _) | (with_reducible refine Kd.C_drewN ?_ _) | (with_reducible refine Kd.C_drew ?_))); (case side2 => exact HC0.out); rintro e w10 ⟨rfl, hb⟩; refine ⟨_, rfl, ?_⟩; have n0_ := am (below_step (bu HB.out) hb); clear HB; have HB := n0_; clear n0_; (try clear hb); (try clear hb2); (try clear hk); (try clear hi)) | (go_at_call 131; (with_reducible refine (spec_l6In.calls a1 (-20) 20 t248 _ A9.out).mono ?_); rintro e w' ⟨rfl, ⟨nd, rfl⟩⟩))
    go_meet
    case rel => exact ⟨_, (!t248), (by first | rfl | (simp; done) | (simp [*]; done)), H', ⟨by first | omega | exact Nat.le_refl _⟩, ⟨bu HB.out⟩⟩
   ·replace c8 := Bool.eq_false_iff.mpr c8
    subst c8
    have H1 : (spec_MelodyMove.j0 k l0 a1 true) = some (r1, r2) := by rw [if_neg (show ¬ (false = true) by decide)] at H; exact H
    clear H
    have H := H1
    clear H1
    have H' := am H
    clear H
    go_wp2_with (first | ((with_reducible refine gate_callee (f := 93) rfl ?_); refine goesL_ (some 15) rfl rfl Tryd.func93 (by kernel_rfl) rfl #[.slice A0 l0.length c0] rfl (by (try simp only [List.map_toArray, List.map_cons, List.map_nil]); first | done | rfl | (simp only [List.length_drop, List.length_take]; rfl)) ?_; (with_reducible refine (spec_MelodyValid.calls k _ _ l0 false _ ?side1 ?side2 A7.out).mono ?_); (case side1 => repeat (first | exact (Kd.C_below HR0.out HB.out) | (with_reducible refine Kd.C_alloc ?_ _) | (with_reducible refine Kd.C_drewN ?_ _) | (with_reducible refine Kd.C_drew ?_))); (case side2 => exact HC0.out); rintro e w11 ⟨rfl, hb⟩; refine ⟨_, rfl, ?_⟩; have n0_ := am (below_step (bu HB.out) hb); clear HB; have HB := n0_; clear n0_; (try clear hb); (try clear hb2); (try clear hk); (try clear hi)))
    go_meet
    case rel => exact ⟨_, (true), (by first | rfl | (simp; done) | (simp [*]; done)), H', ⟨by first | omega | exact Nat.le_refl _⟩, ⟨bu HB.out⟩⟩
  case rest =>
   clear HC6
   try clear p2
   try clear c3
   try clear c3b0
   try clear c3b1
   try clear c3b2
   try clear c8
   try clear c9
   obtain ⟨kq, x21_5, rfl, HA, HJ5, HB⟩ := hcut
   cases kq with
   | zero => exact absurd HA.out (by simp [spec_MelodyMove.j0])
   | succ kj5 =>
    have H := HA.out
    clear HA
    simp only [spec_MelodyMove.j0] at H
    by_cases c12 : x21_5 = true
    ·subst c12
     have H1 : (some ((([] : List (S30))), false)) = some (r1, r2) := by rw [if_pos rfl] at H; exact H
     clear H
     have H := H1
     clear H1
     obtain ⟨y249, hy249⟩ : ∃ y_ : List (S30), y_ = (([] : List (S30))) := ⟨_, rfl⟩
     replace H : (some (y249, false)) = some (r1, r2) := by first | (rw [hy249]; with_reducible exact H) | (have H2_ := (Option.bind_some _ _).symm.trans H; rw [hy249]; with_reducible exact H2_) | (have H2_ := (Option.bind_some _ _).symm.trans H; with_reducible exact H2_) | with_reducible exact H | (rw [hy249]; exact H) | exact H
     have Ny249 := am hy249
     clear hy249
     simp only [Option.some.injEq, Prod.mk.injEq] at H
     obtain ⟨rfl, rfl⟩ := H
     go_wp2_with (first | ((with_reducible refine gate_dst (N := 22) rfl ?_); refine Kd.R_lit k30 _ 30 ?hg (N := 22) ?hd (xs := ([] : List (S30))) (inner := []) (ok := fun _ => True) (okp := fun _ => True) ?hr ?hp (fun _ hk => hk) trivial (Below.refl _ _) (Nat.le_refl _) (by simp) ?_; (case hd => rfl); (case hg => rfl); (case hr => first | (go_simp; done) | (go_simp; rfl)); (case hp => exact (Reps.none _ _)); intro v250 w13 ho14 hb hg_ hnew_; clear hg_ hnew_; (first | rw [← Ny249.out] at ho14 | (simp only [Int.reduceToNat] at ho14; rw [← Ny249.out] at ho14)); have n0_ := am (Kd.R_lower ho14 (below_size (bu HB.out))); have n1_ := am (below_step (bu HB.out) hb); clear HB; have HO251 := n0_; have HB := n1_; clear n0_ n1_; clear hb ho14))
     go_ret2
     exact ⟨_, by first | rfl | (simp [errW_none, errW_some] <;> rfl) | (simp [*, errW_none, errW_some] <;> rfl), ru HO251.out, bu HB.out⟩
    ·replace c12 := Bool.eq_false_iff.mpr c12
     subst c12
     have H1 : (spec_MelodyMove.l0 kj5 l0 a1 0) = some (r1, r2) := by rw [if_neg (show ¬ (false = true) by decide)] at H; exact H
     clear H
     have H := H1
     clear H1
     have H' := am H
     clear H
     go_wp2
     go_loopg [6] kj5 (fun kq v6 w' => ∃ (x6_2 : Int), v6 = .int .i64 x6_2 ∧ Aside0 (spec_MelodyMove.l0 kq l0 a1 x6_2 = some (r1, r2)) ∧ Aside0 (kq ≤ kj5) ∧ Aside0 (Below w.heap.size w w'))
     case atStart => exact ⟨(0), (by first | rfl | (simp; done) | (simp [*]; done)), H', ⟨Nat.le_refl _⟩, ⟨bu HB.out⟩⟩
     case round =>
      clear H'
      try clear c1
      try clear p2
      try clear c3
      try clear c3b0
      try clear c3b1
      try clear c3b2
      try clear c8
      try clear c9
      try clear c12
      try clear p2
      obtain ⟨x6_2, rfl, HA, HK2, HB⟩ := hrel
      cases gk with
      | zero => exact absurd HA.out (by simp [spec_MelodyMove.l0])
      | succ k2 =>
       have H := HA.out
       clear HA
       simp only [spec_MelodyMove.l0] at H
       by_cases c15 : x6_2 < 2
       ·rw [if_pos c15] at H
        have c15b0 : decide (x6_2 < 2) = true := decide_eq_true c15
        clear c15
        by_cases c16 : 0 < (l0.length : Int)
        ·rw [if_pos c16] at H
         have c16b0 : decide (0 < (l0.length : Int)) = true := decide_eq_true c16
         have c16b1 : decide (0 < l0.length) = true := decide_eq_true (by omega)
         clear c16
         replace H := Option.bind_eq_some_iff.mp H
         obtain ⟨t257, A170, H⟩ := H
         replace H : (if t257 = true then ((spec_l1Height.f (wrap64 (((rd_T30 l0 0).f0) + a1)) (x6_2 == 1)).bind fun t258 => ((spec_l1Height.f ((rd_T30 l0 0).f0) ((rd_T30 l0 0).f1)).bind fun t260 => ((spec_l2Moved.f k2 l0 a1 (wrap64 (t258 - t260))).bind fun bt261 => (if bt261.2 = true then (some (bt261.1, true)) else (spec_MelodyMove.l0 k2 l0 a1 (wrap64 (x6_2 + 1))))))) else (spec_MelodyMove.l0 k2 l0 a1 (wrap64 (x6_2 + 1)))) = some (r1, r2) := H
         have A17 := am A170
         clear A170
         by_cases c18 : t257 = true
         ·subst c18
          have H1 : ((spec_l1Height.f (wrap64 (((rd_T30 l0 0).f0) + a1)) (x6_2 == 1)).bind fun t258 => ((spec_l1Height.f ((rd_T30 l0 0).f0) ((rd_T30 l0 0).f1)).bind fun t260 => ((spec_l2Moved.f k2 l0 a1 (wrap64 (t258 - t260))).bind fun bt261 => (if bt261.2 = true then (some (bt261.1, true)) else (spec_MelodyMove.l0 k2 l0 a1 (wrap64 (x6_2 + 1))))))) = some (r1, r2) := by rw [if_pos rfl] at H; exact H
          clear H
          have H := H1
          clear H1
          replace H := Option.bind_eq_some_iff.mp H
          obtain ⟨t258, A190, H⟩ := H
          replace H : ((spec_l1Height.f ((rd_T30 l0 0).f0) ((rd_T30 l0 0).f1)).bind fun t260 => ((spec_l2Moved.f k2 l0 a1 (wrap64 (t258 - t260))).bind fun bt261 => (if bt261.2 = true then (some (bt261.1, true)) else (spec_MelodyMove.l0 k2 l0 a1 (wrap64 (x6_2 + 1)))))) = some (r1, r2) := H
          have A19 := am A190
          clear A190
          replace H := Option.bind_eq_some_iff.mp H
          obtain ⟨t260, A200, H⟩ := H
          replace H : ((spec_l2Moved.f k2 l0 a1 (wrap64 (t258 - t260))).bind fun bt261 => (if bt261.2 = true then (some (bt261.1, true)) else (spec_MelodyMove.l0 k2 l0 a1 (wrap64 (x6_2 + 1))))) = some (r1, r2) := H
          have A20 := am A200
          clear A200
          replace H := Option.bind_eq_some_iff.mp H
          obtain ⟨⟨t261, t262⟩, A210, H⟩ := H
          replace H : (if t262 = true then (some (t261, true)) else (spec_MelodyMove.l0 k2 l0 a1 (wrap64 (x6_2 + 1)))) = some (r1, r2) := H
          have A21 := am A210
          clear A210
          by_cases c22 : t262 = true
          ·subst c22
           have H1 : (some (t261, true)) = some (r1, r2) := by rw [if_pos rfl] at H; exact H
           clear H
           have H := H1
           clear H1
           simp only [Option.some.injEq, Prod.mk.injEq] at H
           obtain ⟨rfl, rfl⟩ := H
           have p255 : 0 ≤ (0 : Int) := (by omega)
           have q255 : 0 < (l0.length : Int) := od
           obtain ⟨ad255, e255, hx255_0, hx255_1⟩ := at_T30 HR0.out 0 p255 q255
           cases e255
           have qi255 : (0 < l0.length) = True := eq_true (by omega)
           (try rw [show ((0 : Int)).toNat = 0 from rfl] at hx255_0)
           (try rw [show 0 * 2 = 0 from rfl] at hx255_0)
           (try rw [Addr.add_zero'] at hx255_0)
           (try rw [show ((0 : Int)).toNat = 0 from rfl] at hx255_1)
           (try rw [show 0 * 2 = 0 from rfl] at hx255_1)
           (try rw [Addr.add_zero'] at hx255_1)
           replace hx255_0 := (HB.out.cell (World.block_lt_of_cell? w _ hx255_0)).trans hx255_0
           replace hx255_1 := (HB.out.cell (World.block_lt_of_cell? w _ hx255_1)).trans hx255_1
           replace p255 := eq_true p255
           replace q255 := eq_true q255
           try go_wp2_with (first | ((with_reducible refine gate_dst (N := 7) rfl ?_); refine box_event ?hg (N := 7) ?hd (cs := #[.int .i64 0, .bool false]) (t := 30) ?hr ?_; (case hd => rfl); (case hg => rfl); (case hr => first | (go_simp; done) | (go_simp; rfl)); intro gb256 hg w23 hbox hb; have n0_ := am (below_step (bu HB.out) hb); have n1_ := am (hbox); have n2_ := am ((by rw [hg]; exact (below_size (bu HB.out)) : w.heap.size ≤ gb256)); have n3_ := am ((by rw [hg]; exact (below_size (bu HB.out)) : w.heap.size ≤ gb256)); clear HB; have HB := n0_; have BK256 := n1_; have GW256 := n2_; have GE256 := n3_; clear n0_ n1_ n2_ n3_; clear hb hbox hg; have hcz24_0 : w23.cell? ⟨gb256, 0, none⟩ = some (.int .i64 0) := (blk_cell BK256.out 0).trans rfl; have hcz24_1 : w23.cell? ⟨gb256, 1, none⟩ = some (.bool false) := (blk_cell BK256.out 1).trans rfl; have hfz24_0 := blk_frozen BK256.out 0; have hfz24_1 := blk_frozen BK256.out 1) | ((with_reducible refine gate_callee (f := 130) rfl ?_); refine goesL_ (some 37) rfl rfl Tryd.func130 (by kernel_rfl) rfl #[.agg #[.int .i64 (wrap64 (((rd_T30 l0 0).f0) + a1)), .bool (x6_2 == 1)]] rfl (by (try simp only [List.map_toArray, List.map_cons, List.map_nil]); first | done | rfl | (simp only [List.length_drop, List.length_take]; rfl)) ?_; (with_reducible refine (spec_ToneValid.calls (wrap64 (((rd_T30 l0 0).f0) + a1)) (x6_2 == 1) true _ A17.out).mono ?_); rintro e w25 ⟨rfl, hb⟩; refine ⟨_, rfl, ?_⟩; have n0_ := am (blk_below (g := gb256) (o := .cells #[.int .i64 (wrap64 (((rd_T30 l0 0).f0) + a1)), .bool (x6_2 == 1)] 30 (0, 0)) (by (with_reducible repeat (first | refine blk_drewN ?_ _ | refine blk_drew ?_ | refine blk_alloc ?_ _)); refine blk_put (cs := #[.int .i64 (wrap64 (((rd_T30 l0 0).f0) + a1)), .bool false]) ?_ 1 _ rfl; (with_reducible repeat (first | refine blk_drewN ?_ _ | refine blk_drew ?_ | refine blk_alloc ?_ _)); refine blk_put (cs := #[.int .i64 0, .bool false]) ?_ 0 _ rfl; (with_reducible repeat (first | refine blk_drewN ?_ _ | refine blk_drew ?_ | refine blk_alloc ?_ _)); exact BK256.out) hb); have n1_ := am (below_step (bu HB.out) hb); clear BK256; clear HB; have BK256 := n0_; have HB := n1_; clear n0_ n1_; (try clear hb); (try clear hb2); (try clear hk); (try clear hi)))
           have n0_ := am (blk_drew BK256.out)
           have n1_ := am (below_drew1 HB.out)
           clear BK256
           clear HB
           have BK256 := n0_
           have HB := n1_
           clear n0_ n1_
           have p259 : 0 ≤ (0 : Int) := (by omega)
           have q259 : 0 < (l0.length : Int) := od
           obtain ⟨ad259, e259, hx259_0, hx259_1⟩ := at_T30 HR0.out 0 p259 q259
           have hw259_1 := hx259_1
           (try rw [show ((0 : Int)).toNat = 0 from rfl] at hw259_1)
           (try rw [show 0 * 2 = 0 from rfl] at hw259_1)
           (try rw [Addr.add_zero'] at hw259_1)
           have hw259_0 := hx259_0
           (try rw [show ((0 : Int)).toNat = 0 from rfl] at hw259_0)
           (try rw [show 0 * 2 = 0 from rfl] at hw259_0)
           (try rw [Addr.add_zero'] at hw259_0)
           obtain rfl : ad255 = ad259 := (by injection e259)
           have qi259 : (0 < l0.length) = True := eq_true (by omega)
           (try rw [show ((0 : Int)).toNat = 0 from rfl] at hx259_0)
           (try rw [show 0 * 2 = 0 from rfl] at hx259_0)
           (try rw [Addr.add_zero'] at hx259_0)
           (try rw [show ((0 : Int)).toNat = 0 from rfl] at hx259_1)
           (try rw [show 0 * 2 = 0 from rfl] at hx259_1)
           (try rw [Addr.add_zero'] at hx259_1)
           replace hx259_0 := (HB.out.cell (World.block_lt_of_cell? w _ hx259_0)).trans hx259_0
           replace hx259_1 := (HB.out.cell (World.block_lt_of_cell? w _ hx259_1)).trans hx259_1
           replace p259 := eq_true p259
           replace q259 := eq_true q259
           refine start_ (n := 15) (S := fun w' => w'.cell? ⟨gb256, 0, none⟩ = some (.int .i64 (wrap64 (((rd_T30 l0 0).f0) + a1))) ∧ w'.cell? ⟨gb256, 1, none⟩ = some (.bool (x6_2 == 1)) ∧ w'.cell? ad255 = some (.int .i64 ((rd_T30 l0 0).f0)) ∧ w'.cell? ⟨ad255.block, ad255.off + 1, none⟩ = some (.bool ((rd_T30 l0 0).f1))) (ds := []) #[F,F,F,F,F,F,F,F,F,F,F,F,F,F,F] (by kernel_rfl) rfl rfl ⟨(blk_cell BK256.out 0).trans rfl, (blk_cell BK256.out 1).trans rfl, ((HB.out.cell (World.block_lt_of_cell? w _ hw259_0)).trans hw259_0), ((HB.out.cell (World.block_lt_of_cell? w _ hw259_1)).trans hw259_1)⟩ (fun hHeld => ?_); refine with_tabW spec_MelodyMove.tab10 spec_MelodyMove.bits10 (fun HT_ HW_ => ?_)
           generalize w25.drew = w26 at BK256 HB hx259_0 hx259_1 hHeld ⊢
           refine pz 0 (some 40) #[T,F,F,F,F,F,F,F,F,F,F,F,F,F,F] (any_of HT_.out (by kernel_rfl)) (h := ?_)
           refine pz 1 (some 41) #[T,T,F,F,F,F,F,F,F,F,F,F,F,F,F] (any_of HT_.out (by kernel_rfl)) (h := ?_)
           refine pz 4 (some 44) #[T,T,F,F,T,F,F,F,F,F,F,F,F,F,F] (any_of HT_.out (by kernel_rfl)) (h := ?_)
           refine pz 5 (some 45) #[T,T,F,F,T,T,F,F,F,F,F,F,F,F,F] (any_of HT_.out (by kernel_rfl)) (h := ?_)
           refine tz hHeld 2 (some 42) #[T,T,T,F,T,T,F,F,F,F,F,F,F,F,F] (take_ofW HT_.out HW_.out (by kernel_rfl)) (h := ?_)
           refine tz hHeld 6 (some 46) #[T,T,T,F,T,T,T,F,F,F,F,F,F,F,F] (take_ofW HT_.out HW_.out (by kernel_rfl)) (h := ?_)
           refine one_ (i := 3) (N := some 43) #[T,T,T,T,T,T,T,F,F,F,F,F,F,F,F] rfl rfl (one_of HT_.out (by kernel_rfl)) (by decide) (fun K hK => ?_)
           refine goes_ Tryd.func133 (by kernel_rfl) rfl #[.agg #[.int .i64 (wrap64 (((rd_T30 l0 0).f0) + a1)), .bool (x6_2 == 1)]] (by rfl) rfl rfl (by (try simp only [List.map_toArray, List.map_cons, List.map_nil]); first | done | rfl | (simp only [List.length_drop, List.length_take]; rfl)) ?_
           with_reducible refine (spec_l1Height.calls (wrap64 (((rd_T30 l0 0).f0) + a1)) (x6_2 == 1) t258 _ A19.out).mono ?_
           rintro e w27 ⟨rfl, hb⟩
           refine ⟨_, rfl, ?_⟩
           have n0_ := am (blk_below (g := gb256) (o := .cells #[.int .i64 (wrap64 (((rd_T30 l0 0).f0) + a1)), .bool (x6_2 == 1)] 30 (0, 0)) (gu BK256.out) hb)
           have n1_ := am (below_step (bu HB.out) hb)
           clear BK256
           clear HB
           have BK256 := n0_
           have HB := n1_
           clear n0_ n1_
           (try clear hb)
           (try clear hb2)
           (try clear hk)
           (try clear hi)
           refine hK.out _ _ ⟨(blk_cell BK256.out 0).trans rfl, (blk_cell BK256.out 1).trans rfl, ((HB.out.cell (World.block_lt_of_cell? w _ hw259_0)).trans hw259_0), ((HB.out.cell (World.block_lt_of_cell? w _ hw259_1)).trans hw259_1)⟩ (fun hHeld => ?_)
           clear hK K
           refine norm_ (a' := ?_) ?_ ?_
           rotate_left
           ·show Act.put _ (some 43) _ = _
            simp only [Act.put, sA, sZ, sS, i64_w, i32_w]
            rfl
           refine one_ (i := 7) (N := some 47) #[T,T,T,T,T,T,T,T,F,F,F,F,F,F,F] rfl rfl (one_of HT_.out (by kernel_rfl)) (by decide) (fun K hK => ?_)
           refine goes_ Tryd.func133 (by kernel_rfl) rfl #[.agg #[.int .i64 ((rd_T30 l0 0).f0), .bool ((rd_T30 l0 0).f1)]] (by rfl) rfl rfl (by (try simp only [List.map_toArray, List.map_cons, List.map_nil]); first | done | rfl | (simp only [List.length_drop, List.length_take]; rfl)) ?_
           with_reducible refine (spec_l1Height.calls ((rd_T30 l0 0).f0) ((rd_T30 l0 0).f1) t260 _ A20.out).mono ?_
           rintro e w28 ⟨rfl, hb⟩
           refine ⟨_, rfl, ?_⟩
           have n0_ := am (blk_below (g := gb256) (o := .cells #[.int .i64 (wrap64 (((rd_T30 l0 0).f0) + a1)), .bool (x6_2 == 1)] 30 (0, 0)) (gu BK256.out) hb)
           have n1_ := am (below_step (bu HB.out) hb)
           clear BK256
           clear HB
           have BK256 := n0_
           have HB := n1_
           clear n0_ n1_
           (try clear hb)
           (try clear hb2)
           (try clear hk)
           (try clear hi)
           refine hK.out _ _ ⟨(blk_cell BK256.out 0).trans rfl, (blk_cell BK256.out 1).trans rfl, ((HB.out.cell (World.block_lt_of_cell? w _ hw259_0)).trans hw259_0), ((HB.out.cell (World.block_lt_of_cell? w _ hw259_1)).trans hw259_1)⟩ (fun hHeld => ?_)
           clear hK K
           refine norm_ (a' := ?_) ?_ ?_
           rotate_left
           ·show Act.put _ (some 47) _ = _
            simp only [Act.put, sA, sZ, sS, i64_w, i32_w]
            rfl
           refine pz 8 (some 48) #[T,T,T,T,T,T,T,T,T,F,F,F,F,F,F] (any_of HT_.out (by kernel_rfl)) (h := ?_)
           refine one_ (i := 9) (N := some 49) #[T,T,T,T,T,T,T,T,T,T,F,F,F,F,F] rfl rfl (one_of HT_.out (by kernel_rfl)) (by decide) (fun K hK => ?_)
           refine goes_ Tryd.func132 (by kernel_rfl) rfl #[.slice (some ad255) l0.length c0, .int .i64 a1, .int .i64 (wrap64 (t258 - t260))] (by rfl) rfl rfl (by (try simp only [List.map_toArray, List.map_cons, List.map_nil]); first | done | rfl | (simp only [List.length_drop, List.length_take]; rfl)) ?_
           with_reducible refine (spec_l2Moved.calls k2 _ _ l0 a1 (wrap64 (t258 - t260)) t261 true _ ?side1 ?side2 A21.out).mono ?_
           (case side1 => repeat (first | exact (Kd.C_below HR0.out HB.out) | (with_reducible refine Kd.C_alloc ?_ _) | (with_reducible refine Kd.C_drewN ?_ _) | (with_reducible refine Kd.C_drew ?_)))
           (case side2 => exact HC0.out)
           rintro e w29 ⟨v263, rfl, ho0, hb⟩
           refine ⟨_, rfl, ?_⟩
           have n0_ := am (Kd.R_lower (Kd.R_newB ho0 (g := gb256) (o := .cells #[.int .i64 (wrap64 (((rd_T30 l0 0).f0) + a1)), .bool (x6_2 == 1)] 30 (0, 0)) (gu BK256.out)) (below_size (bu HB.out)))
           have n1_ := am (blk_below (g := gb256) (o := .cells #[.int .i64 (wrap64 (((rd_T30 l0 0).f0) + a1)), .bool (x6_2 == 1)] 30 (0, 0)) (gu BK256.out) hb)
           have n2_ := am (below_step (bu HB.out) hb)
           clear BK256
           clear HB
           have HO264 := n0_
           have BK256 := n1_
           have HB := n2_
           clear n0_ n1_ n2_
           (try clear hb)
           (try clear hb2)
           (try clear hk)
           (try clear hi)
           (try clear ho0)
           refine hK.out _ _ ⟨(blk_cell BK256.out 0).trans rfl, (blk_cell BK256.out 1).trans rfl, ((HB.out.cell (World.block_lt_of_cell? w _ hw259_0)).trans hw259_0), ((HB.out.cell (World.block_lt_of_cell? w _ hw259_1)).trans hw259_1)⟩ (fun hHeld => ?_)
           clear hK K
           refine norm_ (a' := ?_) ?_ ?_
           rotate_left
           ·show Act.put _ (some 49) _ = _
            simp only [Act.put, sA, sZ, sS, i64_w, i32_w]
            rfl
           refine pz 10 (some 39) #[T,T,T,T,T,T,T,T,T,T,T,F,F,F,F] (any_of HT_.out (by kernel_rfl)) (h := ?_)
           refine pz 11 (some 50) #[T,T,T,T,T,T,T,T,T,T,T,T,F,F,F] (any_of HT_.out (by kernel_rfl)) (h := ?_)
           refine pz 12 (some 51) #[T,T,T,T,T,T,T,T,T,T,T,T,T,F,F] (any_of HT_.out (by kernel_rfl)) (h := ?_)
           refine pz 13 (some 8) #[T,T,T,T,T,T,T,T,T,T,T,T,T,T,F] (any_of HT_.out (by kernel_rfl)) (h := ?_)
           refine pz 14 (some 9) #[T,T,T,T,T,T,T,T,T,T,T,T,T,T,T] (any_of HT_.out (by kernel_rfl)) (h := ?_)
           refine done_ (done_of HT_.out (by kernel_rfl)) ?_
           try go_wp2
           go_ret2
           exact ⟨_, by first | rfl | (simp [errW_none, errW_some] <;> rfl) | (simp [*, errW_none, errW_some] <;> rfl), by (with_reducible repeat (first | apply Kd.R_alloc | apply Kd.R_drewN | apply Kd.R_drew)); exact Kd.R_mono HO264.out (fun _ hk => trivial), bu HB.out⟩
          ·replace c22 := Bool.eq_false_iff.mpr c22
           subst c22
           have H1 : (spec_MelodyMove.l0 k2 l0 a1 (wrap64 (x6_2 + 1))) = some (r1, r2) := by rw [if_neg (show ¬ (false = true) by decide)] at H; exact H
           clear H
           have H := H1
           clear H1
           have H' := am H
           clear H
           have p255 : 0 ≤ (0 : Int) := (by omega)
           have q255 : 0 < (l0.length : Int) := od
           obtain ⟨ad255, e255, hx255_0, hx255_1⟩ := at_T30 HR0.out 0 p255 q255
           cases e255
           have qi255 : (0 < l0.length) = True := eq_true (by omega)
           (try rw [show ((0 : Int)).toNat = 0 from rfl] at hx255_0)
           (try rw [show 0 * 2 = 0 from rfl] at hx255_0)
           (try rw [Addr.add_zero'] at hx255_0)
           (try rw [show ((0 : Int)).toNat = 0 from rfl] at hx255_1)
           (try rw [show 0 * 2 = 0 from rfl] at hx255_1)
           (try rw [Addr.add_zero'] at hx255_1)
           replace hx255_0 := (HB.out.cell (World.block_lt_of_cell? w _ hx255_0)).trans hx255_0
           replace hx255_1 := (HB.out.cell (World.block_lt_of_cell? w _ hx255_1)).trans hx255_1
           replace p255 := eq_true p255
           replace q255 := eq_true q255
           try go_wp2_with (first | ((with_reducible refine gate_dst (N := 7) rfl ?_); refine box_event ?hg (N := 7) ?hd (cs := #[.int .i64 0, .bool false]) (t := 30) ?hr ?_; (case hd => rfl); (case hg => rfl); (case hr => first | (go_simp; done) | (go_simp; rfl)); intro gb256 hg w30 hbox hb; have n0_ := am (below_step (bu HB.out) hb); have n1_ := am (hbox); have n2_ := am ((by rw [hg]; exact (below_size (bu HB.out)) : w.heap.size ≤ gb256)); have n3_ := am ((by rw [hg]; exact (below_size (bu HB.out)) : w.heap.size ≤ gb256)); clear HB; have HB := n0_; have BK256 := n1_; have GW256 := n2_; have GE256 := n3_; clear n0_ n1_ n2_ n3_; clear hb hbox hg; have hcz31_0 : w30.cell? ⟨gb256, 0, none⟩ = some (.int .i64 0) := (blk_cell BK256.out 0).trans rfl; have hcz31_1 : w30.cell? ⟨gb256, 1, none⟩ = some (.bool false) := (blk_cell BK256.out 1).trans rfl; have hfz31_0 := blk_frozen BK256.out 0; have hfz31_1 := blk_frozen BK256.out 1) | ((with_reducible refine gate_callee (f := 130) rfl ?_); refine goesL_ (some 37) rfl rfl Tryd.func130 (by kernel_rfl) rfl #[.agg #[.int .i64 (wrap64 (((rd_T30 l0 0).f0) + a1)), .bool (x6_2 == 1)]] rfl (by (try simp only [List.map_toArray, List.map_cons, List.map_nil]); first | done | rfl | (simp only [List.length_drop, List.length_take]; rfl)) ?_; (with_reducible refine (spec_ToneValid.calls (wrap64 (((rd_T30 l0 0).f0) + a1)) (x6_2 == 1) true _ A17.out).mono ?_); rintro e w32 ⟨rfl, hb⟩; refine ⟨_, rfl, ?_⟩; have n0_ := am (blk_below (g := gb256) (o := .cells #[.int .i64 (wrap64 (((rd_T30 l0 0).f0) + a1)), .bool (x6_2 == 1)] 30 (0, 0)) (by (with_reducible repeat (first | refine blk_drewN ?_ _ | refine blk_drew ?_ | refine blk_alloc ?_ _)); refine blk_put (cs := #[.int .i64 (wrap64 (((rd_T30 l0 0).f0) + a1)), .bool false]) ?_ 1 _ rfl; (with_reducible repeat (first | refine blk_drewN ?_ _ | refine blk_drew ?_ | refine blk_alloc ?_ _)); refine blk_put (cs := #[.int .i64 0, .bool false]) ?_ 0 _ rfl; (with_reducible repeat (first | refine blk_drewN ?_ _ | refine blk_drew ?_ | refine blk_alloc ?_ _)); exact BK256.out) hb); have n1_ := am (below_step (bu HB.out) hb); clear BK256; clear HB; have BK256 := n0_; have HB := n1_; clear n0_ n1_; (try clear hb); (try clear hb2); (try clear hk); (try clear hi)))
           have n0_ := am (blk_drew BK256.out)
           have n1_ := am (below_drew1 HB.out)
           clear BK256
           clear HB
           have BK256 := n0_
           have HB := n1_
           clear n0_ n1_
           have p259 : 0 ≤ (0 : Int) := (by omega)
           have q259 : 0 < (l0.length : Int) := od
           obtain ⟨ad259, e259, hx259_0, hx259_1⟩ := at_T30 HR0.out 0 p259 q259
           have hw259_1 := hx259_1
           (try rw [show ((0 : Int)).toNat = 0 from rfl] at hw259_1)
           (try rw [show 0 * 2 = 0 from rfl] at hw259_1)
           (try rw [Addr.add_zero'] at hw259_1)
           have hw259_0 := hx259_0
           (try rw [show ((0 : Int)).toNat = 0 from rfl] at hw259_0)
           (try rw [show 0 * 2 = 0 from rfl] at hw259_0)
           (try rw [Addr.add_zero'] at hw259_0)
           obtain rfl : ad255 = ad259 := (by injection e259)
           have qi259 : (0 < l0.length) = True := eq_true (by omega)
           (try rw [show ((0 : Int)).toNat = 0 from rfl] at hx259_0)
           (try rw [show 0 * 2 = 0 from rfl] at hx259_0)
           (try rw [Addr.add_zero'] at hx259_0)
           (try rw [show ((0 : Int)).toNat = 0 from rfl] at hx259_1)
           (try rw [show 0 * 2 = 0 from rfl] at hx259_1)
           (try rw [Addr.add_zero'] at hx259_1)
           replace hx259_0 := (HB.out.cell (World.block_lt_of_cell? w _ hx259_0)).trans hx259_0
           replace hx259_1 := (HB.out.cell (World.block_lt_of_cell? w _ hx259_1)).trans hx259_1
           replace p259 := eq_true p259
           replace q259 := eq_true q259
           refine start_ (n := 15) (S := fun w' => w'.cell? ⟨gb256, 0, none⟩ = some (.int .i64 (wrap64 (((rd_T30 l0 0).f0) + a1))) ∧ w'.cell? ⟨gb256, 1, none⟩ = some (.bool (x6_2 == 1)) ∧ w'.cell? ad255 = some (.int .i64 ((rd_T30 l0 0).f0)) ∧ w'.cell? ⟨ad255.block, ad255.off + 1, none⟩ = some (.bool ((rd_T30 l0 0).f1))) (ds := []) #[F,F,F,F,F,F,F,F,F,F,F,F,F,F,F] (by kernel_rfl) rfl rfl ⟨(blk_cell BK256.out 0).trans rfl, (blk_cell BK256.out 1).trans rfl, ((HB.out.cell (World.block_lt_of_cell? w _ hw259_0)).trans hw259_0), ((HB.out.cell (World.block_lt_of_cell? w _ hw259_1)).trans hw259_1)⟩ (fun hHeld => ?_); refine with_tabW spec_MelodyMove.tab10 spec_MelodyMove.bits10 (fun HT_ HW_ => ?_)
           generalize w32.drew = w33 at BK256 HB hx259_0 hx259_1 hHeld ⊢
           refine pz 0 (some 40) #[T,F,F,F,F,F,F,F,F,F,F,F,F,F,F] (any_of HT_.out (by kernel_rfl)) (h := ?_)
           refine pz 1 (some 41) #[T,T,F,F,F,F,F,F,F,F,F,F,F,F,F] (any_of HT_.out (by kernel_rfl)) (h := ?_)
           refine pz 4 (some 44) #[T,T,F,F,T,F,F,F,F,F,F,F,F,F,F] (any_of HT_.out (by kernel_rfl)) (h := ?_)
           refine pz 5 (some 45) #[T,T,F,F,T,T,F,F,F,F,F,F,F,F,F] (any_of HT_.out (by kernel_rfl)) (h := ?_)
           refine tz hHeld 2 (some 42) #[T,T,T,F,T,T,F,F,F,F,F,F,F,F,F] (take_ofW HT_.out HW_.out (by kernel_rfl)) (h := ?_)
           refine tz hHeld 6 (some 46) #[T,T,T,F,T,T,T,F,F,F,F,F,F,F,F] (take_ofW HT_.out HW_.out (by kernel_rfl)) (h := ?_)
           refine one_ (i := 3) (N := some 43) #[T,T,T,T,T,T,T,F,F,F,F,F,F,F,F] rfl rfl (one_of HT_.out (by kernel_rfl)) (by decide) (fun K hK => ?_)
           refine goes_ Tryd.func133 (by kernel_rfl) rfl #[.agg #[.int .i64 (wrap64 (((rd_T30 l0 0).f0) + a1)), .bool (x6_2 == 1)]] (by rfl) rfl rfl (by (try simp only [List.map_toArray, List.map_cons, List.map_nil]); first | done | rfl | (simp only [List.length_drop, List.length_take]; rfl)) ?_
           with_reducible refine (spec_l1Height.calls (wrap64 (((rd_T30 l0 0).f0) + a1)) (x6_2 == 1) t258 _ A19.out).mono ?_
           rintro e w34 ⟨rfl, hb⟩
           refine ⟨_, rfl, ?_⟩
           have n0_ := am (blk_below (g := gb256) (o := .cells #[.int .i64 (wrap64 (((rd_T30 l0 0).f0) + a1)), .bool (x6_2 == 1)] 30 (0, 0)) (gu BK256.out) hb)
           have n1_ := am (below_step (bu HB.out) hb)
           clear BK256
           clear HB
           have BK256 := n0_
           have HB := n1_
           clear n0_ n1_
           (try clear hb)
           (try clear hb2)
           (try clear hk)
           (try clear hi)
           refine hK.out _ _ ⟨(blk_cell BK256.out 0).trans rfl, (blk_cell BK256.out 1).trans rfl, ((HB.out.cell (World.block_lt_of_cell? w _ hw259_0)).trans hw259_0), ((HB.out.cell (World.block_lt_of_cell? w _ hw259_1)).trans hw259_1)⟩ (fun hHeld => ?_)
           clear hK K
           refine norm_ (a' := ?_) ?_ ?_
           rotate_left
           ·show Act.put _ (some 43) _ = _
            simp only [Act.put, sA, sZ, sS, i64_w, i32_w]
            rfl
           refine one_ (i := 7) (N := some 47) #[T,T,T,T,T,T,T,T,F,F,F,F,F,F,F] rfl rfl (one_of HT_.out (by kernel_rfl)) (by decide) (fun K hK => ?_)
           refine goes_ Tryd.func133 (by kernel_rfl) rfl #[.agg #[.int .i64 ((rd_T30 l0 0).f0), .bool ((rd_T30 l0 0).f1)]] (by rfl) rfl rfl (by (try simp only [List.map_toArray, List.map_cons, List.map_nil]); first | done | rfl | (simp only [List.length_drop, List.length_take]; rfl)) ?_
           with_reducible refine (spec_l1Height.calls ((rd_T30 l0 0).f0) ((rd_T30 l0 0).f1) t260 _ A20.out).mono ?_
           rintro e w35 ⟨rfl, hb⟩
           refine ⟨_, rfl, ?_⟩
           have n0_ := am (blk_below (g := gb256) (o := .cells #[.int .i64 (wrap64 (((rd_T30 l0 0).f0) + a1)), .bool (x6_2 == 1)] 30 (0, 0)) (gu BK256.out) hb)
           have n1_ := am (below_step (bu HB.out) hb)
           clear BK256
           clear HB
           have BK256 := n0_
           have HB := n1_
           clear n0_ n1_
           (try clear hb)
           (try clear hb2)
           (try clear hk)
           (try clear hi)
           refine hK.out _ _ ⟨(blk_cell BK256.out 0).trans rfl, (blk_cell BK256.out 1).trans rfl, ((HB.out.cell (World.block_lt_of_cell? w _ hw259_0)).trans hw259_0), ((HB.out.cell (World.block_lt_of_cell? w _ hw259_1)).trans hw259_1)⟩ (fun hHeld => ?_)
           clear hK K
           refine norm_ (a' := ?_) ?_ ?_
           rotate_left
           ·show Act.put _ (some 47) _ = _
            simp only [Act.put, sA, sZ, sS, i64_w, i32_w]
            rfl
           refine pz 8 (some 48) #[T,T,T,T,T,T,T,T,T,F,F,F,F,F,F] (any_of HT_.out (by kernel_rfl)) (h := ?_)
           refine one_ (i := 9) (N := some 49) #[T,T,T,T,T,T,T,T,T,T,F,F,F,F,F] rfl rfl (one_of HT_.out (by kernel_rfl)) (by decide) (fun K hK => ?_)
           refine goes_ Tryd.func132 (by kernel_rfl) rfl #[.slice (some ad255) l0.length c0, .int .i64 a1, .int .i64 (wrap64 (t258 - t260))] (by rfl) rfl rfl (by (try simp only [List.map_toArray, List.map_cons, List.map_nil]); first | done | rfl | (simp only [List.length_drop, List.length_take]; rfl)) ?_
           with_reducible refine (spec_l2Moved.calls k2 _ _ l0 a1 (wrap64 (t258 - t260)) t261 false _ ?side1 ?side2 A21.out).mono ?_
           (case side1 => repeat (first | exact (Kd.C_below HR0.out HB.out) | (with_reducible refine Kd.C_alloc ?_ _) | (with_reducible refine Kd.C_drewN ?_ _) | (with_reducible refine Kd.C_drew ?_)))
           (case side2 => exact HC0.out)
           rintro e w36 ⟨v263, rfl, ho0, hb⟩
           refine ⟨_, rfl, ?_⟩
           have n0_ := am (Kd.R_lower (Kd.R_newB ho0 (g := gb256) (o := .cells #[.int .i64 (wrap64 (((rd_T30 l0 0).f0) + a1)), .bool (x6_2 == 1)] 30 (0, 0)) (gu BK256.out)) (below_size (bu HB.out)))
           have n1_ := am (blk_below (g := gb256) (o := .cells #[.int .i64 (wrap64 (((rd_T30 l0 0).f0) + a1)), .bool (x6_2 == 1)] 30 (0, 0)) (gu BK256.out) hb)
           have n2_ := am (below_step (bu HB.out) hb)
           clear BK256
           clear HB
           have HO264 := n0_
           have BK256 := n1_
           have HB := n2_
           clear n0_ n1_ n2_
           (try clear hb)
           (try clear hb2)
           (try clear hk)
           (try clear hi)
           (try clear ho0)
           refine hK.out _ _ ⟨(blk_cell BK256.out 0).trans rfl, (blk_cell BK256.out 1).trans rfl, ((HB.out.cell (World.block_lt_of_cell? w _ hw259_0)).trans hw259_0), ((HB.out.cell (World.block_lt_of_cell? w _ hw259_1)).trans hw259_1)⟩ (fun hHeld => ?_)
           clear hK K
           refine norm_ (a' := ?_) ?_ ?_
           rotate_left
           ·show Act.put _ (some 49) _ = _
            simp only [Act.put, sA, sZ, sS, i64_w, i32_w]
            rfl
           refine pz 10 (some 39) #[T,T,T,T,T,T,T,T,T,T,T,F,F,F,F] (any_of HT_.out (by kernel_rfl)) (h := ?_)
           refine pz 11 (some 50) #[T,T,T,T,T,T,T,T,T,T,T,T,F,F,F] (any_of HT_.out (by kernel_rfl)) (h := ?_)
           refine pz 12 (some 51) #[T,T,T,T,T,T,T,T,T,T,T,T,T,F,F] (any_of HT_.out (by kernel_rfl)) (h := ?_)
           refine pz 13 (some 8) #[T,T,T,T,T,T,T,T,T,T,T,T,T,T,F] (any_of HT_.out (by kernel_rfl)) (h := ?_)
           refine pz 14 (some 9) #[T,T,T,T,T,T,T,T,T,T,T,T,T,T,T] (any_of HT_.out (by kernel_rfl)) (h := ?_)
           refine done_ (done_of HT_.out (by kernel_rfl)) ?_
           try go_wp2
           go_roundg k2
           case measure => have := HJ5.out; have := HK2.out; omega
           case rel => exact ⟨(wrap64 (x6_2 + 1)), (by first | rfl | (simp; done) | (simp [*]; done)), H', ⟨by have := HJ5.out; have := HK2.out; omega⟩, ⟨bu HB.out⟩⟩
         ·replace c18 := Bool.eq_false_iff.mpr c18
          subst c18
          have H1 : (spec_MelodyMove.l0 k2 l0 a1 (wrap64 (x6_2 + 1))) = some (r1, r2) := by rw [if_neg (show ¬ (false = true) by decide)] at H; exact H
          clear H
          have H := H1
          clear H1
          have H' := am H
          clear H
          have p255 : 0 ≤ (0 : Int) := (by omega)
          have q255 : 0 < (l0.length : Int) := od
          obtain ⟨ad255, e255, hx255_0, hx255_1⟩ := at_T30 HR0.out 0 p255 q255
          cases e255
          have qi255 : (0 < l0.length) = True := eq_true (by omega)
          (try rw [show ((0 : Int)).toNat = 0 from rfl] at hx255_0)
          (try rw [show 0 * 2 = 0 from rfl] at hx255_0)
          (try rw [Addr.add_zero'] at hx255_0)
          (try rw [show ((0 : Int)).toNat = 0 from rfl] at hx255_1)
          (try rw [show 0 * 2 = 0 from rfl] at hx255_1)
          (try rw [Addr.add_zero'] at hx255_1)
          replace hx255_0 := (HB.out.cell (World.block_lt_of_cell? w _ hx255_0)).trans hx255_0
          replace hx255_1 := (HB.out.cell (World.block_lt_of_cell? w _ hx255_1)).trans hx255_1
          replace p255 := eq_true p255
          replace q255 := eq_true q255
          go_wp2_with (first | ((with_reducible refine gate_dst (N := 7) rfl ?_); refine box_event ?hg (N := 7) ?hd (cs := #[.int .i64 0, .bool false]) (t := 30) ?hr ?_; (case hd => rfl); (case hg => rfl); (case hr => first | (go_simp; done) | (go_simp; rfl)); intro gb256 hg w37 hbox hb; have n0_ := am (below_step (bu HB.out) hb); have n1_ := am (hbox); have n2_ := am ((by rw [hg]; exact (below_size (bu HB.out)) : w.heap.size ≤ gb256)); have n3_ := am ((by rw [hg]; exact (below_size (bu HB.out)) : w.heap.size ≤ gb256)); clear HB; have HB := n0_; have BK256 := n1_; have GW256 := n2_; have GE256 := n3_; clear n0_ n1_ n2_ n3_; clear hb hbox hg; have hcz38_0 : w37.cell? ⟨gb256, 0, none⟩ = some (.int .i64 0) := (blk_cell BK256.out 0).trans rfl; have hcz38_1 : w37.cell? ⟨gb256, 1, none⟩ = some (.bool false) := (blk_cell BK256.out 1).trans rfl; have hfz38_0 := blk_frozen BK256.out 0; have hfz38_1 := blk_frozen BK256.out 1) | ((with_reducible refine gate_callee (f := 130) rfl ?_); refine goesL_ (some 37) rfl rfl Tryd.func130 (by kernel_rfl) rfl #[.agg #[.int .i64 (wrap64 (((rd_T30 l0 0).f0) + a1)), .bool (x6_2 == 1)]] rfl (by (try simp only [List.map_toArray, List.map_cons, List.map_nil]); first | done | rfl | (simp only [List.length_drop, List.length_take]; rfl)) ?_; (with_reducible refine (spec_ToneValid.calls (wrap64 (((rd_T30 l0 0).f0) + a1)) (x6_2 == 1) false _ A17.out).mono ?_); rintro e w39 ⟨rfl, hb⟩; refine ⟨_, rfl, ?_⟩; have n0_ := am (blk_below (g := gb256) (o := .cells #[.int .i64 (wrap64 (((rd_T30 l0 0).f0) + a1)), .bool (x6_2 == 1)] 30 (0, 0)) (by (with_reducible repeat (first | refine blk_drewN ?_ _ | refine blk_drew ?_ | refine blk_alloc ?_ _)); refine blk_put (cs := #[.int .i64 (wrap64 (((rd_T30 l0 0).f0) + a1)), .bool false]) ?_ 1 _ rfl; (with_reducible repeat (first | refine blk_drewN ?_ _ | refine blk_drew ?_ | refine blk_alloc ?_ _)); refine blk_put (cs := #[.int .i64 0, .bool false]) ?_ 0 _ rfl; (with_reducible repeat (first | refine blk_drewN ?_ _ | refine blk_drew ?_ | refine blk_alloc ?_ _)); exact BK256.out) hb); have n1_ := am (below_step (bu HB.out) hb); clear BK256; clear HB; have BK256 := n0_; have HB := n1_; clear n0_ n1_; (try clear hb); (try clear hb2); (try clear hk); (try clear hi)))
          go_roundg k2
          case measure => have := HJ5.out; have := HK2.out; omega
          case rel => exact ⟨(wrap64 (x6_2 + 1)), (by first | rfl | (simp; done) | (simp [*]; done)), H', ⟨by have := HJ5.out; have := HK2.out; omega⟩, ⟨bu HB.out⟩⟩
        ·rw [if_neg c16] at H
         exact absurd H (by simp)
       ·rw [if_neg c15] at H
        have c15b0 : decide (x6_2 < 2) = false := decide_eq_false c15
        clear c15
        obtain ⟨y252, hy252⟩ : ∃ y_ : List (S30), y_ = (([] : List (S30))) := ⟨_, rfl⟩
        replace H : (some (y252, false)) = some (r1, r2) := by first | (rw [hy252]; with_reducible exact H) | (have H2_ := (Option.bind_some _ _).symm.trans H; rw [hy252]; with_reducible exact H2_) | (have H2_ := (Option.bind_some _ _).symm.trans H; with_reducible exact H2_) | with_reducible exact H | (rw [hy252]; exact H) | exact H
        have Ny252 := am hy252
        clear hy252
        simp only [Option.some.injEq, Prod.mk.injEq] at H
        obtain ⟨rfl, rfl⟩ := H
        go_wp2_with (first | ((with_reducible refine gate_dst (N := 54) rfl ?_); refine Kd.R_lit k30 _ 30 ?hg (N := 54) ?hd (xs := ([] : List (S30))) (inner := []) (ok := fun _ => True) (okp := fun _ => True) ?hr ?hp (fun _ hk => hk) trivial (Below.refl _ _) (Nat.le_refl _) (by simp) ?_; (case hd => rfl); (case hg => rfl); (case hr => first | (go_simp; done) | (go_simp; rfl)); (case hp => exact (Reps.none _ _)); intro v253 w40 ho41 hb hg_ hnew_; clear hg_ hnew_; (first | rw [← Ny252.out] at ho41 | (simp only [Int.reduceToNat] at ho41; rw [← Ny252.out] at ho41)); have n0_ := am (Kd.R_lower ho41 (below_size (bu HB.out))); have n1_ := am (below_step (bu HB.out) hb); clear HB; have HO254 := n0_; have HB := n1_; clear n0_ n1_; clear hb ho41))
        go_ret2
        exact ⟨_, by first | rfl | (simp [errW_none, errW_some] <;> rfl) | (simp [*, errW_none, errW_some] <;> rfl), ru HO254.out, bu HB.out⟩

/-! ### spec_PartMake: function 87 -/
mutual
def spec_PartMake.j0 : Nat → List (S30) → List Int → List (S44) → Bool → Option ((List (S44)) × Bool)
 | 0, _, _, _, _ => none
 | k + 1, x0, x1, x6, x18 => if x18 = true then (some (x6, false)) else (spec_PartMake.l0 k x0 x1 x6 0)
def spec_PartMake.l0 : Nat → List (S30) → List Int → List (S44) → Int → Option ((List (S44)) × Bool)
 | 0, _, _, _, _ => none
 | k + 1, x0, x1, x6, x7 => if x7 < (x0.length : Int) then (if 0 ≤ x7 then (if x7 < (x1.length : Int) then (if x6.length < 5864062014805 then (spec_PartMake.l0 k x0 x1 (x6 ++ [(⟨(⟨(rd_T30 x0 x7).f0, (rd_T30 x0 x7).f1⟩ : S30), rd x1 x7⟩ : S44)]) (wrap64 (x7 + 1))) else (none)) else (none)) else (none)) else ((spec_PartValid.f k x6).bind fun t274 => (if t274 = true then (some (x6, true)) else (some ((([] : List (S44))), false))))
end
def spec_PartMake.f (k : Nat) (l0 : List (S30)) (l1 : List Int) : Option ((List (S44)) × Bool) := (some (([] : List (S44)) : List (S44))).bind fun y265 => ((spec_MelodyValid.f k l0).bind fun t268 => (if t268 = true then (spec_PartMake.j0 k l0 l1 y265 ((l1.length : Int) != (l0.length : Int))) else (spec_PartMake.j0 k l0 l1 y265 true)))
def spec_PartMake.T7 : Bool × List (List Nat × List Nat) := (true, [([], []), ([], []), ([], []), ([1, 2], [1, 2]), ([3], [3]), ([], []), ([], []), ([5, 6], [5, 6]), ([7], [7]), ([4, 8], [4, 8]), ([9], [9]), ([0, 10], [0, 10]), ([11, 11, 0, 1, 2, 3, 4, 5, 6, 7, 8, 9, 10, 11], [0, 11])])
def spec_PartMake.B7 : List Nat := [0, 0, 0, 6, 14, 0, 0, 96, 224, 510, 1022, 2047, 4095]
theorem spec_PartMake.tab7 : rtab .any (opsOf Tryd.f87 7) = spec_PartMake.T7 := by kernel_rfl
theorem spec_PartMake.bits7 : waitsOk spec_PartMake.T7.2 spec_PartMake.B7 = true := by kernel_rfl
set_option maxHeartbeats 8000000 in
set_option maxRecDepth 100000 in
theorem spec_PartMake.calls (k : Nat) (A0 : Option Addr) (c0 : Nat) (l0 : List (S30)) (A1 : Option Addr) (c1 : Nat) (l1 : List Int) (r1 : List (S44)) (r2 : Bool) (w : World) (hr0 : Kd.C k30 w A0 l0.length l0) (hc0 : l0.length ≤ c0) (hr1 : Kd.C (Kd.int .i64) w A1 l1.length l1) (hc1 : l1.length ≤ c1) (h : spec_PartMake.f k l0 l1 = some (r1, r2)) :
  Calls Tryd.prog 87 #[.slice A0 l0.length c0, .slice A1 l1.length c1] w fun e w' => ∃ v0_ : Value, e = .returned (.tuple #[v0_, .bool r2]) ∧ Kd.R k44 44 w' w.heap.size (fun _ => True) v0_ r1 ∧ Below w.heap.size w w' := by
 have hu30 := Tryd.underlying30
 have hu44 := Tryd.underlying44
 have HR0 := am hr0
 have HC0 := am hc0
 clear hr0 hc0
 have HR1 := am hr1
 have HC1 := am hc1
 clear hr1 hc1
 have HB := am (Below.refl w.heap.size w)
 have H : ((some (([] : List (S44)) : List (S44))).bind fun y265 => ((spec_MelodyValid.f k l0).bind fun t268 => (if t268 = true then (spec_PartMake.j0 k l0 l1 y265 ((l1.length : Int) != (l0.length : Int))) else (spec_PartMake.j0 k l0 l1 y265 true)))) = some (r1, r2) := h
 clear h
 obtain ⟨y265, hy265⟩ : ∃ y_ : List (S44), y_ = (([] : List (S44))) := ⟨_, rfl⟩
 replace H : ((spec_MelodyValid.f k l0).bind fun t268 => (if t268 = true then (spec_PartMake.j0 k l0 l1 y265 ((l1.length : Int) != (l0.length : Int))) else (spec_PartMake.j0 k l0 l1 y265 true))) = some (r1, r2) := by first | (rw [hy265]; with_reducible exact H) | (have H2_ := (Option.bind_some _ _).symm.trans H; rw [hy265]; with_reducible exact H2_) | (have H2_ := (Option.bind_some _ _).symm.trans H; with_reducible exact H2_) | with_reducible exact H | (rw [hy265]; exact H) | exact H
 have Ny265 := am hy265
 clear hy265
 have HC3 := am H
 clear H
 go_enter Tryd.func87, Tryd.ntmps87
 go_upto_region 2 with (first | ((with_reducible refine gate_dst (N := 8) rfl ?_); (try (refine gate_guard (by rfl) ?_; dsimp only)); refine Kd.R_lit k44 _ 44 ?hg (N := 8) ?hd (xs := ([] : List (S44))) (inner := []) (ok := fun _ => True) (okp := fun _ => True) ?hr ?hp (fun _ hk => hk) trivial (Below.refl _ _) (Nat.le_refl _) (by simp) ?_; (case hd => rfl); (case hg => rfl); (case hr => first | (go_simp; done) | (go_simp; rfl)); (case hp => exact (Reps.none _ _)); intro v266 w4 ho5 hb hg_ hnew_; clear hg_ hnew_; (first | rw [← Ny265.out] at ho5 | (simp only [Int.reduceToNat] at ho5; rw [← Ny265.out] at ho5)); have n0_ := am (Kd.R_lower ho5 (below_size (bu HB.out))); have n1_ := am (below_step (bu HB.out) hb); clear HB; have HO267 := n0_; have HB := n1_; clear n0_ n1_; clear hb ho5))
 (try simp only [Act.put, sA, sZ, sS])
 go_cut [18] (fun v18 wc => ∃ (kq : Nat) (x18_2 : Bool), v18 = .bool x18_2 ∧ Aside0 (spec_PartMake.j0 kq l0 l1 y265 x18_2 = some (r1, r2)) ∧ Aside0 (kq ≤ k) ∧ Aside0 (Kd.R k44 44 wc w.heap.size (fun _ => True) v266 y265) ∧ Aside0 (Below w.heap.size w wc))
 case first =>
  have H := HC3.out
  clear HC3
  replace H := Option.bind_eq_some_iff.mp H
  obtain ⟨t268, A60, H⟩ := H
  replace H : (if t268 = true then (spec_PartMake.j0 k l0 l1 y265 ((l1.length : Int) != (l0.length : Int))) else (spec_PartMake.j0 k l0 l1 y265 true)) = some (r1, r2) := H
  have A6 := am A60
  clear A60
  by_cases c7 : t268 = true
  ·subst c7
   have H1 : (spec_PartMake.j0 k l0 l1 y265 ((l1.length : Int) != (l0.length : Int))) = some (r1, r2) := by rw [if_pos rfl] at H; exact H
   clear H
   have H := H1
   clear H1
   have H' := am H
   clear H
   go_wp2_with (first | ((with_reducible refine gate_callee (f := 93) rfl ?_); refine goesL_ (some 10) rfl rfl Tryd.func93 (by kernel_rfl) rfl #[.slice A0 l0.length c0] rfl (by (try simp only [List.map_toArray, List.map_cons, List.map_nil]); first | done | rfl | (simp only [List.length_drop, List.length_take]; rfl)) ?_; (with_reducible refine (spec_MelodyValid.calls k _ _ l0 true _ ?side1 ?side2 A6.out).mono ?_); (case side1 => repeat (first | exact (Kd.C_below HR0.out HB.out) | (with_reducible refine Kd.C_alloc ?_ _) | (with_reducible refine Kd.C_drewN ?_ _) | (with_reducible refine Kd.C_drew ?_))); (case side2 => exact HC0.out); rintro e w8 ⟨rfl, hb⟩; refine ⟨_, rfl, ?_⟩; have n0_ := am (Kd.R_below (ru HO267.out) hb); have n1_ := am (below_step (bu HB.out) hb); clear HO267; clear HB; have HO267 := n0_; have HB := n1_; clear n0_ n1_; (try clear hb); (try clear hb2); (try clear hk); (try clear hi)))
   go_meet
   case rel => exact ⟨_, (((l1.length : Int) != (l0.length : Int))), (by first | rfl | (simp; done) | (simp [*]; done)), H', ⟨by first | omega | exact Nat.le_refl _⟩, ⟨ru HO267.out⟩, ⟨bu HB.out⟩⟩
  ·replace c7 := Bool.eq_false_iff.mpr c7
   subst c7
   have H1 : (spec_PartMake.j0 k l0 l1 y265 true) = some (r1, r2) := by rw [if_neg (show ¬ (false = true) by decide)] at H; exact H
   clear H
   have H := H1
   clear H1
   have H' := am H
   clear H
   go_wp2_with (first | ((with_reducible refine gate_callee (f := 93) rfl ?_); refine goesL_ (some 10) rfl rfl Tryd.func93 (by kernel_rfl) rfl #[.slice A0 l0.length c0] rfl (by (try simp only [List.map_toArray, List.map_cons, List.map_nil]); first | done | rfl | (simp only [List.length_drop, List.length_take]; rfl)) ?_; (with_reducible refine (spec_MelodyValid.calls k _ _ l0 false _ ?side1 ?side2 A6.out).mono ?_); (case side1 => repeat (first | exact (Kd.C_below HR0.out HB.out) | (with_reducible refine Kd.C_alloc ?_ _) | (with_reducible refine Kd.C_drewN ?_ _) | (with_reducible refine Kd.C_drew ?_))); (case side2 => exact HC0.out); rintro e w9 ⟨rfl, hb⟩; refine ⟨_, rfl, ?_⟩; have n0_ := am (Kd.R_below (ru HO267.out) hb); have n1_ := am (below_step (bu HB.out) hb); clear HO267; clear HB; have HO267 := n0_; have HB := n1_; clear n0_ n1_; (try clear hb); (try clear hb2); (try clear hk); (try clear hi)))
   go_meet
   case rel => exact ⟨_, (true), (by first | rfl | (simp; done) | (simp [*]; done)), H', ⟨by first | omega | exact Nat.le_refl _⟩, ⟨ru HO267.out⟩, ⟨bu HB.out⟩⟩
 case rest =>
  clear HC3
  try clear c1
  try clear p2
  try clear c7
  try clear c8
  try clear c9
  obtain ⟨kq, x18_2, rfl, HA, HJ2, HO_6, HB⟩ := hcut
  cases kq with
  | zero => exact absurd HA.out (by simp [spec_PartMake.j0])
  | succ kj2 =>
   have H := HA.out
   clear HA
   simp only [spec_PartMake.j0] at H
   by_cases c10 : x18_2 = true
   ·subst c10
    have H1 : (some (y265, false)) = some (r1, r2) := by rw [if_pos rfl] at H; exact H
    clear H
    have H := H1
    clear H1
    simp only [Option.some.injEq, Prod.mk.injEq] at H
    obtain ⟨rfl, rfl⟩ := H
    go_wp2
    go_ret2
    exact ⟨_, by first | rfl | (simp [errW_none, errW_some] <;> rfl) | (simp [*, errW_none, errW_some] <;> rfl), ru HO_6.out, bu HB.out⟩
   ·replace c10 := Bool.eq_false_iff.mpr c10
    subst c10
    have H1 : (spec_PartMake.l0 kj2 l0 l1 y265 0) = some (r1, r2) := by rw [if_neg (show ¬ (false = true) by decide)] at H; exact H
    clear H
    have H := H1
    clear H1
    have H' := am H
    clear H
    go_wp2
    go_loopg [6, 7] kj2 (fun kq v6 v7 w' => ∃ (x6_2 : List (S44)) (x7_2 : Int), v7 = .int .i64 x7_2 ∧ Aside0 (spec_PartMake.l0 kq l0 l1 x6_2 x7_2 = some (r1, r2)) ∧ Aside0 (kq ≤ kj2) ∧ Aside0 (Kd.R k44 44 w' w.heap.size (fun _ => True) v6 x6_2) ∧ Aside0 (Below w.heap.size w w'))
    case atStart => exact ⟨(y265), (0), (by first | rfl | (simp; done) | (simp [*]; done)), H', ⟨Nat.le_refl _⟩, ⟨ru HO_6.out⟩, ⟨bu HB.out⟩⟩
    case round =>
     clear H'
     try clear c1
     try clear p2
     try clear c7
     try clear c8
     try clear c9
     try clear c10
     try clear p2
     obtain ⟨x6_2, x7_2, rfl, HA, HK2, HO_6, HB⟩ := hrel
     cases gk with
     | zero => exact absurd HA.out (by simp [spec_PartMake.l0])
     | succ k2 =>
      have H := HA.out
      clear HA
      simp only [spec_PartMake.l0] at H
      by_cases c11 : x7_2 < (l0.length : Int)
      ·rw [if_pos c11] at H
       have c11b0 : decide (x7_2 < (l0.length : Int)) = true := decide_eq_true c11
       clear c11
       by_cases c12 : 0 ≤ x7_2
       ·rw [if_pos c12] at H
        have c12b0 : decide (0 ≤ x7_2) = true := decide_eq_true c12
        clear c12
        by_cases c13 : x7_2 < (l1.length : Int)
        ·rw [if_pos c13] at H
         have c13b0 : decide (x7_2 < (l1.length : Int)) = true := decide_eq_true c13
         clear c13
         by_cases c14 : x6_2.length < 5864062014805
         ·rw [if_pos c14] at H
          have LMc14 := am c14
          clear c14
          obtain ⟨y271, hy271⟩ : ∃ y_ : List (S44), y_ = (x6_2 ++ [(⟨(⟨(rd_T30 l0 x7_2).f0, (rd_T30 l0 x7_2).f1⟩ : S30), rd l1 x7_2⟩ : S44)]) := ⟨_, rfl⟩
          replace H : (spec_PartMake.l0 k2 l0 l1 y271 (wrap64 (x7_2 + 1))) = some (r1, r2) := by first | (rw [hy271]; with_reducible exact H) | (have H2_ := (Option.bind_some _ _).symm.trans H; rw [hy271]; with_reducible exact H2_) | (have H2_ := (Option.bind_some _ _).symm.trans H; with_reducible exact H2_) | with_reducible exact H | (rw [hy271]; exact H) | exact H
          have Ny271 := am hy271
          clear hy271
          have H' := am H
          clear H
          try go_wp2
          have n0_ := am (Kd.R_drew HO_6.out)
          have n1_ := am (below_drew1 HB.out)
          clear HO_6
          clear HB
          have HO_6 := n0_
          have HB := n1_
          clear n0_ n1_
          have p269 : 0 ≤ (x7_2 : Int) := od
          have q269 : x7_2 < (l0.length : Int) := od
          obtain ⟨ad269, e269, hx269_0, hx269_1⟩ := at_T30 HR0.out x7_2 p269 q269
          have hw269_1 := hx269_1
          have hw269_0 := hx269_0
          cases e269
          replace hx269_0 := (HB.out.cell (World.block_lt_of_cell? w _ hx269_0)).trans hx269_0
          replace hx269_1 := (HB.out.cell (World.block_lt_of_cell? w _ hx269_1)).trans hx269_1
          replace p269 := eq_true p269
          replace q269 := eq_true q269
          have p270 : 0 ≤ (x7_2 : Int) := od
          have q270 : x7_2 < (l1.length : Int) := od
          obtain ⟨ad270, e270, hx270_0⟩ := Kd.at_int HR1.out x7_2 p270 q270
          have hw270_0 := hx270_0
          cases e270
          replace hx270_0 := (HB.out.cell (World.block_lt_of_cell? w _ hx270_0)).trans hx270_0
          replace p270 := eq_true p270
          replace q270 := eq_true q270
          refine start_ (n := 13) (S := fun w' => w'.cell? (ad269.add ((x7_2).toNat * 2)) = some (.int .i64 ((rd_T30 l0 x7_2).f0)) ∧ w'.cell? ⟨(ad269.add ((x7_2).toNat * 2)).block, (ad269.add ((x7_2).toNat * 2)).off + 1, none⟩ = some (.bool ((rd_T30 l0 x7_2).f1)) ∧ w'.cell? (ad270.add (x7_2).toNat) = some (.int .i64 (rd l1 x7_2))) (ds := []) #[F,F,F,F,F,F,F,F,F,F,F,F,F] (by kernel_rfl) rfl rfl ⟨((HB.out.cell (World.block_lt_of_cell? w _ hw269_0)).trans hw269_0), ((HB.out.cell (World.block_lt_of_cell? w _ hw269_1)).trans hw269_1), ((HB.out.cell (World.block_lt_of_cell? w _ hw270_0)).trans hw270_0)⟩ (fun hHeld => ?_); refine with_tabW spec_PartMake.tab7 spec_PartMake.bits7 (fun HT_ HW_ => ?_)
          generalize wr.drew = w15 at HO_6 HB hx269_0 hx269_1 hx270_0 hHeld ⊢
          refine pz 0 (some 26) #[T,F,F,F,F,F,F,F,F,F,F,F,F] (any_of HT_.out (by kernel_rfl)) (h := ?_)
          refine pz 1 (some 27) #[T,T,F,F,F,F,F,F,F,F,F,F,F] (any_of HT_.out (by kernel_rfl)) (h := ?_)
          refine pz 2 (some 28) #[T,T,T,F,F,F,F,F,F,F,F,F,F] (any_of HT_.out (by kernel_rfl)) (h := ?_)
          refine pz 3 (some 29) #[T,T,T,T,F,F,F,F,F,F,F,F,F] (any_of HT_.out (by kernel_rfl)) (h := ?_)
          refine pz 5 (some 31) #[T,T,T,T,F,T,F,F,F,F,F,F,F] (any_of HT_.out (by kernel_rfl)) (h := ?_)
          refine pz 6 (some 32) #[T,T,T,T,F,T,T,F,F,F,F,F,F] (any_of HT_.out (by kernel_rfl)) (h := ?_)
          refine pz 7 (some 33) #[T,T,T,T,F,T,T,T,F,F,F,F,F] (any_of HT_.out (by kernel_rfl)) (h := ?_)
          refine tz hHeld 4 (some 30) #[T,T,T,T,T,T,T,T,F,F,F,F,F] (take_ofW HT_.out HW_.out (by kernel_rfl)) (h := ?_)
          refine tz hHeld 8 (some 34) #[T,T,T,T,T,T,T,T,T,F,F,F,F] (take_ofW HT_.out HW_.out (by kernel_rfl)) (h := ?_)
          refine pz 9 (some 35) #[T,T,T,T,T,T,T,T,T,T,F,F,F] (any_of HT_.out (by kernel_rfl)) (h := ?_)
          refine one_ (i := 10) (N := some 36) #[T,T,T,T,T,T,T,T,T,T,T,F,F] rfl rfl (one_of HT_.out (by kernel_rfl)) (by decide) (fun K hK => ?_)
          refine value_ (w1 := ?_) (v := ?_) (by rfl) rfl ?_ ?_
          rotate_left 2
          ·go_simp
           constructor
           ·rfl
           ·rfl
          refine hK.out _ _ ⟨(World.cell?_alloc_lt _ _ _ (World.block_lt_of_cell? _ _ (((HB.out.cell (World.block_lt_of_cell? w _ hw269_0)).trans hw269_0)))).trans (((HB.out.cell (World.block_lt_of_cell? w _ hw269_0)).trans hw269_0)), (World.cell?_alloc_lt _ _ _ (World.block_lt_of_cell? _ _ (((HB.out.cell (World.block_lt_of_cell? w _ hw269_1)).trans hw269_1)))).trans (((HB.out.cell (World.block_lt_of_cell? w _ hw269_1)).trans hw269_1)), (World.cell?_alloc_lt _ _ _ (World.block_lt_of_cell? _ _ (((HB.out.cell (World.block_lt_of_cell? w _ hw270_0)).trans hw270_0)))).trans (((HB.out.cell (World.block_lt_of_cell? w _ hw270_0)).trans hw270_0))⟩ (fun hHeld => ?_)
          clear hK K
          refine norm_ (a' := ?_) ?_ ?_
          rotate_left
          ·show Act.put _ (some 36) _ = _
           simp only [Act.put, sA, sZ, sS, i64_w, i32_w]
           rfl
          refine one_ (i := 11) (N := some 37) #[T,T,T,T,T,T,T,T,T,T,T,T,F] rfl rfl (one_of HT_.out (by kernel_rfl)) (by decide) (fun K hK => ?_)
          refine Kd.R_append_step k44 (w0 := w) w.heap.size (by rfl) (.tmp 26) (.tmp 36) 23 44 (.agg #[(.int .i64 0), (.bool false), (.int .i64 0)]) 24 rfl Tryd.underlying23 info44 rfl (by decide) (by omega) u6 x6_2 (⟨(⟨(rd_T30 l0 x7_2).f0, (rd_T30 l0 x7_2).f1⟩ : S30), rd l1 x7_2⟩ : S44) [.int .i64 ((rd_T30 l0 x7_2).f0), .bool ((rd_T30 l0 x7_2).f1), .int .i64 (rd l1 x7_2)] (fun _ => True) (fun _ => False) rfl rfl ?aP (fun _ hk => hk.elim) ?aF ?aO ?aB ?aS ?aL ?_
          (case aP => exact k44_mkM _ _ _ (⟨(⟨(rd_T30 l0 x7_2).f0, (rd_T30 l0 x7_2).f1⟩ : S30), rd l1 x7_2⟩ : S44))
          (case aB => exact (bu HB.out))
          (case aF => exact (fun _ _ => trivial))
          (case aO => exact (ru HO_6.out))
          (case aS => exact (below_size (bu HB.out)))
          (case aL => have := LMc14.out; omega)
          intro v272 w16 ho hb hg hat
          rw [← Ny271.out] at ho
          have n0_ := am (hb)
          have n1_ := am (ho)
          clear HB
          clear HO_6
          have HB := n0_
          have HO273 := n1_
          clear n0_ n1_
          clear ho hb hg hat
          refine hK.out _ _ ⟨((HB.out.cell (World.block_lt_of_cell? w _ hw269_0)).trans hw269_0), ((HB.out.cell (World.block_lt_of_cell? w _ hw269_1)).trans hw269_1), ((HB.out.cell (World.block_lt_of_cell? w _ hw270_0)).trans hw270_0)⟩ (fun hHeld => ?_)
          clear hK K
          refine norm_ (a' := ?_) ?_ ?_
          rotate_left
          ·show Act.put _ (some 37) _ = _
           simp only [Act.put, sA, sZ, sS, i64_w, i32_w]
           rfl
          refine pz 12 (some 6) #[T,T,T,T,T,T,T,T,T,T,T,T,T] (any_of HT_.out (by kernel_rfl)) (h := ?_)
          refine done_ (done_of HT_.out (by kernel_rfl)) ?_
          try go_wp2
          go_roundg k2
          case measure => have := HJ2.out; have := HK2.out; omega
          case rel => exact ⟨(y271), (wrap64 (x7_2 + 1)), (by first | rfl | (simp; done) | (simp [*]; done)), H', ⟨by have := HJ2.out; have := HK2.out; omega⟩, ⟨ru HO273.out⟩, ⟨bu HB.out⟩⟩
         ·rw [if_neg c14] at H
          exact absurd H (by simp)
        ·rw [if_neg c13] at H
         exact absurd H (by simp)
       ·rw [if_neg c12] at H
        exact absurd H (by simp)
      ·rw [if_neg c11] at H
       have c11b0 : decide (x7_2 < (l0.length : Int)) = false := decide_eq_false c11
       clear c11
       replace H := Option.bind_eq_some_iff.mp H
       obtain ⟨t274, A170, H⟩ := H
       replace H : (if t274 = true then (some (x6_2, true)) else (some ((([] : List (S44))), false))) = some (r1, r2) := H
       have A17 := am A170
       clear A170
       by_cases c18 : t274 = true
       ·subst c18
        have H1 : (some (x6_2, true)) = some (r1, r2) := by rw [if_pos rfl] at H; exact H
        clear H
        have H := H1
        clear H1
        simp only [Option.some.injEq, Prod.mk.injEq] at H
        obtain ⟨rfl, rfl⟩ := H
        obtain ⟨Ao19, co19, eo19⟩ := Kd.R_slice HO_6.out
        subst eo19
        go_wp2_with (first | ((with_reducible refine gate_callee (f := 85) rfl ?_); refine goesL_ (some 39) rfl rfl Tryd.func85 (by kernel_rfl) rfl #[.slice Ao19 x6_2.length co19] rfl (by (try simp only [List.map_toArray, List.map_cons, List.map_nil]); first | done | rfl | (simp only [List.length_drop, List.length_take]; rfl)) ?_; (with_reducible refine (spec_PartValid.calls k2 _ _ x6_2 true _ ?side1 ?side2 A17.out).mono ?_); (case side1 => exact cu (Kd.R_reads' HO_6.out).2.2); (case side2 => exact (Kd.R_reads' HO_6.out).2.1); rintro e w20 ⟨rfl, hb⟩; refine ⟨_, rfl, ?_⟩; have n0_ := am (Kd.R_below (ru HO_6.out) hb); have n1_ := am (below_step (bu HB.out) hb); clear HO_6; clear HB; have HO_6 := n0_; have HB := n1_; clear n0_ n1_; (try clear hb); (try clear hb2); (try clear hk); (try clear hi)))
        go_ret2
        exact ⟨_, by first | rfl | (simp [errW_none, errW_some] <;> rfl) | (simp [*, errW_none, errW_some] <;> rfl), ru HO_6.out, bu HB.out⟩
       ·replace c18 := Bool.eq_false_iff.mpr c18
        subst c18
        have H1 : (some ((([] : List (S44))), false)) = some (r1, r2) := by rw [if_neg (show ¬ (false = true) by decide)] at H; exact H
        clear H
        have H := H1
        clear H1
        obtain ⟨y275, hy275⟩ : ∃ y_ : List (S44), y_ = (([] : List (S44))) := ⟨_, rfl⟩
        replace H : (some (y275, false)) = some (r1, r2) := by first | (rw [hy275]; with_reducible exact H) | (have H2_ := (Option.bind_some _ _).symm.trans H; rw [hy275]; with_reducible exact H2_) | (have H2_ := (Option.bind_some _ _).symm.trans H; with_reducible exact H2_) | with_reducible exact H | (rw [hy275]; exact H) | exact H
        have Ny275 := am hy275
        clear hy275
        simp only [Option.some.injEq, Prod.mk.injEq] at H
        obtain ⟨rfl, rfl⟩ := H
        obtain ⟨Ao21, co21, eo21⟩ := Kd.R_slice HO_6.out
        subst eo21
        go_wp2_with (first | ((with_reducible refine gate_callee (f := 85) rfl ?_); refine goesL_ (some 39) rfl rfl Tryd.func85 (by kernel_rfl) rfl #[.slice Ao21 x6_2.length co21] rfl (by (try simp only [List.map_toArray, List.map_cons, List.map_nil]); first | done | rfl | (simp only [List.length_drop, List.length_take]; rfl)) ?_; (with_reducible refine (spec_PartValid.calls k2 _ _ x6_2 false _ ?side1 ?side2 A17.out).mono ?_); (case side1 => exact cu (Kd.R_reads' HO_6.out).2.2); (case side2 => exact (Kd.R_reads' HO_6.out).2.1); rintro e w22 ⟨rfl, hb⟩; refine ⟨_, rfl, ?_⟩; have n0_ := am (Kd.R_below (ru HO_6.out) hb); have n1_ := am (below_step (bu HB.out) hb); clear HO_6; clear HB; have HO_6 := n0_; have HB := n1_; clear n0_ n1_; (try clear hb); (try clear hb2); (try clear hk); (try clear hi)) | ((with_reducible refine gate_dst (N := 41) rfl ?_); (try (refine gate_guard (by rfl) ?_; dsimp only)); refine Kd.R_lit k44 _ 44 ?hg (N := 41) ?hd (xs := ([] : List (S44))) (inner := []) (ok := fun _ => True) (okp := fun _ => True) ?hr ?hp (fun _ hk => hk) trivial (Below.refl _ _) (Nat.le_refl _) (by simp) ?_; (case hd => rfl); (case hg => rfl); (case hr => first | (go_simp; done) | (go_simp; rfl)); (case hp => exact (Reps.none _ _)); intro v276 w23 ho24 hb hg_ hnew_; clear hg_ hnew_; (first | rw [← Ny275.out] at ho24 | (simp only [Int.reduceToNat] at ho24; rw [← Ny275.out] at ho24)); have n0_ := am (Kd.R_elder' (ru HO_6.out) (Kd.R_base ho24) hb); have n1_ := am (Kd.R_lower (Kd.R_new' ho24 (Kd.R_lt (ru HO_6.out))) (below_size (bu HB.out))); have n2_ := am (below_step (bu HB.out) hb); clear HO_6; clear HB; have HO_6 := n0_; have HO277 := n1_; have HB := n2_; clear n0_ n1_ n2_; clear hb ho24))
        go_ret2
        exact ⟨_, by first | rfl | (simp [errW_none, errW_some] <;> rfl) | (simp [*, errW_none, errW_some] <;> rfl), by (with_reducible repeat (first | apply Kd.R_alloc | apply Kd.R_drewN | apply Kd.R_drew)); exact Kd.R_mono HO277.out (fun _ hk => trivial), bu HB.out⟩

end Go.Proofs.YtcndojoghmblaaaDoor.GD
