-- Made by this session's gprint.py out of the translation. Not trusted: Lean checks it.
import Derived.Test.YtcndojoghmblaaaDoorGDx0
import Derived.Test.YtcndojoghmblaaaDoorGDx9
import Derived.Test.YtcndojoghmblaaaDoorGDx10
namespace Go.Proofs.YtcndojoghmblaaaDoor.GD
open Go.RowKit Go.Proofs.YtcndojoghmblaaaDoorW.PrintWords Go.Proofs.YtcndojoghmblaaaDoorW.PrintLast Go.Proofs.YtcndojoghmblaaaDoorW.PrintMore
attribute [local go_sem] max2_int min2_int max_two min_two max_three min_three max_four min_four   -- for this text's walks alone
set_option linter.unusedVariables false
set_option linter.unusedSimpArgs false

/-! ### spec_l2Moved: function 132 -/
mutual
def spec_l2Moved.l0 : Nat → List (S30) → Int → Int → List (S30) → Int → Option ((List (S30)) × Bool)
 | 0, _, _, _, _, _ => none
 | k + 1, x0, x1, x2, x8, x9 => if x9 < (x0.length : Int) then (spec_l2Moved.l1 k x0 x1 x2 x8 x9 false 0) else (some (x8, true))
def spec_l2Moved.l1 : Nat → List (S30) → Int → Int → List (S30) → Int → Bool → Int → Option ((List (S30)) × Bool)
 | 0, _, _, _, _, _, _, _ => none
 | k + 1, x0, x1, x2, x8, x9, x10, x11 => if x11 < 2 then (spec_l2Moved.j2 k x0 x1 x2 x8 x9 x10 x11 (!x10)) else (spec_l2Moved.j2 k x0 x1 x2 x8 x9 x10 x11 false)
def spec_l2Moved.j2 : Nat → List (S30) → Int → Int → List (S30) → Int → Bool → Int → Bool → Option ((List (S30)) × Bool)
 | 0, _, _, _, _, _, _, _, _ => none
 | k + 1, x0, x1, x2, x8, x9, x10, x11, x25 => if x25 = true then (if 0 ≤ x9 then (if x9 < (x0.length : Int) then ((spec_ToneValid.f (wrap64 (((rd_T30 x0 x9).f0) + x1)) (x11 == 1)).bind fun t237 => (if t237 = true then ((spec_l1Height.f (wrap64 (((rd_T30 x0 x9).f0) + x1)) (x11 == 1)).bind fun t238 => ((spec_l1Height.f ((rd_T30 x0 x9).f0) ((rd_T30 x0 x9).f1)).bind fun t240 => (if (wrap64 (t238 - t240)) = x2 then (if x8.length < 8796093022208 then (spec_l2Moved.l1 k x0 x1 x2 (x8 ++ [(⟨wrap64 (((rd_T30 x0 x9).f0) + x1), (x11 == 1)⟩ : S30)]) x9 true (wrap64 (x11 + 1))) else (none)) else (spec_l2Moved.l1 k x0 x1 x2 x8 x9 x10 (wrap64 (x11 + 1)))))) else (spec_l2Moved.l1 k x0 x1 x2 x8 x9 x10 (wrap64 (x11 + 1))))) else (none)) else (none)) else (if x10 = true then (spec_l2Moved.l0 k x0 x1 x2 x8 (wrap64 (x9 + 1))) else (some ((([] : List (S30))), false)))
end
def spec_l2Moved.f (k : Nat) (l0 : List (S30)) (a1 : Int) (a2 : Int) : Option ((List (S30)) × Bool) := spec_l2Moved.l0 k l0 a1 a2 (([] : List (S30))) 0
def spec_l2Moved.T10 : Bool × List (List Nat × List Nat) := (true, [([], []), ([0], [0]), ([1, 1], [1]), ([2], [2]), ([3, 2, 2], [2, 3]), ([2], [2]), ([2], [2]), ([5, 6, 2], [2, 5, 6]), ([7, 2], [2, 7]), ([8, 4, 2], [2, 8]), ([4, 9, 2], [2, 4, 9]), ([2], [2]), ([10, 11, 2], [2, 10, 11]), ([2, 12], [2, 12])])
def spec_l2Moved.B10 : List Nat := [0, 1, 3, 7, 15, 7, 7, 103, 231, 511, 1023, 7, 4095, 8191]
theorem spec_l2Moved.tab10 : rtab .any (opsOf Tryd.f132 10) = spec_l2Moved.T10 := by kernel_rfl
theorem spec_l2Moved.bits10 : waitsOk spec_l2Moved.T10.2 spec_l2Moved.B10 = true := by kernel_rfl
set_option maxHeartbeats 8000000 in
set_option maxRecDepth 100000 in
theorem spec_l2Moved.calls (k : Nat) (A0 : Option Addr) (c0 : Nat) (l0 : List (S30)) (a1 : Int) (a2 : Int) (r1 : List (S30)) (r2 : Bool) (w : World) (hr0 : Kd.C k30 w A0 l0.length l0) (hc0 : l0.length ≤ c0) (h : spec_l2Moved.f k l0 a1 a2 = some (r1, r2)) :
  Calls Tryd.prog 132 #[.slice A0 l0.length c0, .int .i64 a1, .int .i64 a2] w fun e w' => ∃ v0_ : Value, e = .returned (.tuple #[v0_, .bool r2]) ∧ Kd.R k30 30 w' w.heap.size (fun _ => True) v0_ r1 ∧ Below w.heap.size w w' := by
 have hu30 := Tryd.underlying30
 have HR0 := am hr0
 have HC0 := am hc0
 clear hr0 hc0
 have HB := am (Below.refl w.heap.size w)
 have H : (spec_l2Moved.l0 k l0 a1 a2 (([] : List (S30))) 0) = some (r1, r2) := h
 clear h
 obtain ⟨y229, hy229⟩ : ∃ y_ : List (S30), y_ = (([] : List (S30))) := ⟨_, rfl⟩
 replace H : (spec_l2Moved.l0 k l0 a1 a2 y229 0) = some (r1, r2) := by first | (rw [hy229]; with_reducible exact H) | (have H2_ := (Option.bind_some _ _).symm.trans H; rw [hy229]; with_reducible exact H2_) | (have H2_ := (Option.bind_some _ _).symm.trans H; with_reducible exact H2_) | with_reducible exact H | (rw [hy229]; exact H) | exact H
 have Ny229 := am hy229
 clear hy229
 have H' := am H
 clear H
 go_enter Tryd.func132, Tryd.ntmps132
 go_wp2_with (first | ((with_reducible refine gate_dst (N := 13) rfl ?_); refine Kd.R_lit k30 _ 30 ?hg (N := 13) ?hd (xs := ([] : List (S30))) (inner := []) (ok := fun _ => True) (okp := fun _ => True) ?hr ?hp (fun _ hk => hk) trivial (Below.refl _ _) (Nat.le_refl _) (by simp) ?_; (case hd => rfl); (case hg => rfl); (case hr => first | (go_simp; done) | (go_simp; rfl)); (case hp => exact (Reps.none _ _)); intro v230 w4 ho5 hb hg_ hnew_; clear hg_ hnew_; (first | rw [← Ny229.out] at ho5 | (simp only [Int.reduceToNat] at ho5; rw [← Ny229.out] at ho5)); have n0_ := am (Kd.R_lower ho5 (below_size (bu HB.out))); have n1_ := am (below_step (bu HB.out) hb); clear HB; have HO231 := n0_; have HB := n1_; clear n0_ n1_; clear hb ho5))
 go_loopg [8, 9] k (fun kq v8 v9 w' => ∃ (x8_1 : List (S30)) (x9_1 : Int), v9 = .int .i64 x9_1 ∧ Aside0 (spec_l2Moved.l0 kq l0 a1 a2 x8_1 x9_1 = some (r1, r2)) ∧ Aside0 (kq ≤ k) ∧ Aside0 (Kd.R k30 30 w' w.heap.size (fun _ => True) v8 x8_1) ∧ Aside0 (Below w.heap.size w w'))
 case atStart => exact ⟨(y229), (0), (by first | rfl | (simp; done) | (simp [*]; done)), H', ⟨Nat.le_refl _⟩, ⟨ru HO231.out⟩, ⟨bu HB.out⟩⟩
 case round =>
  clear H'
  try clear c1
  try clear p2
  obtain ⟨x8_1, x9_1, rfl, HA, HK1, HO_8, HB⟩ := hrel
  cases gk with
  | zero => exact absurd HA.out (by simp [spec_l2Moved.l0])
  | succ k1 =>
   have H := HA.out
   clear HA
   simp only [spec_l2Moved.l0] at H
   by_cases c6 : x9_1 < (l0.length : Int)
   ·rw [if_pos c6] at H
    have c6b0 : decide (x9_1 < (l0.length : Int)) = true := decide_eq_true c6
    clear c6
    have H' := am H
    clear H
    go_wp2
    go_loopg [8, 10, 11] k1 (fun kq v8 v10 v11 w' => ∃ (x8_2 : List (S30)) (x10_2 : Bool) (x11_2 : Int), v10 = .bool x10_2 ∧ v11 = .int .i64 x11_2 ∧ Aside0 (spec_l2Moved.l1 kq l0 a1 a2 x8_2 x9_1 x10_2 x11_2 = some (r1, r2)) ∧ Aside0 (kq ≤ k1) ∧ Aside0 (Kd.R k30 30 w' w.heap.size (fun _ => True) v8 x8_2) ∧ Aside0 (Below w.heap.size w w'))
    case atStart => exact ⟨(x8_1), (false), (0), (by first | rfl | (simp; done) | (simp [*]; done)), (by first | rfl | (simp; done) | (simp [*]; done)), H', ⟨Nat.le_refl _⟩, ⟨ru HO_8.out⟩, ⟨bu HB.out⟩⟩
    case round =>
     clear H'
     try clear c1
     try clear p2
     try clear c6
     try clear c6b0
     try clear p2
     obtain ⟨x8_2, x10_2, x11_2, rfl, rfl, HA, HK2, HO_8, HB⟩ := hrel
     cases gk with
     | zero => exact absurd HA.out (by simp [spec_l2Moved.l1])
     | succ k2 =>
      have H := HA.out
      clear HA
      simp only [spec_l2Moved.l1] at H
      have HC7 := am H
      clear H
      go_upto_region 7 with (fail)
      go_cut [25] (fun v25 wc => ∃ (kq : Nat) (x25_6 : Bool), v25 = .bool x25_6 ∧ Aside0 (spec_l2Moved.j2 kq l0 a1 a2 x8_2 x9_1 x10_2 x11_2 x25_6 = some (r1, r2)) ∧ Aside0 (kq ≤ k2) ∧ Aside0 (Kd.R k30 30 wc w.heap.size (fun _ => True) u8 x8_2) ∧ Aside0 (Below w.heap.size w wc))
      case first =>
       have H := HC7.out
       clear HC7
       by_cases c8 : x11_2 < 2
       ·rw [if_pos c8] at H
        have c8b0 : decide (x11_2 < 2) = true := decide_eq_true c8
        clear c8
        (first | rw [c8b0] | (simp only [i64_w, i32_w]; rw [c8b0]) | skip)
        have H' := am H
        clear H
        go_wp2
        go_meet
        case rel => exact ⟨_, (!x10_2), (by first | rfl | (simp; done) | (simp [*]; done)), H', ⟨by have := HK1.out; have := HK2.out; first | omega | exact Nat.le_refl _⟩, ⟨ru HO_8.out⟩, ⟨bu HB.out⟩⟩
       ·rw [if_neg c8] at H
        have c8b0 : decide (x11_2 < 2) = false := decide_eq_false c8
        clear c8
        (first | rw [c8b0] | (simp only [i64_w, i32_w]; rw [c8b0]) | skip)
        have H' := am H
        clear H
        go_wp2
        go_meet
        case rel => exact ⟨_, (false), (by first | rfl | (simp; done) | (simp [*]; done)), H', ⟨by have := HK1.out; have := HK2.out; first | omega | exact Nat.le_refl _⟩, ⟨ru HO_8.out⟩, ⟨bu HB.out⟩⟩
      case rest =>
       clear HC7
       try clear c1
       try clear p2
       try clear c6
       try clear c6b0
       try clear c8
       try clear c8b0
       try clear p2
       obtain ⟨kq, x25_6, rfl, HA, HJ6, HO_8, HB⟩ := hcut
       cases kq with
       | zero => exact absurd HA.out (by simp [spec_l2Moved.j2])
       | succ kj6 =>
        have H := HA.out
        clear HA
        simp only [spec_l2Moved.j2] at H
        by_cases c9 : x25_6 = true
        ·subst c9
         have H1 : (if 0 ≤ x9_1 then (if x9_1 < (l0.length : Int) then ((spec_ToneValid.f (wrap64 (((rd_T30 l0 x9_1).f0) + a1)) (x11_2 == 1)).bind fun t237 => (if t237 = true then ((spec_l1Height.f (wrap64 (((rd_T30 l0 x9_1).f0) + a1)) (x11_2 == 1)).bind fun t238 => ((spec_l1Height.f ((rd_T30 l0 x9_1).f0) ((rd_T30 l0 x9_1).f1)).bind fun t240 => (if (wrap64 (t238 - t240)) = a2 then (if x8_2.length < 8796093022208 then (spec_l2Moved.l1 kj6 l0 a1 a2 (x8_2 ++ [(⟨wrap64 (((rd_T30 l0 x9_1).f0) + a1), (x11_2 == 1)⟩ : S30)]) x9_1 true (wrap64 (x11_2 + 1))) else (none)) else (spec_l2Moved.l1 kj6 l0 a1 a2 x8_2 x9_1 x10_2 (wrap64 (x11_2 + 1)))))) else (spec_l2Moved.l1 kj6 l0 a1 a2 x8_2 x9_1 x10_2 (wrap64 (x11_2 + 1))))) else (none)) else (none)) = some (r1, r2) := by rw [if_pos rfl] at H; exact H
         clear H
         have H := H1
         clear H1
         by_cases c10 : 0 ≤ x9_1
         ·rw [if_pos c10] at H
          have c10b0 : decide (0 ≤ x9_1) = true := decide_eq_true c10
          clear c10
          by_cases c11 : x9_1 < (l0.length : Int)
          ·rw [if_pos c11] at H
           have c11b0 : decide (x9_1 < (l0.length : Int)) = true := decide_eq_true c11
           clear c11
           replace H := Option.bind_eq_some_iff.mp H
           obtain ⟨t237, A120, H⟩ := H
           replace H : (if t237 = true then ((spec_l1Height.f (wrap64 (((rd_T30 l0 x9_1).f0) + a1)) (x11_2 == 1)).bind fun t238 => ((spec_l1Height.f ((rd_T30 l0 x9_1).f0) ((rd_T30 l0 x9_1).f1)).bind fun t240 => (if (wrap64 (t238 - t240)) = a2 then (if x8_2.length < 8796093022208 then (spec_l2Moved.l1 kj6 l0 a1 a2 (x8_2 ++ [(⟨wrap64 (((rd_T30 l0 x9_1).f0) + a1), (x11_2 == 1)⟩ : S30)]) x9_1 true (wrap64 (x11_2 + 1))) else (none)) else (spec_l2Moved.l1 kj6 l0 a1 a2 x8_2 x9_1 x10_2 (wrap64 (x11_2 + 1)))))) else (spec_l2Moved.l1 kj6 l0 a1 a2 x8_2 x9_1 x10_2 (wrap64 (x11_2 + 1)))) = some (r1, r2) := H
           have A12 := am A120
           clear A120
           by_cases c13 : t237 = true
           ·subst c13
            have H1 : ((spec_l1Height.f (wrap64 (((rd_T30 l0 x9_1).f0) + a1)) (x11_2 == 1)).bind fun t238 => ((spec_l1Height.f ((rd_T30 l0 x9_1).f0) ((rd_T30 l0 x9_1).f1)).bind fun t240 => (if (wrap64 (t238 - t240)) = a2 then (if x8_2.length < 8796093022208 then (spec_l2Moved.l1 kj6 l0 a1 a2 (x8_2 ++ [(⟨wrap64 (((rd_T30 l0 x9_1).f0) + a1), (x11_2 == 1)⟩ : S30)]) x9_1 true (wrap64 (x11_2 + 1))) else (none)) else (spec_l2Moved.l1 kj6 l0 a1 a2 x8_2 x9_1 x10_2 (wrap64 (x11_2 + 1)))))) = some (r1, r2) := by rw [if_pos rfl] at H; exact H
            clear H
            have H := H1
            clear H1
            replace H := Option.bind_eq_some_iff.mp H
            obtain ⟨t238, A140, H⟩ := H
            replace H : ((spec_l1Height.f ((rd_T30 l0 x9_1).f0) ((rd_T30 l0 x9_1).f1)).bind fun t240 => (if (wrap64 (t238 - t240)) = a2 then (if x8_2.length < 8796093022208 then (spec_l2Moved.l1 kj6 l0 a1 a2 (x8_2 ++ [(⟨wrap64 (((rd_T30 l0 x9_1).f0) + a1), (x11_2 == 1)⟩ : S30)]) x9_1 true (wrap64 (x11_2 + 1))) else (none)) else (spec_l2Moved.l1 kj6 l0 a1 a2 x8_2 x9_1 x10_2 (wrap64 (x11_2 + 1))))) = some (r1, r2) := H
            have A14 := am A140
            clear A140
            replace H := Option.bind_eq_some_iff.mp H
            obtain ⟨t240, A150, H⟩ := H
            replace H : (if (wrap64 (t238 - t240)) = a2 then (if x8_2.length < 8796093022208 then (spec_l2Moved.l1 kj6 l0 a1 a2 (x8_2 ++ [(⟨wrap64 (((rd_T30 l0 x9_1).f0) + a1), (x11_2 == 1)⟩ : S30)]) x9_1 true (wrap64 (x11_2 + 1))) else (none)) else (spec_l2Moved.l1 kj6 l0 a1 a2 x8_2 x9_1 x10_2 (wrap64 (x11_2 + 1)))) = some (r1, r2) := H
            have A15 := am A150
            clear A150
            by_cases c16 : (wrap64 (t238 - t240)) = a2
            ·rw [if_pos c16] at H
             have c16b0 : ((wrap64 (t238 - t240)) == a2) = true := beq_iff_eq.mpr c16
             have c16b1 : ((wrap64 (t238 - t240)) != a2) = false := bne_eq_false_iff_eq.mpr c16
             clear c16
             by_cases c17 : x8_2.length < 8796093022208
             ·rw [if_pos c17] at H
              have LMc17 := am c17
              clear c17
              obtain ⟨y241, hy241⟩ : ∃ y_ : List (S30), y_ = (x8_2 ++ [(⟨wrap64 (((rd_T30 l0 x9_1).f0) + a1), (x11_2 == 1)⟩ : S30)]) := ⟨_, rfl⟩
              replace H : (spec_l2Moved.l1 kj6 l0 a1 a2 y241 x9_1 true (wrap64 (x11_2 + 1))) = some (r1, r2) := by first | (rw [hy241]; with_reducible exact H) | (have H2_ := (Option.bind_some _ _).symm.trans H; rw [hy241]; with_reducible exact H2_) | (have H2_ := (Option.bind_some _ _).symm.trans H; with_reducible exact H2_) | with_reducible exact H | (rw [hy241]; exact H) | exact H
              have Ny241 := am hy241
              clear hy241
              have H' := am H
              clear H
              have p235 : 0 ≤ (x9_1 : Int) := od
              have q235 : x9_1 < (l0.length : Int) := od
              obtain ⟨ad235, e235, hx235_0, hx235_1⟩ := at_T30 HR0.out x9_1 p235 q235
              cases e235
              replace hx235_0 := (HB.out.cell (World.block_lt_of_cell? w _ hx235_0)).trans hx235_0
              replace hx235_1 := (HB.out.cell (World.block_lt_of_cell? w _ hx235_1)).trans hx235_1
              replace p235 := eq_true p235
              replace q235 := eq_true q235
              try go_wp2_with (first | ((with_reducible refine gate_dst (N := 12) rfl ?_); refine box_event ?hg (N := 12) ?hd (cs := #[.int .i64 0, .bool false]) (t := 30) ?hr ?_; (case hd => rfl); (case hg => rfl); (case hr => first | (go_simp; done) | (go_simp; rfl)); intro gb236 hg w18 hbox hb; have n0_ := am (Kd.R_below (Kd.R_elderB (ru HO_8.out) gb236 (Nat.le_of_eq hg.symm)) hb); have n1_ := am (below_step (bu HB.out) hb); have n2_ := am (hbox); have n3_ := am ((by rw [hg]; exact (below_size (bu HB.out)) : w.heap.size ≤ gb236)); have n4_ := am ((by rw [hg]; exact (below_size (bu HB.out)) : w.heap.size ≤ gb236)); clear HO_8; clear HB; have HO_8 := n0_; have HB := n1_; have BK236 := n2_; have GW236 := n3_; have GE236 := n4_; clear n0_ n1_ n2_ n3_ n4_; clear hb hbox hg; have hcz19_0 : w18.cell? ⟨gb236, 0, none⟩ = some (.int .i64 0) := (blk_cell BK236.out 0).trans rfl; have hcz19_1 : w18.cell? ⟨gb236, 1, none⟩ = some (.bool false) := (blk_cell BK236.out 1).trans rfl; have hfz19_0 := blk_frozen BK236.out 0; have hfz19_1 := blk_frozen BK236.out 1))
              have n0_ : Aside0 (Kd.R k30 30 ((w18.setCell ⟨gb236, 0, none⟩ (.int .i64 (wrap64 (((rd_T30 l0 x9_1).f0) + a1)))).setCell ⟨gb236, 1, none⟩ (.bool (x11_2 == 1))) w.heap.size (fun k_ => k_ ≠ gb236) u8 x8_2) := ⟨by (with_reducible repeat (first | apply Kd.R_alloc | apply Kd.R_drewN | apply Kd.R_drew)); exact Kd.R_mono (Kd.R_far (p := ⟨gb236, 1, none⟩) (Kd.R_far (p := ⟨gb236, 0, none⟩) (Kd.R_mono HO_8.out (fun k_ hk => (⟨hk, hk.2⟩ : _ ∧ k_ ≠ gb236))) (fun _ hk => hk.2) (.int .i64 (wrap64 (((rd_T30 l0 x9_1).f0) + a1)))) (fun _ hk => hk.2) (.bool (x11_2 == 1))) (fun _ hk => hk.1.2)⟩
              have n1_ : Aside0 (((w18.setCell ⟨gb236, 0, none⟩ (.int .i64 (wrap64 (((rd_T30 l0 x9_1).f0) + a1)))).setCell ⟨gb236, 1, none⟩ (.bool (x11_2 == 1))).heap[gb236]? = some (.cells #[.int .i64 (wrap64 (((rd_T30 l0 x9_1).f0) + a1)), .bool (x11_2 == 1)] 30 (0, 0))) := ⟨by (with_reducible repeat (first | refine blk_drewN ?_ _ | refine blk_drew ?_ | refine blk_alloc ?_ _)); refine blk_put (cs := #[.int .i64 (wrap64 (((rd_T30 l0 x9_1).f0) + a1)), .bool false]) ?_ 1 _ rfl; (with_reducible repeat (first | refine blk_drewN ?_ _ | refine blk_drew ?_ | refine blk_alloc ?_ _)); refine blk_put (cs := #[.int .i64 0, .bool false]) ?_ 0 _ rfl; (with_reducible repeat (first | refine blk_drewN ?_ _ | refine blk_drew ?_ | refine blk_alloc ?_ _)); exact BK236.out⟩
              have n2_ : Aside0 (Below w.heap.size w ((w18.setCell ⟨gb236, 0, none⟩ (.int .i64 (wrap64 (((rd_T30 l0 x9_1).f0) + a1)))).setCell ⟨gb236, 1, none⟩ (.bool (x11_2 == 1)))) := ⟨bu HB.out⟩
              (try clear HO_8)
              (try clear BK236)
              (try clear HB)
              generalize ((w18.setCell ⟨gb236, 0, none⟩ (.int .i64 (wrap64 (((rd_T30 l0 x9_1).f0) + a1)))).setCell ⟨gb236, 1, none⟩ (.bool (x11_2 == 1))) = w20 at n0_ n1_ n2_ ⊢
              have HO_8 := n0_
              have BK236 := n1_
              have HB := n2_
              clear n0_ n1_ n2_
              have n0_ := am (Kd.R_drew HO_8.out)
              have n1_ := am (blk_drew BK236.out)
              have n2_ := am (below_drew1 HB.out)
              clear HO_8
              clear BK236
              clear HB
              have HO_8 := n0_
              have BK236 := n1_
              have HB := n2_
              clear n0_ n1_ n2_
              have p239 : 0 ≤ (x9_1 : Int) := od
              have q239 : x9_1 < (l0.length : Int) := od
              obtain ⟨ad239, e239, hx239_0, hx239_1⟩ := at_T30 HR0.out x9_1 p239 q239
              have hw239_1 := hx239_1
              have hw239_0 := hx239_0
              obtain rfl : ad235 = ad239 := (by injection e239)
              replace hx239_0 := (HB.out.cell (World.block_lt_of_cell? w _ hx239_0)).trans hx239_0
              replace hx239_1 := (HB.out.cell (World.block_lt_of_cell? w _ hx239_1)).trans hx239_1
              replace p239 := eq_true p239
              replace q239 := eq_true q239
              refine start_ (n := 14) (S := fun w' => w'.cell? ⟨gb236, 0, none⟩ = some (.int .i64 (wrap64 (((rd_T30 l0 x9_1).f0) + a1))) ∧ w'.cell? ⟨gb236, 1, none⟩ = some (.bool (x11_2 == 1)) ∧ w'.cell? (ad235.add ((x9_1).toNat * 2)) = some (.int .i64 ((rd_T30 l0 x9_1).f0)) ∧ w'.cell? ⟨(ad235.add ((x9_1).toNat * 2)).block, (ad235.add ((x9_1).toNat * 2)).off + 1, none⟩ = some (.bool ((rd_T30 l0 x9_1).f1))) (ds := []) #[F,F,F,F,F,F,F,F,F,F,F,F,F,F] (by kernel_rfl) rfl rfl ⟨(blk_cell BK236.out 0).trans rfl, (blk_cell BK236.out 1).trans rfl, ((HB.out.cell (World.block_lt_of_cell? w _ hw239_0)).trans hw239_0), ((HB.out.cell (World.block_lt_of_cell? w _ hw239_1)).trans hw239_1)⟩ (fun hHeld => ?_); refine with_tabW spec_l2Moved.tab10 spec_l2Moved.bits10 (fun HT_ HW_ => ?_)
              generalize w20.drew = w21 at HO_8 BK236 HB hx239_0 hx239_1 hHeld ⊢
              refine tz hHeld 0 (some 38) #[T,F,F,F,F,F,F,F,F,F,F,F,F,F] (take_ofW HT_.out HW_.out (by kernel_rfl)) (h := ?_)
              refine one_ (i := 1) (N := some 39) #[T,T,F,F,F,F,F,F,F,F,F,F,F,F] rfl rfl (one_of HT_.out (by kernel_rfl)) (by decide) (fun K hK => ?_)
              refine goes_ Tryd.func130 (by kernel_rfl) rfl #[.agg #[.int .i64 (wrap64 (((rd_T30 l0 x9_1).f0) + a1)), .bool (x11_2 == 1)]] (by rfl) rfl rfl (by (try simp only [List.map_toArray, List.map_cons, List.map_nil]); first | done | rfl | (simp only [List.length_drop, List.length_take]; rfl)) ?_
              with_reducible refine (spec_ToneValid.calls (wrap64 (((rd_T30 l0 x9_1).f0) + a1)) (x11_2 == 1) true _ A12.out).mono ?_
              rintro e w22 ⟨rfl, hb⟩
              refine ⟨_, rfl, ?_⟩
              have n0_ := am (Kd.R_below (ru HO_8.out) hb)
              have n1_ := am (blk_below (g := gb236) (o := .cells #[.int .i64 (wrap64 (((rd_T30 l0 x9_1).f0) + a1)), .bool (x11_2 == 1)] 30 (0, 0)) (gu BK236.out) hb)
              have n2_ := am (below_step (bu HB.out) hb)
              clear HO_8
              clear BK236
              clear HB
              have HO_8 := n0_
              have BK236 := n1_
              have HB := n2_
              clear n0_ n1_ n2_
              (try clear hb)
              (try clear hb2)
              (try clear hk)
              (try clear hi)
              refine hK.out _ _ ⟨(blk_cell BK236.out 0).trans rfl, (blk_cell BK236.out 1).trans rfl, ((HB.out.cell (World.block_lt_of_cell? w _ hw239_0)).trans hw239_0), ((HB.out.cell (World.block_lt_of_cell? w _ hw239_1)).trans hw239_1)⟩ (fun hHeld => ?_)
              clear hK K
              refine norm_ (a' := ?_) ?_ ?_
              rotate_left
              ·show Act.put _ (some 39) _ = _
               simp only [Act.put, sA, sZ, sS, i64_w, i32_w]
               rfl
              refine pz 2 (some 40) #[T,T,T,F,F,F,F,F,F,F,F,F,F,F] (any_of HT_.out (by kernel_rfl)) (h := ?_)
              refine pz 5 (some 43) #[T,T,T,F,F,T,F,F,F,F,F,F,F,F] (any_of HT_.out (by kernel_rfl)) (h := ?_)
              refine pz 6 (some 44) #[T,T,T,F,F,T,T,F,F,F,F,F,F,F] (any_of HT_.out (by kernel_rfl)) (h := ?_)
              refine pz 7 (some 45) #[T,T,T,F,F,T,T,T,F,F,F,F,F,F] (any_of HT_.out (by kernel_rfl)) (h := ?_)
              refine pz 11 (some 49) #[T,T,T,F,F,T,T,T,F,F,F,T,F,F] (any_of HT_.out (by kernel_rfl)) (h := ?_)
              refine tz hHeld 3 (some 41) #[T,T,T,T,F,T,T,T,F,F,F,T,F,F] (take_ofW HT_.out HW_.out (by kernel_rfl)) (h := ?_)
              refine tz hHeld 8 (some 46) #[T,T,T,T,F,T,T,T,T,F,F,T,F,F] (take_ofW HT_.out HW_.out (by kernel_rfl)) (h := ?_)
              refine one_ (i := 4) (N := some 42) #[T,T,T,T,T,T,T,T,T,F,F,T,F,F] rfl rfl (one_of HT_.out (by kernel_rfl)) (by decide) (fun K hK => ?_)
              refine goes_ Tryd.func133 (by kernel_rfl) rfl #[.agg #[.int .i64 (wrap64 (((rd_T30 l0 x9_1).f0) + a1)), .bool (x11_2 == 1)]] (by rfl) rfl rfl (by (try simp only [List.map_toArray, List.map_cons, List.map_nil]); first | done | rfl | (simp only [List.length_drop, List.length_take]; rfl)) ?_
              with_reducible refine (spec_l1Height.calls (wrap64 (((rd_T30 l0 x9_1).f0) + a1)) (x11_2 == 1) t238 _ A14.out).mono ?_
              rintro e w23 ⟨rfl, hb⟩
              refine ⟨_, rfl, ?_⟩
              have n0_ := am (Kd.R_below (ru HO_8.out) hb)
              have n1_ := am (blk_below (g := gb236) (o := .cells #[.int .i64 (wrap64 (((rd_T30 l0 x9_1).f0) + a1)), .bool (x11_2 == 1)] 30 (0, 0)) (gu BK236.out) hb)
              have n2_ := am (below_step (bu HB.out) hb)
              clear HO_8
              clear BK236
              clear HB
              have HO_8 := n0_
              have BK236 := n1_
              have HB := n2_
              clear n0_ n1_ n2_
              (try clear hb)
              (try clear hb2)
              (try clear hk)
              (try clear hi)
              refine hK.out _ _ ⟨(blk_cell BK236.out 0).trans rfl, (blk_cell BK236.out 1).trans rfl, ((HB.out.cell (World.block_lt_of_cell? w _ hw239_0)).trans hw239_0), ((HB.out.cell (World.block_lt_of_cell? w _ hw239_1)).trans hw239_1)⟩ (fun hHeld => ?_)
              clear hK K
              refine norm_ (a' := ?_) ?_ ?_
              rotate_left
              ·show Act.put _ (some 42) _ = _
               simp only [Act.put, sA, sZ, sS, i64_w, i32_w]
               rfl
              refine one_ (i := 9) (N := some 47) #[T,T,T,T,T,T,T,T,T,T,F,T,F,F] rfl rfl (one_of HT_.out (by kernel_rfl)) (by decide) (fun K hK => ?_)
              refine goes_ Tryd.func133 (by kernel_rfl) rfl #[.agg #[.int .i64 ((rd_T30 l0 x9_1).f0), .bool ((rd_T30 l0 x9_1).f1)]] (by rfl) rfl rfl (by (try simp only [List.map_toArray, List.map_cons, List.map_nil]); first | done | rfl | (simp only [List.length_drop, List.length_take]; rfl)) ?_
              with_reducible refine (spec_l1Height.calls ((rd_T30 l0 x9_1).f0) ((rd_T30 l0 x9_1).f1) t240 _ A15.out).mono ?_
              rintro e w24 ⟨rfl, hb⟩
              refine ⟨_, rfl, ?_⟩
              have n0_ := am (Kd.R_below (ru HO_8.out) hb)
              have n1_ := am (blk_below (g := gb236) (o := .cells #[.int .i64 (wrap64 (((rd_T30 l0 x9_1).f0) + a1)), .bool (x11_2 == 1)] 30 (0, 0)) (gu BK236.out) hb)
              have n2_ := am (below_step (bu HB.out) hb)
              clear HO_8
              clear BK236
              clear HB
              have HO_8 := n0_
              have BK236 := n1_
              have HB := n2_
              clear n0_ n1_ n2_
              (try clear hb)
              (try clear hb2)
              (try clear hk)
              (try clear hi)
              refine hK.out _ _ ⟨(blk_cell BK236.out 0).trans rfl, (blk_cell BK236.out 1).trans rfl, ((HB.out.cell (World.block_lt_of_cell? w _ hw239_0)).trans hw239_0), ((HB.out.cell (World.block_lt_of_cell? w _ hw239_1)).trans hw239_1)⟩ (fun hHeld => ?_)
              clear hK K
              refine norm_ (a' := ?_) ?_ ?_
              rotate_left
              ·show Act.put _ (some 47) _ = _
               simp only [Act.put, sA, sZ, sS, i64_w, i32_w]
               rfl
              refine pz 10 (some 48) #[T,T,T,T,T,T,T,T,T,T,T,T,F,F] (any_of HT_.out (by kernel_rfl)) (h := ?_)
              refine pz 12 (some 50) #[T,T,T,T,T,T,T,T,T,T,T,T,T,F] (any_of HT_.out (by kernel_rfl)) (h := ?_)
              refine pz 13 (some 51) #[T,T,T,T,T,T,T,T,T,T,T,T,T,T] (any_of HT_.out (by kernel_rfl)) (h := ?_)
              refine done_ (done_of HT_.out (by kernel_rfl)) ?_
              have hcz25_0 : w24.cell? ⟨gb236, 0, none⟩ = some (.int .i64 (wrap64 (((rd_T30 l0 x9_1).f0) + a1))) := (blk_cell BK236.out 0).trans rfl
              have hcz25_1 : w24.cell? ⟨gb236, 1, none⟩ = some (.bool (x11_2 == 1)) := (blk_cell BK236.out 1).trans rfl
              have hfz25_0 := blk_frozen BK236.out 0
              have hfz25_1 := blk_frozen BK236.out 1
              try go_wp2_with (first | ((with_reducible refine gate_builtin (b := .append) (xs := #[.tmp 52, .tmp 54]) rfl ?_); at_builtin; refine Kd.R_append k30 (w0 := w) w.heap.size rfl (.tmp 52) (.tmp 54) 42 30 (.agg #[(.int .i64 0), (.bool false)]) 16 rfl Tryd.underlying42 info30 rfl (by decide) (by omega) u8 x8_2 (⟨wrap64 (((rd_T30 l0 x9_1).f0) + a1), (x11_2 == 1)⟩ : S30) [.int .i64 (wrap64 (((rd_T30 l0 x9_1).f0) + a1)), .bool (x11_2 == 1)] (fun k_ => k_ ≠ gb236) (fun _ => False) rfl rfl ?aP (fun _ hk => hk.elim) ?aF ?aO ?aB ?aS ?aL ?_; (case aP => exact k30_mkM _ _ _ (⟨wrap64 (((rd_T30 l0 x9_1).f0) + a1), (x11_2 == 1)⟩ : S30)); (case aB => exact (bu HB.out)); (case aF => exact (fun k_ hk => Kd.freshB (g := gb236) (o := .cells #[.int .i64 (wrap64 (((rd_T30 l0 x9_1).f0) + a1)), .bool (x11_2 == 1)] 30 (0, 0)) (gu BK236.out) k_ hk)); (case aO => exact (ru HO_8.out)); (case aS => exact (below_size (bu HB.out))); (case aL => have := LMc17.out; omega); intro v242 w26 ho hb hg hat; rw [← Ny241.out] at ho; have n0_ := am (blk_grown (g := gb236) (o := .cells #[.int .i64 (wrap64 (((rd_T30 l0 x9_1).f0) + a1)), .bool (x11_2 == 1)] 30 (0, 0)) (gu BK236.out) hg (Kd.R_away HO_8.out (fun _ hk => hk))); have n1_ := am (hb); have n2_ := am (ho); clear BK236; clear HB; clear HO_8; have BK236 := n0_; have HB := n1_; have HO243 := n2_; clear n0_ n1_ n2_; clear ho hb hg hat))
              go_roundg kj6
              case measure => have := HK1.out; have := HK2.out; have := HJ6.out; omega
              case rel => exact ⟨(y241), (true), (wrap64 (x11_2 + 1)), (by first | rfl | (simp; done) | (simp [*]; done)), (by first | rfl | (simp; done) | (simp [*]; done)), H', ⟨by have := HK1.out; have := HK2.out; have := HJ6.out; omega⟩, ⟨by (with_reducible repeat (first | apply Kd.R_alloc | apply Kd.R_drewN | apply Kd.R_drew)); exact Kd.R_mono HO243.out (fun _ hk => trivial)⟩, ⟨bu HB.out⟩⟩
             ·rw [if_neg c17] at H
              exact absurd H (by simp)
            ·rw [if_neg c16] at H
             have c16b0 : ((wrap64 (t238 - t240)) == a2) = false := beq_eq_false_iff_ne.mpr c16
             have c16b1 : ((wrap64 (t238 - t240)) != a2) = true := bne_iff_ne.mpr c16
             have H' := am H
             clear H
             have p235 : 0 ≤ (x9_1 : Int) := od
             have q235 : x9_1 < (l0.length : Int) := od
             obtain ⟨ad235, e235, hx235_0, hx235_1⟩ := at_T30 HR0.out x9_1 p235 q235
             cases e235
             replace hx235_0 := (HB.out.cell (World.block_lt_of_cell? w _ hx235_0)).trans hx235_0
             replace hx235_1 := (HB.out.cell (World.block_lt_of_cell? w _ hx235_1)).trans hx235_1
             replace p235 := eq_true p235
             replace q235 := eq_true q235
             try go_wp2_with (first | ((with_reducible refine gate_dst (N := 12) rfl ?_); refine box_event ?hg (N := 12) ?hd (cs := #[.int .i64 0, .bool false]) (t := 30) ?hr ?_; (case hd => rfl); (case hg => rfl); (case hr => first | (go_simp; done) | (go_simp; rfl)); intro gb236 hg w27 hbox hb; have n0_ := am (Kd.R_below (Kd.R_elderB (ru HO_8.out) gb236 (Nat.le_of_eq hg.symm)) hb); have n1_ := am (below_step (bu HB.out) hb); have n2_ := am (hbox); have n3_ := am ((by rw [hg]; exact (below_size (bu HB.out)) : w.heap.size ≤ gb236)); have n4_ := am ((by rw [hg]; exact (below_size (bu HB.out)) : w.heap.size ≤ gb236)); clear HO_8; clear HB; have HO_8 := n0_; have HB := n1_; have BK236 := n2_; have GW236 := n3_; have GE236 := n4_; clear n0_ n1_ n2_ n3_ n4_; clear hb hbox hg; have hcz28_0 : w27.cell? ⟨gb236, 0, none⟩ = some (.int .i64 0) := (blk_cell BK236.out 0).trans rfl; have hcz28_1 : w27.cell? ⟨gb236, 1, none⟩ = some (.bool false) := (blk_cell BK236.out 1).trans rfl; have hfz28_0 := blk_frozen BK236.out 0; have hfz28_1 := blk_frozen BK236.out 1))
             have n0_ : Aside0 (Kd.R k30 30 ((w27.setCell ⟨gb236, 0, none⟩ (.int .i64 (wrap64 (((rd_T30 l0 x9_1).f0) + a1)))).setCell ⟨gb236, 1, none⟩ (.bool (x11_2 == 1))) w.heap.size (fun k_ => k_ ≠ gb236) u8 x8_2) := ⟨by (with_reducible repeat (first | apply Kd.R_alloc | apply Kd.R_drewN | apply Kd.R_drew)); exact Kd.R_mono (Kd.R_far (p := ⟨gb236, 1, none⟩) (Kd.R_far (p := ⟨gb236, 0, none⟩) (Kd.R_mono HO_8.out (fun k_ hk => (⟨hk, hk.2⟩ : _ ∧ k_ ≠ gb236))) (fun _ hk => hk.2) (.int .i64 (wrap64 (((rd_T30 l0 x9_1).f0) + a1)))) (fun _ hk => hk.2) (.bool (x11_2 == 1))) (fun _ hk => hk.1.2)⟩
             have n1_ : Aside0 (((w27.setCell ⟨gb236, 0, none⟩ (.int .i64 (wrap64 (((rd_T30 l0 x9_1).f0) + a1)))).setCell ⟨gb236, 1, none⟩ (.bool (x11_2 == 1))).heap[gb236]? = some (.cells #[.int .i64 (wrap64 (((rd_T30 l0 x9_1).f0) + a1)), .bool (x11_2 == 1)] 30 (0, 0))) := ⟨by (with_reducible repeat (first | refine blk_drewN ?_ _ | refine blk_drew ?_ | refine blk_alloc ?_ _)); refine blk_put (cs := #[.int .i64 (wrap64 (((rd_T30 l0 x9_1).f0) + a1)), .bool false]) ?_ 1 _ rfl; (with_reducible repeat (first | refine blk_drewN ?_ _ | refine blk_drew ?_ | refine blk_alloc ?_ _)); refine blk_put (cs := #[.int .i64 0, .bool false]) ?_ 0 _ rfl; (with_reducible repeat (first | refine blk_drewN ?_ _ | refine blk_drew ?_ | refine blk_alloc ?_ _)); exact BK236.out⟩
             have n2_ : Aside0 (Below w.heap.size w ((w27.setCell ⟨gb236, 0, none⟩ (.int .i64 (wrap64 (((rd_T30 l0 x9_1).f0) + a1)))).setCell ⟨gb236, 1, none⟩ (.bool (x11_2 == 1)))) := ⟨bu HB.out⟩
             (try clear HO_8)
             (try clear BK236)
             (try clear HB)
             generalize ((w27.setCell ⟨gb236, 0, none⟩ (.int .i64 (wrap64 (((rd_T30 l0 x9_1).f0) + a1)))).setCell ⟨gb236, 1, none⟩ (.bool (x11_2 == 1))) = w29 at n0_ n1_ n2_ ⊢
             have HO_8 := n0_
             have BK236 := n1_
             have HB := n2_
             clear n0_ n1_ n2_
             have n0_ := am (Kd.R_drew HO_8.out)
             have n1_ := am (blk_drew BK236.out)
             have n2_ := am (below_drew1 HB.out)
             clear HO_8
             clear BK236
             clear HB
             have HO_8 := n0_
             have BK236 := n1_
             have HB := n2_
             clear n0_ n1_ n2_
             have p239 : 0 ≤ (x9_1 : Int) := od
             have q239 : x9_1 < (l0.length : Int) := od
             obtain ⟨ad239, e239, hx239_0, hx239_1⟩ := at_T30 HR0.out x9_1 p239 q239
             have hw239_1 := hx239_1
             have hw239_0 := hx239_0
             obtain rfl : ad235 = ad239 := (by injection e239)
             replace hx239_0 := (HB.out.cell (World.block_lt_of_cell? w _ hx239_0)).trans hx239_0
             replace hx239_1 := (HB.out.cell (World.block_lt_of_cell? w _ hx239_1)).trans hx239_1
             replace p239 := eq_true p239
             replace q239 := eq_true q239
             refine start_ (n := 14) (S := fun w' => w'.cell? ⟨gb236, 0, none⟩ = some (.int .i64 (wrap64 (((rd_T30 l0 x9_1).f0) + a1))) ∧ w'.cell? ⟨gb236, 1, none⟩ = some (.bool (x11_2 == 1)) ∧ w'.cell? (ad235.add ((x9_1).toNat * 2)) = some (.int .i64 ((rd_T30 l0 x9_1).f0)) ∧ w'.cell? ⟨(ad235.add ((x9_1).toNat * 2)).block, (ad235.add ((x9_1).toNat * 2)).off + 1, none⟩ = some (.bool ((rd_T30 l0 x9_1).f1))) (ds := []) #[F,F,F,F,F,F,F,F,F,F,F,F,F,F] (by kernel_rfl) rfl rfl ⟨(blk_cell BK236.out 0).trans rfl, (blk_cell BK236.out 1).trans rfl, ((HB.out.cell (World.block_lt_of_cell? w _ hw239_0)).trans hw239_0), ((HB.out.cell (World.block_lt_of_cell? w _ hw239_1)).trans hw239_1)⟩ (fun hHeld => ?_); refine with_tabW spec_l2Moved.tab10 spec_l2Moved.bits10 (fun HT_ HW_ => ?_)
             generalize w29.drew = w30 at HO_8 BK236 HB hx239_0 hx239_1 hHeld ⊢
             refine tz hHeld 0 (some 38) #[T,F,F,F,F,F,F,F,F,F,F,F,F,F] (take_ofW HT_.out HW_.out (by kernel_rfl)) (h := ?_)
             refine one_ (i := 1) (N := some 39) #[T,T,F,F,F,F,F,F,F,F,F,F,F,F] rfl rfl (one_of HT_.out (by kernel_rfl)) (by decide) (fun K hK => ?_)
             refine goes_ Tryd.func130 (by kernel_rfl) rfl #[.agg #[.int .i64 (wrap64 (((rd_T30 l0 x9_1).f0) + a1)), .bool (x11_2 == 1)]] (by rfl) rfl rfl (by (try simp only [List.map_toArray, List.map_cons, List.map_nil]); first | done | rfl | (simp only [List.length_drop, List.length_take]; rfl)) ?_
             with_reducible refine (spec_ToneValid.calls (wrap64 (((rd_T30 l0 x9_1).f0) + a1)) (x11_2 == 1) true _ A12.out).mono ?_
             rintro e w31 ⟨rfl, hb⟩
             refine ⟨_, rfl, ?_⟩
             have n0_ := am (Kd.R_below (ru HO_8.out) hb)
             have n1_ := am (blk_below (g := gb236) (o := .cells #[.int .i64 (wrap64 (((rd_T30 l0 x9_1).f0) + a1)), .bool (x11_2 == 1)] 30 (0, 0)) (gu BK236.out) hb)
             have n2_ := am (below_step (bu HB.out) hb)
             clear HO_8
             clear BK236
             clear HB
             have HO_8 := n0_
             have BK236 := n1_
             have HB := n2_
             clear n0_ n1_ n2_
             (try clear hb)
             (try clear hb2)
             (try clear hk)
             (try clear hi)
             refine hK.out _ _ ⟨(blk_cell BK236.out 0).trans rfl, (blk_cell BK236.out 1).trans rfl, ((HB.out.cell (World.block_lt_of_cell? w _ hw239_0)).trans hw239_0), ((HB.out.cell (World.block_lt_of_cell? w _ hw239_1)).trans hw239_1)⟩ (fun hHeld => ?_)
             clear hK K
             refine norm_ (a' := ?_) ?_ ?_
             rotate_left
             ·show Act.put _ (some 39) _ = _
              simp only [Act.put, sA, sZ, sS, i64_w, i32_w]
              rfl
             refine pz 2 (some 40) #[T,T,T,F,F,F,F,F,F,F,F,F,F,F] (any_of HT_.out (by kernel_rfl)) (h := ?_)
             refine pz 5 (some 43) #[T,T,T,F,F,T,F,F,F,F,F,F,F,F] (any_of HT_.out (by kernel_rfl)) (h := ?_)
             refine pz 6 (some 44) #[T,T,T,F,F,T,T,F,F,F,F,F,F,F] (any_of HT_.out (by kernel_rfl)) (h := ?_)
             refine pz 7 (some 45) #[T,T,T,F,F,T,T,T,F,F,F,F,F,F] (any_of HT_.out (by kernel_rfl)) (h := ?_)
             refine pz 11 (some 49) #[T,T,T,F,F,T,T,T,F,F,F,T,F,F] (any_of HT_.out (by kernel_rfl)) (h := ?_)
             refine tz hHeld 3 (some 41) #[T,T,T,T,F,T,T,T,F,F,F,T,F,F] (take_ofW HT_.out HW_.out (by kernel_rfl)) (h := ?_)
             refine tz hHeld 8 (some 46) #[T,T,T,T,F,T,T,T,T,F,F,T,F,F] (take_ofW HT_.out HW_.out (by kernel_rfl)) (h := ?_)
             refine one_ (i := 4) (N := some 42) #[T,T,T,T,T,T,T,T,T,F,F,T,F,F] rfl rfl (one_of HT_.out (by kernel_rfl)) (by decide) (fun K hK => ?_)
             refine goes_ Tryd.func133 (by kernel_rfl) rfl #[.agg #[.int .i64 (wrap64 (((rd_T30 l0 x9_1).f0) + a1)), .bool (x11_2 == 1)]] (by rfl) rfl rfl (by (try simp only [List.map_toArray, List.map_cons, List.map_nil]); first | done | rfl | (simp only [List.length_drop, List.length_take]; rfl)) ?_
             with_reducible refine (spec_l1Height.calls (wrap64 (((rd_T30 l0 x9_1).f0) + a1)) (x11_2 == 1) t238 _ A14.out).mono ?_
             rintro e w32 ⟨rfl, hb⟩
             refine ⟨_, rfl, ?_⟩
             have n0_ := am (Kd.R_below (ru HO_8.out) hb)
             have n1_ := am (blk_below (g := gb236) (o := .cells #[.int .i64 (wrap64 (((rd_T30 l0 x9_1).f0) + a1)), .bool (x11_2 == 1)] 30 (0, 0)) (gu BK236.out) hb)
             have n2_ := am (below_step (bu HB.out) hb)
             clear HO_8
             clear BK236
             clear HB
             have HO_8 := n0_
             have BK236 := n1_
             have HB := n2_
             clear n0_ n1_ n2_
             (try clear hb)
             (try clear hb2)
             (try clear hk)
             (try clear hi)
             refine hK.out _ _ ⟨(blk_cell BK236.out 0).trans rfl, (blk_cell BK236.out 1).trans rfl, ((HB.out.cell (World.block_lt_of_cell? w _ hw239_0)).trans hw239_0), ((HB.out.cell (World.block_lt_of_cell? w _ hw239_1)).trans hw239_1)⟩ (fun hHeld => ?_)
             clear hK K
             refine norm_ (a' := ?_) ?_ ?_
             rotate_left
             ·show Act.put _ (some 42) _ = _
              simp only [Act.put, sA, sZ, sS, i64_w, i32_w]
              rfl
             refine one_ (i := 9) (N := some 47) #[T,T,T,T,T,T,T,T,T,T,F,T,F,F] rfl rfl (one_of HT_.out (by kernel_rfl)) (by decide) (fun K hK => ?_)
             refine goes_ Tryd.func133 (by kernel_rfl) rfl #[.agg #[.int .i64 ((rd_T30 l0 x9_1).f0), .bool ((rd_T30 l0 x9_1).f1)]] (by rfl) rfl rfl (by (try simp only [List.map_toArray, List.map_cons, List.map_nil]); first | done | rfl | (simp only [List.length_drop, List.length_take]; rfl)) ?_
             with_reducible refine (spec_l1Height.calls ((rd_T30 l0 x9_1).f0) ((rd_T30 l0 x9_1).f1) t240 _ A15.out).mono ?_
             rintro e w33 ⟨rfl, hb⟩
             refine ⟨_, rfl, ?_⟩
             have n0_ := am (Kd.R_below (ru HO_8.out) hb)
             have n1_ := am (blk_below (g := gb236) (o := .cells #[.int .i64 (wrap64 (((rd_T30 l0 x9_1).f0) + a1)), .bool (x11_2 == 1)] 30 (0, 0)) (gu BK236.out) hb)
             have n2_ := am (below_step (bu HB.out) hb)
             clear HO_8
             clear BK236
             clear HB
             have HO_8 := n0_
             have BK236 := n1_
             have HB := n2_
             clear n0_ n1_ n2_
             (try clear hb)
             (try clear hb2)
             (try clear hk)
             (try clear hi)
             refine hK.out _ _ ⟨(blk_cell BK236.out 0).trans rfl, (blk_cell BK236.out 1).trans rfl, ((HB.out.cell (World.block_lt_of_cell? w _ hw239_0)).trans hw239_0), ((HB.out.cell (World.block_lt_of_cell? w _ hw239_1)).trans hw239_1)⟩ (fun hHeld => ?_)
             clear hK K
             refine norm_ (a' := ?_) ?_ ?_
             rotate_left
             ·show Act.put _ (some 47) _ = _
              simp only [Act.put, sA, sZ, sS, i64_w, i32_w]
              rfl
             refine pz 10 (some 48) #[T,T,T,T,T,T,T,T,T,T,T,T,F,F] (any_of HT_.out (by kernel_rfl)) (h := ?_)
             refine pz 12 (some 50) #[T,T,T,T,T,T,T,T,T,T,T,T,T,F] (any_of HT_.out (by kernel_rfl)) (h := ?_)
             refine pz 13 (some 51) #[T,T,T,T,T,T,T,T,T,T,T,T,T,T] (any_of HT_.out (by kernel_rfl)) (h := ?_)
             refine done_ (done_of HT_.out (by kernel_rfl)) ?_
             try go_wp2
             go_roundg kj6
             case measure => have := HK1.out; have := HK2.out; have := HJ6.out; omega
             case rel => exact ⟨(x8_2), (x10_2), (wrap64 (x11_2 + 1)), (by first | rfl | (simp; done) | (simp [*]; done)), (by first | rfl | (simp; done) | (simp [*]; done)), H', ⟨by have := HK1.out; have := HK2.out; have := HJ6.out; omega⟩, ⟨by (with_reducible repeat (first | apply Kd.R_alloc | apply Kd.R_drewN | apply Kd.R_drew)); exact Kd.R_mono HO_8.out (fun _ hk => trivial)⟩, ⟨bu HB.out⟩⟩
           ·replace c13 := Bool.eq_false_iff.mpr c13
            subst c13
            have H1 : (spec_l2Moved.l1 kj6 l0 a1 a2 x8_2 x9_1 x10_2 (wrap64 (x11_2 + 1))) = some (r1, r2) := by rw [if_neg (show ¬ (false = true) by decide)] at H; exact H
            clear H
            have H := H1
            clear H1
            have H' := am H
            clear H
            have p235 : 0 ≤ (x9_1 : Int) := od
            have q235 : x9_1 < (l0.length : Int) := od
            obtain ⟨ad235, e235, hx235_0, hx235_1⟩ := at_T30 HR0.out x9_1 p235 q235
            cases e235
            replace hx235_0 := (HB.out.cell (World.block_lt_of_cell? w _ hx235_0)).trans hx235_0
            replace hx235_1 := (HB.out.cell (World.block_lt_of_cell? w _ hx235_1)).trans hx235_1
            replace p235 := eq_true p235
            replace q235 := eq_true q235
            try go_wp2_with (first | ((with_reducible refine gate_dst (N := 12) rfl ?_); refine box_event ?hg (N := 12) ?hd (cs := #[.int .i64 0, .bool false]) (t := 30) ?hr ?_; (case hd => rfl); (case hg => rfl); (case hr => first | (go_simp; done) | (go_simp; rfl)); intro gb236 hg w34 hbox hb; have n0_ := am (Kd.R_below (Kd.R_elderB (ru HO_8.out) gb236 (Nat.le_of_eq hg.symm)) hb); have n1_ := am (below_step (bu HB.out) hb); have n2_ := am (hbox); have n3_ := am ((by rw [hg]; exact (below_size (bu HB.out)) : w.heap.size ≤ gb236)); have n4_ := am ((by rw [hg]; exact (below_size (bu HB.out)) : w.heap.size ≤ gb236)); clear HO_8; clear HB; have HO_8 := n0_; have HB := n1_; have BK236 := n2_; have GW236 := n3_; have GE236 := n4_; clear n0_ n1_ n2_ n3_ n4_; clear hb hbox hg; have hcz35_0 : w34.cell? ⟨gb236, 0, none⟩ = some (.int .i64 0) := (blk_cell BK236.out 0).trans rfl; have hcz35_1 : w34.cell? ⟨gb236, 1, none⟩ = some (.bool false) := (blk_cell BK236.out 1).trans rfl; have hfz35_0 := blk_frozen BK236.out 0; have hfz35_1 := blk_frozen BK236.out 1))
            have n0_ : Aside0 (Kd.R k30 30 ((w34.setCell ⟨gb236, 0, none⟩ (.int .i64 (wrap64 (((rd_T30 l0 x9_1).f0) + a1)))).setCell ⟨gb236, 1, none⟩ (.bool (x11_2 == 1))) w.heap.size (fun k_ => k_ ≠ gb236) u8 x8_2) := ⟨by (with_reducible repeat (first | apply Kd.R_alloc | apply Kd.R_drewN | apply Kd.R_drew)); exact Kd.R_mono (Kd.R_far (p := ⟨gb236, 1, none⟩) (Kd.R_far (p := ⟨gb236, 0, none⟩) (Kd.R_mono HO_8.out (fun k_ hk => (⟨hk, hk.2⟩ : _ ∧ k_ ≠ gb236))) (fun _ hk => hk.2) (.int .i64 (wrap64 (((rd_T30 l0 x9_1).f0) + a1)))) (fun _ hk => hk.2) (.bool (x11_2 == 1))) (fun _ hk => hk.1.2)⟩
            have n1_ : Aside0 (((w34.setCell ⟨gb236, 0, none⟩ (.int .i64 (wrap64 (((rd_T30 l0 x9_1).f0) + a1)))).setCell ⟨gb236, 1, none⟩ (.bool (x11_2 == 1))).heap[gb236]? = some (.cells #[.int .i64 (wrap64 (((rd_T30 l0 x9_1).f0) + a1)), .bool (x11_2 == 1)] 30 (0, 0))) := ⟨by (with_reducible repeat (first | refine blk_drewN ?_ _ | refine blk_drew ?_ | refine blk_alloc ?_ _)); refine blk_put (cs := #[.int .i64 (wrap64 (((rd_T30 l0 x9_1).f0) + a1)), .bool false]) ?_ 1 _ rfl; (with_reducible repeat (first | refine blk_drewN ?_ _ | refine blk_drew ?_ | refine blk_alloc ?_ _)); refine blk_put (cs := #[.int .i64 0, .bool false]) ?_ 0 _ rfl; (with_reducible repeat (first | refine blk_drewN ?_ _ | refine blk_drew ?_ | refine blk_alloc ?_ _)); exact BK236.out⟩
            have n2_ : Aside0 (Below w.heap.size w ((w34.setCell ⟨gb236, 0, none⟩ (.int .i64 (wrap64 (((rd_T30 l0 x9_1).f0) + a1)))).setCell ⟨gb236, 1, none⟩ (.bool (x11_2 == 1)))) := ⟨bu HB.out⟩
            (try clear HO_8)
            (try clear BK236)
            (try clear HB)
            generalize ((w34.setCell ⟨gb236, 0, none⟩ (.int .i64 (wrap64 (((rd_T30 l0 x9_1).f0) + a1)))).setCell ⟨gb236, 1, none⟩ (.bool (x11_2 == 1))) = w36 at n0_ n1_ n2_ ⊢
            have HO_8 := n0_
            have BK236 := n1_
            have HB := n2_
            clear n0_ n1_ n2_
            have n0_ := am (Kd.R_drew HO_8.out)
            have n1_ := am (blk_drew BK236.out)
            have n2_ := am (below_drew1 HB.out)
            clear HO_8
            clear BK236
            clear HB
            have HO_8 := n0_
            have BK236 := n1_
            have HB := n2_
            clear n0_ n1_ n2_
            refine start_ (n := 14) (S := fun w' => w'.cell? ⟨gb236, 0, none⟩ = some (.int .i64 (wrap64 (((rd_T30 l0 x9_1).f0) + a1))) ∧ w'.cell? ⟨gb236, 1, none⟩ = some (.bool (x11_2 == 1))) (ds := []) #[F,F,F,F,F,F,F,F,F,F,F,F,F,F] (by kernel_rfl) rfl rfl ⟨(blk_cell BK236.out 0).trans rfl, (blk_cell BK236.out 1).trans rfl⟩ (fun hHeld => ?_); refine with_tabW spec_l2Moved.tab10 spec_l2Moved.bits10 (fun HT_ HW_ => ?_)
            generalize w36.drew = w37 at HO_8 BK236 HB hHeld ⊢
            refine tz hHeld 0 (some 38) #[T,F,F,F,F,F,F,F,F,F,F,F,F,F] (take_ofW HT_.out HW_.out (by kernel_rfl)) (h := ?_)
            refine one_ (i := 1) (N := some 39) #[T,T,F,F,F,F,F,F,F,F,F,F,F,F] rfl rfl (one_of HT_.out (by kernel_rfl)) (by decide) (fun K hK => ?_)
            refine goes_ Tryd.func130 (by kernel_rfl) rfl #[.agg #[.int .i64 (wrap64 (((rd_T30 l0 x9_1).f0) + a1)), .bool (x11_2 == 1)]] (by rfl) rfl rfl (by (try simp only [List.map_toArray, List.map_cons, List.map_nil]); first | done | rfl | (simp only [List.length_drop, List.length_take]; rfl)) ?_
            with_reducible refine (spec_ToneValid.calls (wrap64 (((rd_T30 l0 x9_1).f0) + a1)) (x11_2 == 1) false _ A12.out).mono ?_
            rintro e w38 ⟨rfl, hb⟩
            refine ⟨_, rfl, ?_⟩
            have n0_ := am (Kd.R_below (ru HO_8.out) hb)
            have n1_ := am (blk_below (g := gb236) (o := .cells #[.int .i64 (wrap64 (((rd_T30 l0 x9_1).f0) + a1)), .bool (x11_2 == 1)] 30 (0, 0)) (gu BK236.out) hb)
            have n2_ := am (below_step (bu HB.out) hb)
            clear HO_8
            clear BK236
            clear HB
            have HO_8 := n0_
            have BK236 := n1_
            have HB := n2_
            clear n0_ n1_ n2_
            (try clear hb)
            (try clear hb2)
            (try clear hk)
            (try clear hi)
            refine hK.out _ _ ⟨(blk_cell BK236.out 0).trans rfl, (blk_cell BK236.out 1).trans rfl⟩ (fun hHeld => ?_)
            clear hK K
            refine norm_ (a' := ?_) ?_ ?_
            rotate_left
            ·show Act.put _ (some 39) _ = _
             simp only [Act.put, sA, sZ, sS, i64_w, i32_w]
             rfl
            refine pz 2 (some 40) #[T,T,T,F,F,F,F,F,F,F,F,F,F,F] (any_of HT_.out (by kernel_rfl)) (h := ?_)
            refine pv 3 (some 41) #[T,T,T,T,F,F,F,F,F,F,F,F,F,F] (any_of HT_.out (by kernel_rfl)) (h := ?_)
            refine pv 4 (some 42) #[T,T,T,T,T,F,F,F,F,F,F,F,F,F] (any_of HT_.out (by kernel_rfl)) (h := ?_)
            refine pv 5 (some 43) #[T,T,T,T,T,T,F,F,F,F,F,F,F,F] (any_of HT_.out (by kernel_rfl)) (h := ?_)
            refine pv 6 (some 44) #[T,T,T,T,T,T,T,F,F,F,F,F,F,F] (any_of HT_.out (by kernel_rfl)) (h := ?_)
            refine pv 7 (some 45) #[T,T,T,T,T,T,T,T,F,F,F,F,F,F] (any_of HT_.out (by kernel_rfl)) (h := ?_)
            refine pv 8 (some 46) #[T,T,T,T,T,T,T,T,T,F,F,F,F,F] (any_of HT_.out (by kernel_rfl)) (h := ?_)
            refine pv 9 (some 47) #[T,T,T,T,T,T,T,T,T,T,F,F,F,F] (any_of HT_.out (by kernel_rfl)) (h := ?_)
            refine pv 10 (some 48) #[T,T,T,T,T,T,T,T,T,T,T,F,F,F] (any_of HT_.out (by kernel_rfl)) (h := ?_)
            refine pv 11 (some 49) #[T,T,T,T,T,T,T,T,T,T,T,T,F,F] (any_of HT_.out (by kernel_rfl)) (h := ?_)
            refine pv 12 (some 50) #[T,T,T,T,T,T,T,T,T,T,T,T,T,F] (any_of HT_.out (by kernel_rfl)) (h := ?_)
            refine pz 13 (some 51) #[T,T,T,T,T,T,T,T,T,T,T,T,T,T] (any_of HT_.out (by kernel_rfl)) (h := ?_)
            refine done_ (done_of HT_.out (by kernel_rfl)) ?_
            try go_wp2
            go_roundg kj6
            case measure => have := HK1.out; have := HK2.out; have := HJ6.out; omega
            case rel => exact ⟨(x8_2), (x10_2), (wrap64 (x11_2 + 1)), (by first | rfl | (simp; done) | (simp [*]; done)), (by first | rfl | (simp; done) | (simp [*]; done)), H', ⟨by have := HK1.out; have := HK2.out; have := HJ6.out; omega⟩, ⟨by (with_reducible repeat (first | apply Kd.R_alloc | apply Kd.R_drewN | apply Kd.R_drew)); exact Kd.R_mono HO_8.out (fun _ hk => trivial)⟩, ⟨bu HB.out⟩⟩
          ·rw [if_neg c11] at H
           exact absurd H (by simp)
         ·rw [if_neg c10] at H
          exact absurd H (by simp)
        ·replace c9 := Bool.eq_false_iff.mpr c9
         subst c9
         have H1 : (if x10_2 = true then (spec_l2Moved.l0 kj6 l0 a1 a2 x8_2 (wrap64 (x9_1 + 1))) else (some ((([] : List (S30))), false))) = some (r1, r2) := by rw [if_neg (show ¬ (false = true) by decide)] at H; exact H
         clear H
         have H := H1
         clear H1
         by_cases c39 : x10_2 = true
         ·subst c39
          have H1 : (spec_l2Moved.l0 kj6 l0 a1 a2 x8_2 (wrap64 (x9_1 + 1))) = some (r1, r2) := by rw [if_pos rfl] at H; exact H
          clear H
          have H := H1
          clear H1
          have H' := am H
          clear H
          go_wp2
          go_roundg kj6
          case measure => have := HK1.out; have := HK2.out; have := HJ6.out; omega
          case rel => exact ⟨(x8_2), (wrap64 (x9_1 + 1)), (by first | rfl | (simp; done) | (simp [*]; done)), H', ⟨by have := HK1.out; have := HK2.out; have := HJ6.out; omega⟩, ⟨ru HO_8.out⟩, ⟨bu HB.out⟩⟩
         ·replace c39 := Bool.eq_false_iff.mpr c39
          subst c39
          have H1 : (some ((([] : List (S30))), false)) = some (r1, r2) := by rw [if_neg (show ¬ (false = true) by decide)] at H; exact H
          clear H
          have H := H1
          clear H1
          obtain ⟨y232, hy232⟩ : ∃ y_ : List (S30), y_ = (([] : List (S30))) := ⟨_, rfl⟩
          replace H : (some (y232, false)) = some (r1, r2) := by first | (rw [hy232]; with_reducible exact H) | (have H2_ := (Option.bind_some _ _).symm.trans H; rw [hy232]; with_reducible exact H2_) | (have H2_ := (Option.bind_some _ _).symm.trans H; with_reducible exact H2_) | with_reducible exact H | (rw [hy232]; exact H) | exact H
          have Ny232 := am hy232
          clear hy232
          simp only [Option.some.injEq, Prod.mk.injEq] at H
          obtain ⟨rfl, rfl⟩ := H
          go_wp2_with (first | ((with_reducible refine gate_dst (N := 58) rfl ?_); refine Kd.R_lit k30 _ 30 ?hg (N := 58) ?hd (xs := ([] : List (S30))) (inner := []) (ok := fun _ => True) (okp := fun _ => True) ?hr ?hp (fun _ hk => hk) trivial (Below.refl _ _) (Nat.le_refl _) (by simp) ?_; (case hd => rfl); (case hg => rfl); (case hr => first | (go_simp; done) | (go_simp; rfl)); (case hp => exact (Reps.none _ _)); intro v233 w40 ho41 hb hg_ hnew_; clear hg_ hnew_; (first | rw [← Ny232.out] at ho41 | (simp only [Int.reduceToNat] at ho41; rw [← Ny232.out] at ho41)); have n0_ := am (Kd.R_elder' (ru HO_8.out) (Kd.R_base ho41) hb); have n1_ := am (Kd.R_lower (Kd.R_new' ho41 (Kd.R_lt (ru HO_8.out))) (below_size (bu HB.out))); have n2_ := am (below_step (bu HB.out) hb); clear HO_8; clear HB; have HO_8 := n0_; have HO234 := n1_; have HB := n2_; clear n0_ n1_ n2_; clear hb ho41))
          go_ret2
          exact ⟨_, by first | rfl | (simp [errW_none, errW_some] <;> rfl) | (simp [*, errW_none, errW_some] <;> rfl), by (with_reducible repeat (first | apply Kd.R_alloc | apply Kd.R_drewN | apply Kd.R_drew)); exact Kd.R_mono HO234.out (fun _ hk => trivial), bu HB.out⟩
   ·rw [if_neg c6] at H
    have c6b0 : decide (x9_1 < (l0.length : Int)) = false := decide_eq_false c6
    clear c6
    simp only [Option.some.injEq, Prod.mk.injEq] at H
    obtain ⟨rfl, rfl⟩ := H
    go_wp2
    go_ret2
    exact ⟨_, by first | rfl | (simp [errW_none, errW_some] <;> rfl) | (simp [*, errW_none, errW_some] <;> rfl), ru HO_8.out, bu HB.out⟩

end Go.Proofs.YtcndojoghmblaaaDoor.GD
