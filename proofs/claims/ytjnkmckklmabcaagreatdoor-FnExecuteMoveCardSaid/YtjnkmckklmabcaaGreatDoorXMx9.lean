-- Made by this session's gprint.py out of the translation. Not trusted: Lean checks it.
import Derived.Test.YtjnkmckklmabcaaGreatDoorXMx0
import Derived.Test.YtjnkmckklmabcaaGreatDoorXMx8
namespace Go.Proofs.YtjnkmckklmabcaaGreatDoor.XM
open Go.RowKit Go.Proofs.YtjnkmckklmabcaaGreatDoorW.PrintWords Go.Proofs.YtjnkmckklmabcaaGreatDoorW.PrintLast Go.Proofs.YtjnkmckklmabcaaGreatDoorW.PrintMore
attribute [local go_sem] max2_int min2_int max_two min_two max_three min_three max_four min_four   -- for this text's walks alone
set_option linter.unusedVariables false
set_option linter.unusedSimpArgs false

/-! ### spec_l2Moved: function 59 -/
mutual
def spec_l2Moved.l0 : Nat → List (S74) → Int → Int → List (S74) → Int → Option ((List (S74)) × Bool)
 | 0, _, _, _, _, _ => none
 | k + 1, x0, x1, x2, x8, x9 => if x9 < (x0.length : Int) then (spec_l2Moved.l1 k x0 x1 x2 x8 x9 false 0) else (some (x8, true))
def spec_l2Moved.l1 : Nat → List (S74) → Int → Int → List (S74) → Int → Bool → Int → Option ((List (S74)) × Bool)
 | 0, _, _, _, _, _, _, _ => none
 | k + 1, x0, x1, x2, x8, x9, x10, x11 => if x11 < 2 then (spec_l2Moved.j2 k x0 x1 x2 x8 x9 x10 x11 (!x10)) else (spec_l2Moved.j2 k x0 x1 x2 x8 x9 x10 x11 false)
def spec_l2Moved.j2 : Nat → List (S74) → Int → Int → List (S74) → Int → Bool → Int → Bool → Option ((List (S74)) × Bool)
 | 0, _, _, _, _, _, _, _, _ => none
 | k + 1, x0, x1, x2, x8, x9, x10, x11, x25 => if x25 = true then (if 0 ≤ x9 then (if x9 < (x0.length : Int) then ((spec_ToneValid.f (wrap64 (((rd_T74 x0 x9).f0) + x1)) (x11 == 1)).bind fun t204 => (if t204 = true then ((spec_l1Height.f (wrap64 (((rd_T74 x0 x9).f0) + x1)) (x11 == 1)).bind fun t205 => ((spec_l1Height.f ((rd_T74 x0 x9).f0) ((rd_T74 x0 x9).f1)).bind fun t207 => (if (wrap64 (t205 - t207)) = x2 then (if x8.length < 8796093022208 then (spec_l2Moved.l1 k x0 x1 x2 (x8 ++ [(⟨wrap64 (((rd_T74 x0 x9).f0) + x1), (x11 == 1)⟩ : S74)]) x9 true (wrap64 (x11 + 1))) else (none)) else (spec_l2Moved.l1 k x0 x1 x2 x8 x9 x10 (wrap64 (x11 + 1)))))) else (spec_l2Moved.l1 k x0 x1 x2 x8 x9 x10 (wrap64 (x11 + 1))))) else (none)) else (none)) else (if x10 = true then (spec_l2Moved.l0 k x0 x1 x2 x8 (wrap64 (x9 + 1))) else (some ((([] : List (S74))), false)))
end
def spec_l2Moved.f (k : Nat) (l0 : List (S74)) (a1 : Int) (a2 : Int) : Option ((List (S74)) × Bool) := spec_l2Moved.l0 k l0 a1 a2 (([] : List (S74))) 0
def spec_l2Moved.T10 : Bool × List (List Nat × List Nat) := (true, [([], []), ([0], [0]), ([1, 1], [1]), ([2], [2]), ([3, 2, 2], [2, 3]), ([2], [2]), ([2], [2]), ([5, 6, 2], [2, 5, 6]), ([7, 2], [2, 7]), ([8, 4, 2], [2, 8]), ([4, 9, 2], [2, 4, 9]), ([2], [2]), ([10, 11, 2], [2, 10, 11]), ([2, 12], [2, 12])])
def spec_l2Moved.B10 : List Nat := [0, 1, 3, 7, 15, 7, 7, 103, 231, 511, 1023, 7, 4095, 8191]
theorem spec_l2Moved.tab10 : rtab .any (opsOf Tryz.f59 10) = spec_l2Moved.T10 := by kernel_rfl
theorem spec_l2Moved.bits10 : waitsOk spec_l2Moved.T10.2 spec_l2Moved.B10 = true := by kernel_rfl
set_option maxHeartbeats 8000000 in
set_option maxRecDepth 100000 in
theorem spec_l2Moved.calls (k : Nat) (A0 : Option Addr) (c0 : Nat) (l0 : List (S74)) (a1 : Int) (a2 : Int) (r1 : List (S74)) (r2 : Bool) (w : World) (hr0 : Kd.C k74 w A0 l0.length l0) (hc0 : l0.length ≤ c0) (h : spec_l2Moved.f k l0 a1 a2 = some (r1, r2)) :
  Calls Tryz.prog 59 #[.slice A0 l0.length c0, .int .i64 a1, .int .i64 a2] w fun e w' => ∃ v0_ : Value, e = .returned (.tuple #[v0_, .bool r2]) ∧ Kd.R k74 74 w' w.heap.size (fun _ => True) v0_ r1 ∧ Below w.heap.size w w' := by
 have hu74 := Tryz.underlying74
 have HR0 := am hr0
 have HC0 := am hc0
 clear hr0 hc0
 have HB := am (Below.refl w.heap.size w)
 have H : (spec_l2Moved.l0 k l0 a1 a2 (([] : List (S74))) 0) = some (r1, r2) := h
 clear h
 obtain ⟨y196, hy196⟩ : ∃ y_ : List (S74), y_ = (([] : List (S74))) := ⟨_, rfl⟩
 replace H : (spec_l2Moved.l0 k l0 a1 a2 y196 0) = some (r1, r2) := by first | (rw [hy196]; with_reducible exact H) | (have H2_ := (Option.bind_some _ _).symm.trans H; rw [hy196]; with_reducible exact H2_) | (have H2_ := (Option.bind_some _ _).symm.trans H; with_reducible exact H2_) | with_reducible exact H | (rw [hy196]; exact H) | exact H
 have Ny196 := am hy196
 clear hy196
 have H' := am H
 clear H
 go_enter Tryz.func59, Tryz.ntmps59
 go_wp2_with (first | ((with_reducible refine gate_dst (N := 13) rfl ?_); refine Kd.R_lit k74 _ 74 ?hg (N := 13) ?hd (xs := ([] : List (S74))) (inner := []) (ok := fun _ => True) (okp := fun _ => True) ?hr ?hp (fun _ hk => hk) trivial (Below.refl _ _) (Nat.le_refl _) (by simp) ?_; (case hd => rfl); (case hg => rfl); (case hr => first | (go_simp; done) | (go_simp; rfl)); (case hp => exact (Reps.none _ _)); intro v197 w4 ho5 hb hg_ hnew_; clear hg_ hnew_; (first | rw [← Ny196.out] at ho5 | (simp only [Int.reduceToNat] at ho5; rw [← Ny196.out] at ho5)); have n0_ := am (Kd.R_lower ho5 (below_size (bu HB.out))); have n1_ := am (below_step (bu HB.out) hb); clear HB; have HO198 := n0_; have HB := n1_; clear n0_ n1_; clear hb ho5))
 go_loopg [8, 9] k (fun kq v8 v9 w' => ∃ (x8_1 : List (S74)) (x9_1 : Int), v9 = .int .i64 x9_1 ∧ Aside0 (spec_l2Moved.l0 kq l0 a1 a2 x8_1 x9_1 = some (r1, r2)) ∧ Aside0 (kq ≤ k) ∧ Aside0 (Kd.R k74 74 w' w.heap.size (fun _ => True) v8 x8_1) ∧ Aside0 (Below w.heap.size w w'))
 case atStart => exact ⟨(y196), (0), (by first | rfl | (simp; done) | (simp [*]; done)), H', ⟨Nat.le_refl _⟩, ⟨ru HO198.out⟩, ⟨bu HB.out⟩⟩
 case round =>
  clear H'
  try clear p2
  try clear c5
  obtain ⟨x8_1, x9_1, rfl, HA, HK1, HO_8, HB⟩ := hrel
  cases gk with
  | zero => exact absurd HA.out (by simp [spec_l2Moved.l0])
  | succ k1 =>
   have H := HA.out
   clear HA
   simp only [spec_l2Moved.l0] at H
   by_cases c6 : x9_1 < (l0.length : Int)
   ·rw [if_pos c6] at H
    have c6b0 : decide (x9_1 < (l0.length : Int)) = true := decide_eq_true c6
    clear c6
    have H' := am H
    clear H
    go_wp2
    go_loopg [8, 10, 11] k1 (fun kq v8 v10 v11 w' => ∃ (x8_2 : List (S74)) (x10_2 : Bool) (x11_2 : Int), v10 = .bool x10_2 ∧ v11 = .int .i64 x11_2 ∧ Aside0 (spec_l2Moved.l1 kq l0 a1 a2 x8_2 x9_1 x10_2 x11_2 = some (r1, r2)) ∧ Aside0 (kq ≤ k1) ∧ Aside0 (Kd.R k74 74 w' w.heap.size (fun _ => True) v8 x8_2) ∧ Aside0 (Below w.heap.size w w'))
    case atStart => exact ⟨(x8_1), (false), (0), (by first | rfl | (simp; done) | (simp [*]; done)), (by first | rfl | (simp; done) | (simp [*]; done)), H', ⟨Nat.le_refl _⟩, ⟨ru HO_8.out⟩, ⟨bu HB.out⟩⟩
    case round =>
     clear H'
     try clear p2
     try clear c5
     try clear c6
     try clear c6b0
     try clear p2
     obtain ⟨x8_2, x10_2, x11_2, rfl, rfl, HA, HK2, HO_8, HB⟩ := hrel
     cases gk with
     | zero => exact absurd HA.out (by simp [spec_l2Moved.l1])
     | succ k2 =>
      have H := HA.out
      clear HA
      simp only [spec_l2Moved.l1] at H
      have HC7 := am H
      clear H
      go_upto_region 7 with (fail)
      go_cut [25] (fun v25 wc => ∃ (kq : Nat) (x25_6 : Bool), v25 = .bool x25_6 ∧ Aside0 (spec_l2Moved.j2 kq l0 a1 a2 x8_2 x9_1 x10_2 x11_2 x25_6 = some (r1, r2)) ∧ Aside0 (kq ≤ k2) ∧ Aside0 (Kd.R k74 74 wc w.heap.size (fun _ => True) u8 x8_2) ∧ Aside0 (Below w.heap.size w wc))
      case first =>
       have H := HC7.out
       clear HC7
       by_cases c8 : x11_2 < 2
       ·rw [if_pos c8] at H
        have c8b0 : decide (x11_2 < 2) = true := decide_eq_true c8
        clear c8
        (first | rw [c8b0] | (simp only [i64_w, i32_w]; rw [c8b0]) | skip)
        have H' := am H
        clear H
        go_wp2
        go_meet
        case rel => exact ⟨_, (!x10_2), (by first | rfl | (simp; done) | (simp [*]; done)), H', ⟨by have := HK1.out; have := HK2.out; first | omega | exact Nat.le_refl _⟩, ⟨ru HO_8.out⟩, ⟨bu HB.out⟩⟩
       ·rw [if_neg c8] at H
        have c8b0 : decide (x11_2 < 2) = false := decide_eq_false c8
        clear c8
        (first | rw [c8b0] | (simp only [i64_w, i32_w]; rw [c8b0]) | skip)
        have H' := am H
        clear H
        go_wp2
        go_meet
        case rel => exact ⟨_, (false), (by first | rfl | (simp; done) | (simp [*]; done)), H', ⟨by have := HK1.out; have := HK2.out; first | omega | exact Nat.le_refl _⟩, ⟨ru HO_8.out⟩, ⟨bu HB.out⟩⟩
      case rest =>
       clear HC7
       try clear p2
       try clear c5
       try clear c6
       try clear c6b0
       try clear c8
       try clear c8b0
       try clear p2
       obtain ⟨kq, x25_6, rfl, HA, HJ6, HO_8, HB⟩ := hcut
       cases kq with
       | zero => exact absurd HA.out (by simp [spec_l2Moved.j2])
       | succ kj6 =>
        have H := HA.out
        clear HA
        simp only [spec_l2Moved.j2] at H
        by_cases c9 : x25_6 = true
        ·subst c9
         have H1 : (if 0 ≤ x9_1 then (if x9_1 < (l0.length : Int) then ((spec_ToneValid.f (wrap64 (((rd_T74 l0 x9_1).f0) + a1)) (x11_2 == 1)).bind fun t204 => (if t204 = true then ((spec_l1Height.f (wrap64 (((rd_T74 l0 x9_1).f0) + a1)) (x11_2 == 1)).bind fun t205 => ((spec_l1Height.f ((rd_T74 l0 x9_1).f0) ((rd_T74 l0 x9_1).f1)).bind fun t207 => (if (wrap64 (t205 - t207)) = a2 then (if x8_2.length < 8796093022208 then (spec_l2Moved.l1 kj6 l0 a1 a2 (x8_2 ++ [(⟨wrap64 (((rd_T74 l0 x9_1).f0) + a1), (x11_2 == 1)⟩ : S74)]) x9_1 true (wrap64 (x11_2 + 1))) else (none)) else (spec_l2Moved.l1 kj6 l0 a1 a2 x8_2 x9_1 x10_2 (wrap64 (x11_2 + 1)))))) else (spec_l2Moved.l1 kj6 l0 a1 a2 x8_2 x9_1 x10_2 (wrap64 (x11_2 + 1))))) else (none)) else (none)) = some (r1, r2) := by rw [if_pos rfl] at H; exact H
         clear H
         have H := H1
         clear H1
         by_cases c10 : 0 ≤ x9_1
         ·rw [if_pos c10] at H
          have c10b0 : decide (0 ≤ x9_1) = true := decide_eq_true c10
          clear c10
          by_cases c11 : x9_1 < (l0.length : Int)
          ·rw [if_pos c11] at H
           have c11b0 : decide (x9_1 < (l0.length : Int)) = true := decide_eq_true c11
           clear c11
           replace H := Option.bind_eq_some_iff.mp H
           obtain ⟨t204, A120, H⟩ := H
           replace H : (if t204 = true then ((spec_l1Height.f (wrap64 (((rd_T74 l0 x9_1).f0) + a1)) (x11_2 == 1)).bind fun t205 => ((spec_l1Height.f ((rd_T74 l0 x9_1).f0) ((rd_T74 l0 x9_1).f1)).bind fun t207 => (if (wrap64 (t205 - t207)) = a2 then (if x8_2.length < 8796093022208 then (spec_l2Moved.l1 kj6 l0 a1 a2 (x8_2 ++ [(⟨wrap64 (((rd_T74 l0 x9_1).f0) + a1), (x11_2 == 1)⟩ : S74)]) x9_1 true (wrap64 (x11_2 + 1))) else (none)) else (spec_l2Moved.l1 kj6 l0 a1 a2 x8_2 x9_1 x10_2 (wrap64 (x11_2 + 1)))))) else (spec_l2Moved.l1 kj6 l0 a1 a2 x8_2 x9_1 x10_2 (wrap64 (x11_2 + 1)))) = some (r1, r2) := H
           have A12 := am A120
           clear A120
           by_cases c13 : t204 = true
           ·subst c13
            have H1 : ((spec_l1Height.f (wrap64 (((rd_T74 l0 x9_1).f0) + a1)) (x11_2 == 1)).bind fun t205 => ((spec_l1Height.f ((rd_T74 l0 x9_1).f0) ((rd_T74 l0 x9_1).f1)).bind fun t207 => (if (wrap64 (t205 - t207)) = a2 then (if x8_2.length < 8796093022208 then (spec_l2Moved.l1 kj6 l0 a1 a2 (x8_2 ++ [(⟨wrap64 (((rd_T74 l0 x9_1).f0) + a1), (x11_2 == 1)⟩ : S74)]) x9_1 true (wrap64 (x11_2 + 1))) else (none)) else (spec_l2Moved.l1 kj6 l0 a1 a2 x8_2 x9_1 x10_2 (wrap64 (x11_2 + 1)))))) = some (r1, r2) := by rw [if_pos rfl] at H; exact H
            clear H
            have H := H1
            clear H1
            replace H := Option.bind_eq_some_iff.mp H
            obtain ⟨t205, A140, H⟩ := H
            replace H : ((spec_l1Height.f ((rd_T74 l0 x9_1).f0) ((rd_T74 l0 x9_1).f1)).bind fun t207 => (if (wrap64 (t205 - t207)) = a2 then (if x8_2.length < 8796093022208 then (spec_l2Moved.l1 kj6 l0 a1 a2 (x8_2 ++ [(⟨wrap64 (((rd_T74 l0 x9_1).f0) + a1), (x11_2 == 1)⟩ : S74)]) x9_1 true (wrap64 (x11_2 + 1))) else (none)) else (spec_l2Moved.l1 kj6 l0 a1 a2 x8_2 x9_1 x10_2 (wrap64 (x11_2 + 1))))) = some (r1, r2) := H
            have A14 := am A140
            clear A140
            replace H := Option.bind_eq_some_iff.mp H
            obtain ⟨t207, A150, H⟩ := H
            replace H : (if (wrap64 (t205 - t207)) = a2 then (if x8_2.length < 8796093022208 then (spec_l2Moved.l1 kj6 l0 a1 a2 (x8_2 ++ [(⟨wrap64 (((rd_T74 l0 x9_1).f0) + a1), (x11_2 == 1)⟩ : S74)]) x9_1 true (wrap64 (x11_2 + 1))) else (none)) else (spec_l2Moved.l1 kj6 l0 a1 a2 x8_2 x9_1 x10_2 (wrap64 (x11_2 + 1)))) = some (r1, r2) := H
            have A15 := am A150
            clear A150
            by_cases c16 : (wrap64 (t205 - t207)) = a2
            ·rw [if_pos c16] at H
             have c16b0 : ((wrap64 (t205 - t207)) == a2) = true := beq_iff_eq.mpr c16
             have c16b1 : ((wrap64 (t205 - t207)) != a2) = false := bne_eq_false_iff_eq.mpr c16
             clear c16
             by_cases c17 : x8_2.length < 8796093022208
             ·rw [if_pos c17] at H
              have LMc17 := am c17
              clear c17
              obtain ⟨y208, hy208⟩ : ∃ y_ : List (S74), y_ = (x8_2 ++ [(⟨wrap64 (((rd_T74 l0 x9_1).f0) + a1), (x11_2 == 1)⟩ : S74)]) := ⟨_, rfl⟩
              replace H : (spec_l2Moved.l1 kj6 l0 a1 a2 y208 x9_1 true (wrap64 (x11_2 + 1))) = some (r1, r2) := by first | (rw [hy208]; with_reducible exact H) | (have H2_ := (Option.bind_some _ _).symm.trans H; rw [hy208]; with_reducible exact H2_) | (have H2_ := (Option.bind_some _ _).symm.trans H; with_reducible exact H2_) | with_reducible exact H | (rw [hy208]; exact H) | exact H
              have Ny208 := am hy208
              clear hy208
              have H' := am H
              clear H
              have p202 : 0 ≤ (x9_1 : Int) := od
              have q202 : x9_1 < (l0.length : Int) := od
              obtain ⟨ad202, e202, hx202_0, hx202_1⟩ := at_T74 HR0.out x9_1 p202 q202
              cases e202
              replace hx202_0 := (HB.out.cell (World.block_lt_of_cell? w _ hx202_0)).trans hx202_0
              replace hx202_1 := (HB.out.cell (World.block_lt_of_cell? w _ hx202_1)).trans hx202_1
              replace p202 := eq_true p202
              replace q202 := eq_true q202
              try go_wp2_with (first | ((with_reducible refine gate_dst (N := 12) rfl ?_); refine box_event ?hg (N := 12) ?hd (cs := #[.int .i64 0, .bool false]) (t := 74) ?hr ?_; (case hd => rfl); (case hg => rfl); (case hr => first | (go_simp; done) | (go_simp; rfl)); intro gb203 hg w18 hbox hb; have n0_ := am (Kd.R_below (Kd.R_elderB (ru HO_8.out) gb203 (Nat.le_of_eq hg.symm)) hb); have n1_ := am (below_step (bu HB.out) hb); have n2_ := am (hbox); have n3_ := am ((by rw [hg]; exact (below_size (bu HB.out)) : w.heap.size ≤ gb203)); have n4_ := am ((by rw [hg]; exact (below_size (bu HB.out)) : w.heap.size ≤ gb203)); clear HO_8; clear HB; have HO_8 := n0_; have HB := n1_; have BK203 := n2_; have GW203 := n3_; have GE203 := n4_; clear n0_ n1_ n2_ n3_ n4_; clear hb hbox hg; have hcz19_0 : w18.cell? ⟨gb203, 0, none⟩ = some (.int .i64 0) := (blk_cell BK203.out 0).trans rfl; have hcz19_1 : w18.cell? ⟨gb203, 1, none⟩ = some (.bool false) := (blk_cell BK203.out 1).trans rfl; have hfz19_0 := blk_frozen BK203.out 0; have hfz19_1 := blk_frozen BK203.out 1))
              have n0_ : Aside0 (Kd.R k74 74 ((w18.setCell ⟨gb203, 0, none⟩ (.int .i64 (wrap64 (((rd_T74 l0 x9_1).f0) + a1)))).setCell ⟨gb203, 1, none⟩ (.bool (x11_2 == 1))) w.heap.size (fun k_ => k_ ≠ gb203) u8 x8_2) := ⟨by (with_reducible repeat (first | apply Kd.R_alloc | apply Kd.R_drewN | apply Kd.R_drew)); exact Kd.R_mono (Kd.R_far (p := ⟨gb203, 1, none⟩) (Kd.R_far (p := ⟨gb203, 0, none⟩) (Kd.R_mono HO_8.out (fun k_ hk => (⟨hk, hk.2⟩ : _ ∧ k_ ≠ gb203))) (fun _ hk => hk.2) (.int .i64 (wrap64 (((rd_T74 l0 x9_1).f0) + a1)))) (fun _ hk => hk.2) (.bool (x11_2 == 1))) (fun _ hk => hk.1.2)⟩
              have n1_ : Aside0 (((w18.setCell ⟨gb203, 0, none⟩ (.int .i64 (wrap64 (((rd_T74 l0 x9_1).f0) + a1)))).setCell ⟨gb203, 1, none⟩ (.bool (x11_2 == 1))).heap[gb203]? = some (.cells #[.int .i64 (wrap64 (((rd_T74 l0 x9_1).f0) + a1)), .bool (x11_2 == 1)] 74 (0, 0))) := ⟨by (with_reducible repeat (first | refine blk_drewN ?_ _ | refine blk_drew ?_ | refine blk_alloc ?_ _)); refine blk_put (cs := #[.int .i64 (wrap64 (((rd_T74 l0 x9_1).f0) + a1)), .bool false]) ?_ 1 _ rfl; (with_reducible repeat (first | refine blk_drewN ?_ _ | refine blk_drew ?_ | refine blk_alloc ?_ _)); refine blk_put (cs := #[.int .i64 0, .bool false]) ?_ 0 _ rfl; (with_reducible repeat (first | refine blk_drewN ?_ _ | refine blk_drew ?_ | refine blk_alloc ?_ _)); exact BK203.out⟩
              have n2_ : Aside0 (Below w.heap.size w ((w18.setCell ⟨gb203, 0, none⟩ (.int .i64 (wrap64 (((rd_T74 l0 x9_1).f0) + a1)))).setCell ⟨gb203, 1, none⟩ (.bool (x11_2 == 1)))) := ⟨bu HB.out⟩
              (try clear HO_8)
              (try clear BK203)
              (try clear HB)
              generalize ((w18.setCell ⟨gb203, 0, none⟩ (.int .i64 (wrap64 (((rd_T74 l0 x9_1).f0) + a1)))).setCell ⟨gb203, 1, none⟩ (.bool (x11_2 == 1))) = w20 at n0_ n1_ n2_ ⊢
              have HO_8 := n0_
              have BK203 := n1_
              have HB := n2_
              clear n0_ n1_ n2_
              have n0_ := am (Kd.R_drew HO_8.out)
              have n1_ := am (blk_drew BK203.out)
              have n2_ := am (below_drew1 HB.out)
              clear HO_8
              clear BK203
              clear HB
              have HO_8 := n0_
              have BK203 := n1_
              have HB := n2_
              clear n0_ n1_ n2_
              have p206 : 0 ≤ (x9_1 : Int) := od
              have q206 : x9_1 < (l0.length : Int) := od
              obtain ⟨ad206, e206, hx206_0, hx206_1⟩ := at_T74 HR0.out x9_1 p206 q206
              have hw206_1 := hx206_1
              have hw206_0 := hx206_0
              obtain rfl : ad202 = ad206 := (by injection e206)
              replace hx206_0 := (HB.out.cell (World.block_lt_of_cell? w _ hx206_0)).trans hx206_0
              replace hx206_1 := (HB.out.cell (World.block_lt_of_cell? w _ hx206_1)).trans hx206_1
              replace p206 := eq_true p206
              replace q206 := eq_true q206
              refine start_ (n := 14) (S := fun w' => w'.cell? ⟨gb203, 0, none⟩ = some (.int .i64 (wrap64 (((rd_T74 l0 x9_1).f0) + a1))) ∧ w'.cell? ⟨gb203, 1, none⟩ = some (.bool (x11_2 == 1)) ∧ w'.cell? (ad202.add ((x9_1).toNat * 2)) = some (.int .i64 ((rd_T74 l0 x9_1).f0)) ∧ w'.cell? ⟨(ad202.add ((x9_1).toNat * 2)).block, (ad202.add ((x9_1).toNat * 2)).off + 1, none⟩ = some (.bool ((rd_T74 l0 x9_1).f1))) (ds := []) #[F,F,F,F,F,F,F,F,F,F,F,F,F,F] (by kernel_rfl) rfl rfl ⟨(blk_cell BK203.out 0).trans rfl, (blk_cell BK203.out 1).trans rfl, ((HB.out.cell (World.block_lt_of_cell? w _ hw206_0)).trans hw206_0), ((HB.out.cell (World.block_lt_of_cell? w _ hw206_1)).trans hw206_1)⟩ (fun hHeld => ?_); refine with_tabW spec_l2Moved.tab10 spec_l2Moved.bits10 (fun HT_ HW_ => ?_)
              generalize w20.drew = w21 at HO_8 BK203 HB hx206_0 hx206_1 hHeld ⊢
              refine tz hHeld 0 (some 38) #[T,F,F,F,F,F,F,F,F,F,F,F,F,F] (take_ofW HT_.out HW_.out (by kernel_rfl)) (h := ?_)
              refine one_ (i := 1) (N := some 39) #[T,T,F,F,F,F,F,F,F,F,F,F,F,F] rfl rfl (one_of HT_.out (by kernel_rfl)) (by decide) (fun K hK => ?_)
              refine goes_ Tryz.func58 (by kernel_rfl) rfl #[.agg #[.int .i64 (wrap64 (((rd_T74 l0 x9_1).f0) + a1)), .bool (x11_2 == 1)]] (by rfl) rfl rfl (by (try simp only [List.map_toArray, List.map_cons, List.map_nil]); first | done | rfl | (simp only [List.length_drop, List.length_take]; rfl)) ?_
              with_reducible refine (spec_ToneValid.calls (wrap64 (((rd_T74 l0 x9_1).f0) + a1)) (x11_2 == 1) true _ A12.out).mono ?_
              rintro e w22 ⟨rfl, hb⟩
              refine ⟨_, rfl, ?_⟩
              have n0_ := am (Kd.R_below (ru HO_8.out) hb)
              have n1_ := am (blk_below (g := gb203) (o := .cells #[.int .i64 (wrap64 (((rd_T74 l0 x9_1).f0) + a1)), .bool (x11_2 == 1)] 74 (0, 0)) (gu BK203.out) hb)
              have n2_ := am (below_step (bu HB.out) hb)
              clear HO_8
              clear BK203
              clear HB
              have HO_8 := n0_
              have BK203 := n1_
              have HB := n2_
              clear n0_ n1_ n2_
              (try clear hb)
              (try clear hb2)
              (try clear hk)
              (try clear hi)
              refine hK.out _ _ ⟨(blk_cell BK203.out 0).trans rfl, (blk_cell BK203.out 1).trans rfl, ((HB.out.cell (World.block_lt_of_cell? w _ hw206_0)).trans hw206_0), ((HB.out.cell (World.block_lt_of_cell? w _ hw206_1)).trans hw206_1)⟩ (fun hHeld => ?_)
              clear hK K
              refine norm_ (a' := ?_) ?_ ?_
              rotate_left
              ·show Act.put _ (some 39) _ = _
               simp only [Act.put, sA, sZ, sS, i64_w, i32_w]
               rfl
              refine pz 2 (some 40) #[T,T,T,F,F,F,F,F,F,F,F,F,F,F] (any_of HT_.out (by kernel_rfl)) (h := ?_)
              refine pz 5 (some 43) #[T,T,T,F,F,T,F,F,F,F,F,F,F,F] (any_of HT_.out (by kernel_rfl)) (h := ?_)
              refine pz 6 (some 44) #[T,T,T,F,F,T,T,F,F,F,F,F,F,F] (any_of HT_.out (by kernel_rfl)) (h := ?_)
              refine pz 7 (some 45) #[T,T,T,F,F,T,T,T,F,F,F,F,F,F] (any_of HT_.out (by kernel_rfl)) (h := ?_)
              refine pz 11 (some 49) #[T,T,T,F,F,T,T,T,F,F,F,T,F,F] (any_of HT_.out (by kernel_rfl)) (h := ?_)
              refine tz hHeld 3 (some 41) #[T,T,T,T,F,T,T,T,F,F,F,T,F,F] (take_ofW HT_.out HW_.out (by kernel_rfl)) (h := ?_)
              refine tz hHeld 8 (some 46) #[T,T,T,T,F,T,T,T,T,F,F,T,F,F] (take_ofW HT_.out HW_.out (by kernel_rfl)) (h := ?_)
              refine one_ (i := 4) (N := some 42) #[T,T,T,T,T,T,T,T,T,F,F,T,F,F] rfl rfl (one_of HT_.out (by kernel_rfl)) (by decide) (fun K hK => ?_)
              refine goes_ Tryz.func60 (by kernel_rfl) rfl #[.agg #[.int .i64 (wrap64 (((rd_T74 l0 x9_1).f0) + a1)), .bool (x11_2 == 1)]] (by rfl) rfl rfl (by (try simp only [List.map_toArray, List.map_cons, List.map_nil]); first | done | rfl | (simp only [List.length_drop, List.length_take]; rfl)) ?_
              with_reducible refine (spec_l1Height.calls (wrap64 (((rd_T74 l0 x9_1).f0) + a1)) (x11_2 == 1) t205 _ A14.out).mono ?_
              rintro e w23 ⟨rfl, hb⟩
              refine ⟨_, rfl, ?_⟩
              have n0_ := am (Kd.R_below (ru HO_8.out) hb)
              have n1_ := am (blk_below (g := gb203) (o := .cells #[.int .i64 (wrap64 (((rd_T74 l0 x9_1).f0) + a1)), .bool (x11_2 == 1)] 74 (0, 0)) (gu BK203.out) hb)
              have n2_ := am (below_step (bu HB.out) hb)
              clear HO_8
              clear BK203
              clear HB
              have HO_8 := n0_
              have BK203 := n1_
              have HB := n2_
              clear n0_ n1_ n2_
              (try clear hb)
              (try clear hb2)
              (try clear hk)
              (try clear hi)
              refine hK.out _ _ ⟨(blk_cell BK203.out 0).trans rfl, (blk_cell BK203.out 1).trans rfl, ((HB.out.cell (World.block_lt_of_cell? w _ hw206_0)).trans hw206_0), ((HB.out.cell (World.block_lt_of_cell? w _ hw206_1)).trans hw206_1)⟩ (fun hHeld => ?_)
              clear hK K
              refine norm_ (a' := ?_) ?_ ?_
              rotate_left
              ·show Act.put _ (some 42) _ = _
               simp only [Act.put, sA, sZ, sS, i64_w, i32_w]
               rfl
              refine one_ (i := 9) (N := some 47) #[T,T,T,T,T,T,T,T,T,T,F,T,F,F] rfl rfl (one_of HT_.out (by kernel_rfl)) (by decide) (fun K hK => ?_)
              refine goes_ Tryz.func60 (by kernel_rfl) rfl #[.agg #[.int .i64 ((rd_T74 l0 x9_1).f0), .bool ((rd_T74 l0 x9_1).f1)]] (by rfl) rfl rfl (by (try simp only [List.map_toArray, List.map_cons, List.map_nil]); first | done | rfl | (simp only [List.length_drop, List.length_take]; rfl)) ?_
              with_reducible refine (spec_l1Height.calls ((rd_T74 l0 x9_1).f0) ((rd_T74 l0 x9_1).f1) t207 _ A15.out).mono ?_
              rintro e w24 ⟨rfl, hb⟩
              refine ⟨_, rfl, ?_⟩
              have n0_ := am (Kd.R_below (ru HO_8.out) hb)
              have n1_ := am (blk_below (g := gb203) (o := .cells #[.int .i64 (wrap64 (((rd_T74 l0 x9_1).f0) + a1)), .bool (x11_2 == 1)] 74 (0, 0)) (gu BK203.out) hb)
              have n2_ := am (below_step (bu HB.out) hb)
              clear HO_8
              clear BK203
              clear HB
              have HO_8 := n0_
              have BK203 := n1_
              have HB := n2_
              clear n0_ n1_ n2_
              (try clear hb)
              (try clear hb2)
              (try clear hk)
              (try clear hi)
              refine hK.out _ _ ⟨(blk_cell BK203.out 0).trans rfl, (blk_cell BK203.out 1).trans rfl, ((HB.out.cell (World.block_lt_of_cell? w _ hw206_0)).trans hw206_0), ((HB.out.cell (World.block_lt_of_cell? w _ hw206_1)).trans hw206_1)⟩ (fun hHeld => ?_)
              clear hK K
              refine norm_ (a' := ?_) ?_ ?_
              rotate_left
              ·show Act.put _ (some 47) _ = _
               simp only [Act.put, sA, sZ, sS, i64_w, i32_w]
               rfl
              refine pz 10 (some 48) #[T,T,T,T,T,T,T,T,T,T,T,T,F,F] (any_of HT_.out (by kernel_rfl)) (h := ?_)
              refine pz 12 (some 50) #[T,T,T,T,T,T,T,T,T,T,T,T,T,F] (any_of HT_.out (by kernel_rfl)) (h := ?_)
              refine pz 13 (some 51) #[T,T,T,T,T,T,T,T,T,T,T,T,T,T] (any_of HT_.out (by kernel_rfl)) (h := ?_)
              refine done_ (done_of HT_.out (by kernel_rfl)) ?_
              have hcz25_0 : w24.cell? ⟨gb203, 0, none⟩ = some (.int .i64 (wrap64 (((rd_T74 l0 x9_1).f0) + a1))) := (blk_cell BK203.out 0).trans rfl
              have hcz25_1 : w24.cell? ⟨gb203, 1, none⟩ = some (.bool (x11_2 == 1)) := (blk_cell BK203.out 1).trans rfl
              have hfz25_0 := blk_frozen BK203.out 0
              have hfz25_1 := blk_frozen BK203.out 1
              try go_wp2_with (first | ((with_reducible refine gate_builtin (b := .append) (xs := #[.tmp 52, .tmp 54]) rfl ?_); at_builtin; refine Kd.R_append k74 (w0 := w) w.heap.size rfl (.tmp 52) (.tmp 54) 34 74 (.agg #[(.int .i64 0), (.bool false)]) 16 rfl Tryz.underlying34 info74 rfl (by decide) (by omega) u8 x8_2 (⟨wrap64 (((rd_T74 l0 x9_1).f0) + a1), (x11_2 == 1)⟩ : S74) [.int .i64 (wrap64 (((rd_T74 l0 x9_1).f0) + a1)), .bool (x11_2 == 1)] (fun k_ => k_ ≠ gb203) (fun _ => False) rfl rfl ?aP (fun _ hk => hk.elim) ?aF ?aO ?aB ?aS ?aL ?_; (case aP => exact k74_mkM _ _ _ (⟨wrap64 (((rd_T74 l0 x9_1).f0) + a1), (x11_2 == 1)⟩ : S74)); (case aB => exact (bu HB.out)); (case aF => exact (fun k_ hk => Kd.freshB (g := gb203) (o := .cells #[.int .i64 (wrap64 (((rd_T74 l0 x9_1).f0) + a1)), .bool (x11_2 == 1)] 74 (0, 0)) (gu BK203.out) k_ hk)); (case aO => exact (ru HO_8.out)); (case aS => exact (below_size (bu HB.out))); (case aL => have := LMc17.out; omega); intro v209 w26 ho hb hg hat; rw [← Ny208.out] at ho; have n0_ := am (blk_grown (g := gb203) (o := .cells #[.int .i64 (wrap64 (((rd_T74 l0 x9_1).f0) + a1)), .bool (x11_2 == 1)] 74 (0, 0)) (gu BK203.out) hg (Kd.R_away HO_8.out (fun _ hk => hk))); have n1_ := am (hb); have n2_ := am (ho); clear BK203; clear HB; clear HO_8; have BK203 := n0_; have HB := n1_; have HO210 := n2_; clear n0_ n1_ n2_; clear ho hb hg hat))
              go_roundg kj6
              case measure => have := HK1.out; have := HK2.out; have := HJ6.out; omega
              case rel => exact ⟨(y208), (true), (wrap64 (x11_2 + 1)), (by first | rfl | (simp; done) | (simp [*]; done)), (by first | rfl | (simp; done) | (simp [*]; done)), H', ⟨by have := HK1.out; have := HK2.out; have := HJ6.out; omega⟩, ⟨by (with_reducible repeat (first | apply Kd.R_alloc | apply Kd.R_drewN | apply Kd.R_drew)); exact Kd.R_mono HO210.out (fun _ hk => trivial)⟩, ⟨bu HB.out⟩⟩
             ·rw [if_neg c17] at H
              exact absurd H (by simp)
            ·rw [if_neg c16] at H
             have c16b0 : ((wrap64 (t205 - t207)) == a2) = false := beq_eq_false_iff_ne.mpr c16
             have c16b1 : ((wrap64 (t205 - t207)) != a2) = true := bne_iff_ne.mpr c16
             have H' := am H
             clear H
             have p202 : 0 ≤ (x9_1 : Int) := od
             have q202 : x9_1 < (l0.length : Int) := od
             obtain ⟨ad202, e202, hx202_0, hx202_1⟩ := at_T74 HR0.out x9_1 p202 q202
             cases e202
             replace hx202_0 := (HB.out.cell (World.block_lt_of_cell? w _ hx202_0)).trans hx202_0
             replace hx202_1 := (HB.out.cell (World.block_lt_of_cell? w _ hx202_1)).trans hx202_1
             replace p202 := eq_true p202
             replace q202 := eq_true q202
             try go_wp2_with (first | ((with_reducible refine gate_dst (N := 12) rfl ?_); refine box_event ?hg (N := 12) ?hd (cs := #[.int .i64 0, .bool false]) (t := 74) ?hr ?_; (case hd => rfl); (case hg => rfl); (case hr => first | (go_simp; done) | (go_simp; rfl)); intro gb203 hg w27 hbox hb; have n0_ := am (Kd.R_below (Kd.R_elderB (ru HO_8.out) gb203 (Nat.le_of_eq hg.symm)) hb); have n1_ := am (below_step (bu HB.out) hb); have n2_ := am (hbox); have n3_ := am ((by rw [hg]; exact (below_size (bu HB.out)) : w.heap.size ≤ gb203)); have n4_ := am ((by rw [hg]; exact (below_size (bu HB.out)) : w.heap.size ≤ gb203)); clear HO_8; clear HB; have HO_8 := n0_; have HB := n1_; have BK203 := n2_; have GW203 := n3_; have GE203 := n4_; clear n0_ n1_ n2_ n3_ n4_; clear hb hbox hg; have hcz28_0 : w27.cell? ⟨gb203, 0, none⟩ = some (.int .i64 0) := (blk_cell BK203.out 0).trans rfl; have hcz28_1 : w27.cell? ⟨gb203, 1, none⟩ = some (.bool false) := (blk_cell BK203.out 1).trans rfl; have hfz28_0 := blk_frozen BK203.out 0; have hfz28_1 := blk_frozen BK203.out 1))
             have n0_ : Aside0 (Kd.R k74 74 ((w27.setCell ⟨gb203, 0, none⟩ (.int .i64 (wrap64 (((rd_T74 l0 x9_1).f0) + a1)))).setCell ⟨gb203, 1, none⟩ (.bool (x11_2 == 1))) w.heap.size (fun k_ => k_ ≠ gb203) u8 x8_2) := ⟨by (with_reducible repeat (first | apply Kd.R_alloc | apply Kd.R_drewN | apply Kd.R_drew)); exact Kd.R_mono (Kd.R_far (p := ⟨gb203, 1, none⟩) (Kd.R_far (p := ⟨gb203, 0, none⟩) (Kd.R_mono HO_8.out (fun k_ hk => (⟨hk, hk.2⟩ : _ ∧ k_ ≠ gb203))) (fun _ hk => hk.2) (.int .i64 (wrap64 (((rd_T74 l0 x9_1).f0) + a1)))) (fun _ hk => hk.2) (.bool (x11_2 == 1))) (fun _ hk => hk.1.2)⟩
             have n1_ : Aside0 (((w27.setCell ⟨gb203, 0, none⟩ (.int .i64 (wrap64 (((rd_T74 l0 x9_1).f0) + a1)))).setCell ⟨gb203, 1, none⟩ (.bool (x11_2 == 1))).heap[gb203]? = some (.cells #[.int .i64 (wrap64 (((rd_T74 l0 x9_1).f0) + a1)), .bool (x11_2 == 1)] 74 (0, 0))) := ⟨by (with_reducible repeat (first | refine blk_drewN ?_ _ | refine blk_drew ?_ | refine blk_alloc ?_ _)); refine blk_put (cs := #[.int .i64 (wrap64 (((rd_T74 l0 x9_1).f0) + a1)), .bool false]) ?_ 1 _ rfl; (with_reducible repeat (first | refine blk_drewN ?_ _ | refine blk_drew ?_ | refine blk_alloc ?_ _)); refine blk_put (cs := #[.int .i64 0, .bool false]) ?_ 0 _ rfl; (with_reducible repeat (first | refine blk_drewN ?_ _ | refine blk_drew ?_ | refine blk_alloc ?_ _)); exact BK203.out⟩
             have n2_ : Aside0 (Below w.heap.size w ((w27.setCell ⟨gb203, 0, none⟩ (.int .i64 (wrap64 (((rd_T74 l0 x9_1).f0) + a1)))).setCell ⟨gb203, 1, none⟩ (.bool (x11_2 == 1)))) := ⟨bu HB.out⟩
             (try clear HO_8)
             (try clear BK203)
             (try clear HB)
             generalize ((w27.setCell ⟨gb203, 0, none⟩ (.int .i64 (wrap64 (((rd_T74 l0 x9_1).f0) + a1)))).setCell ⟨gb203, 1, none⟩ (.bool (x11_2 == 1))) = w29 at n0_ n1_ n2_ ⊢
             have HO_8 := n0_
             have BK203 := n1_
             have HB := n2_
             clear n0_ n1_ n2_
             have n0_ := am (Kd.R_drew HO_8.out)
             have n1_ := am (blk_drew BK203.out)
             have n2_ := am (below_drew1 HB.out)
             clear HO_8
             clear BK203
             clear HB
             have HO_8 := n0_
             have BK203 := n1_
             have HB := n2_
             clear n0_ n1_ n2_
             have p206 : 0 ≤ (x9_1 : Int) := od
             have q206 : x9_1 < (l0.length : Int) := od
             obtain ⟨ad206, e206, hx206_0, hx206_1⟩ := at_T74 HR0.out x9_1 p206 q206
             have hw206_1 := hx206_1
             have hw206_0 := hx206_0
             obtain rfl : ad202 = ad206 := (by injection e206)
             replace hx206_0 := (HB.out.cell (World.block_lt_of_cell? w _ hx206_0)).trans hx206_0
             replace hx206_1 := (HB.out.cell (World.block_lt_of_cell? w _ hx206_1)).trans hx206_1
             replace p206 := eq_true p206
             replace q206 := eq_true q206
             refine start_ (n := 14) (S := fun w' => w'.cell? ⟨gb203, 0, none⟩ = some (.int .i64 (wrap64 (((rd_T74 l0 x9_1).f0) + a1))) ∧ w'.cell? ⟨gb203, 1, none⟩ = some (.bool (x11_2 == 1)) ∧ w'.cell? (ad202.add ((x9_1).toNat * 2)) = some (.int .i64 ((rd_T74 l0 x9_1).f0)) ∧ w'.cell? ⟨(ad202.add ((x9_1).toNat * 2)).block, (ad202.add ((x9_1).toNat * 2)).off + 1, none⟩ = some (.bool ((rd_T74 l0 x9_1).f1))) (ds := []) #[F,F,F,F,F,F,F,F,F,F,F,F,F,F] (by kernel_rfl) rfl rfl ⟨(blk_cell BK203.out 0).trans rfl, (blk_cell BK203.out 1).trans rfl, ((HB.out.cell (World.block_lt_of_cell? w _ hw206_0)).trans hw206_0), ((HB.out.cell (World.block_lt_of_cell? w _ hw206_1)).trans hw206_1)⟩ (fun hHeld => ?_); refine with_tabW spec_l2Moved.tab10 spec_l2Moved.bits10 (fun HT_ HW_ => ?_)
             generalize w29.drew = w30 at HO_8 BK203 HB hx206_0 hx206_1 hHeld ⊢
             refine tz hHeld 0 (some 38) #[T,F,F,F,F,F,F,F,F,F,F,F,F,F] (take_ofW HT_.out HW_.out (by kernel_rfl)) (h := ?_)
             refine one_ (i := 1) (N := some 39) #[T,T,F,F,F,F,F,F,F,F,F,F,F,F] rfl rfl (one_of HT_.out (by kernel_rfl)) (by decide) (fun K hK => ?_)
             refine goes_ Tryz.func58 (by kernel_rfl) rfl #[.agg #[.int .i64 (wrap64 (((rd_T74 l0 x9_1).f0) + a1)), .bool (x11_2 == 1)]] (by rfl) rfl rfl (by (try simp only [List.map_toArray, List.map_cons, List.map_nil]); first | done | rfl | (simp only [List.length_drop, List.length_take]; rfl)) ?_
             with_reducible refine (spec_ToneValid.calls (wrap64 (((rd_T74 l0 x9_1).f0) + a1)) (x11_2 == 1) true _ A12.out).mono ?_
             rintro e w31 ⟨rfl, hb⟩
             refine ⟨_, rfl, ?_⟩
             have n0_ := am (Kd.R_below (ru HO_8.out) hb)
             have n1_ := am (blk_below (g := gb203) (o := .cells #[.int .i64 (wrap64 (((rd_T74 l0 x9_1).f0) + a1)), .bool (x11_2 == 1)] 74 (0, 0)) (gu BK203.out) hb)
             have n2_ := am (below_step (bu HB.out) hb)
             clear HO_8
             clear BK203
             clear HB
             have HO_8 := n0_
             have BK203 := n1_
             have HB := n2_
             clear n0_ n1_ n2_
             (try clear hb)
             (try clear hb2)
             (try clear hk)
             (try clear hi)
             refine hK.out _ _ ⟨(blk_cell BK203.out 0).trans rfl, (blk_cell BK203.out 1).trans rfl, ((HB.out.cell (World.block_lt_of_cell? w _ hw206_0)).trans hw206_0), ((HB.out.cell (World.block_lt_of_cell? w _ hw206_1)).trans hw206_1)⟩ (fun hHeld => ?_)
             clear hK K
             refine norm_ (a' := ?_) ?_ ?_
             rotate_left
             ·show Act.put _ (some 39) _ = _
              simp only [Act.put, sA, sZ, sS, i64_w, i32_w]
              rfl
             refine pz 2 (some 40) #[T,T,T,F,F,F,F,F,F,F,F,F,F,F] (any_of HT_.out (by kernel_rfl)) (h := ?_)
             refine pz 5 (some 43) #[T,T,T,F,F,T,F,F,F,F,F,F,F,F] (any_of HT_.out (by kernel_rfl)) (h := ?_)
             refine pz 6 (some 44) #[T,T,T,F,F,T,T,F,F,F,F,F,F,F] (any_of HT_.out (by kernel_rfl)) (h := ?_)
             refine pz 7 (some 45) #[T,T,T,F,F,T,T,T,F,F,F,F,F,F] (any_of HT_.out (by kernel_rfl)) (h := ?_)
             refine pz 11 (some 49) #[T,T,T,F,F,T,T,T,F,F,F,T,F,F] (any_of HT_.out (by kernel_rfl)) (h := ?_)
             refine tz hHeld 3 (some 41) #[T,T,T,T,F,T,T,T,F,F,F,T,F,F] (take_ofW HT_.out HW_.out (by kernel_rfl)) (h := ?_)
             refine tz hHeld 8 (some 46) #[T,T,T,T,F,T,T,T,T,F,F,T,F,F] (take_ofW HT_.out HW_.out (by kernel_rfl)) (h := ?_)
             refine one_ (i := 4) (N := some 42) #[T,T,T,T,T,T,T,T,T,F,F,T,F,F] rfl rfl (one_of HT_.out (by kernel_rfl)) (by decide) (fun K hK => ?_)
             refine goes_ Tryz.func60 (by kernel_rfl) rfl #[.agg #[.int .i64 (wrap64 (((rd_T74 l0 x9_1).f0) + a1)), .bool (x11_2 == 1)]] (by rfl) rfl rfl (by (try simp only [List.map_toArray, List.map_cons, List.map_nil]); first | done | rfl | (simp only [List.length_drop, List.length_take]; rfl)) ?_
             with_reducible refine (spec_l1Height.calls (wrap64 (((rd_T74 l0 x9_1).f0) + a1)) (x11_2 == 1) t205 _ A14.out).mono ?_
             rintro e w32 ⟨rfl, hb⟩
             refine ⟨_, rfl, ?_⟩
             have n0_ := am (Kd.R_below (ru HO_8.out) hb)
             have n1_ := am (blk_below (g := gb203) (o := .cells #[.int .i64 (wrap64 (((rd_T74 l0 x9_1).f0) + a1)), .bool (x11_2 == 1)] 74 (0, 0)) (gu BK203.out) hb)
             have n2_ := am (below_step (bu HB.out) hb)
             clear HO_8
             clear BK203
             clear HB
             have HO_8 := n0_
             have BK203 := n1_
             have HB := n2_
             clear n0_ n1_ n2_
             (try clear hb)
             (try clear hb2)
             (try clear hk)
             (try clear hi)
             refine hK.out _ _ ⟨(blk_cell BK203.out 0).trans rfl, (blk_cell BK203.out 1).trans rfl, ((HB.out.cell (World.block_lt_of_cell? w _ hw206_0)).trans hw206_0), ((HB.out.cell (World.block_lt_of_cell? w _ hw206_1)).trans hw206_1)⟩ (fun hHeld => ?_)
             clear hK K
             refine norm_ (a' := ?_) ?_ ?_
             rotate_left
             ·show Act.put _ (some 42) _ = _
              simp only [Act.put, sA, sZ, sS, i64_w, i32_w]
              rfl
             refine one_ (i := 9) (N := some 47) #[T,T,T,T,T,T,T,T,T,T,F,T,F,F] rfl rfl (one_of HT_.out (by kernel_rfl)) (by decide) (fun K hK => ?_)
             refine goes_ Tryz.func60 (by kernel_rfl) rfl #[.agg #[.int .i64 ((rd_T74 l0 x9_1).f0), .bool ((rd_T74 l0 x9_1).f1)]] (by rfl) rfl rfl (by (try simp only [List.map_toArray, List.map_cons, List.map_nil]); first | done | rfl | (simp only [List.length_drop, List.length_take]; rfl)) ?_
             with_reducible refine (spec_l1Height.calls ((rd_T74 l0 x9_1).f0) ((rd_T74 l0 x9_1).f1) t207 _ A15.out).mono ?_
             rintro e w33 ⟨rfl, hb⟩
             refine ⟨_, rfl, ?_⟩
             have n0_ := am (Kd.R_below (ru HO_8.out) hb)
             have n1_ := am (blk_below (g := gb203) (o := .cells #[.int .i64 (wrap64 (((rd_T74 l0 x9_1).f0) + a1)), .bool (x11_2 == 1)] 74 (0, 0)) (gu BK203.out) hb)
             have n2_ := am (below_step (bu HB.out) hb)
             clear HO_8
             clear BK203
             clear HB
             have HO_8 := n0_
             have BK203 := n1_
             have HB := n2_
             clear n0_ n1_ n2_
             (try clear hb)
             (try clear hb2)
             (try clear hk)
             (try clear hi)
             refine hK.out _ _ ⟨(blk_cell BK203.out 0).trans rfl, (blk_cell BK203.out 1).trans rfl, ((HB.out.cell (World.block_lt_of_cell? w _ hw206_0)).trans hw206_0), ((HB.out.cell (World.block_lt_of_cell? w _ hw206_1)).trans hw206_1)⟩ (fun hHeld => ?_)
             clear hK K
             refine norm_ (a' := ?_) ?_ ?_
             rotate_left
             ·show Act.put _ (some 47) _ = _
              simp only [Act.put, sA, sZ, sS, i64_w, i32_w]
              rfl
             refine pz 10 (some 48) #[T,T,T,T,T,T,T,T,T,T,T,T,F,F] (any_of HT_.out (by kernel_rfl)) (h := ?_)
             refine pz 12 (some 50) #[T,T,T,T,T,T,T,T,T,T,T,T,T,F] (any_of HT_.out (by kernel_rfl)) (h := ?_)
             refine pz 13 (some 51) #[T,T,T,T,T,T,T,T,T,T,T,T,T,T] (any_of HT_.out (by kernel_rfl)) (h := ?_)
             refine done_ (done_of HT_.out (by kernel_rfl)) ?_
             try go_wp2
             go_roundg kj6
             case measure => have := HK1.out; have := HK2.out; have := HJ6.out; omega
             case rel => exact ⟨(x8_2), (x10_2), (wrap64 (x11_2 + 1)), (by first | rfl | (simp; done) | (simp [*]; done)), (by first | rfl | (simp; done) | (simp [*]; done)), H', ⟨by have := HK1.out; have := HK2.out; have := HJ6.out; omega⟩, ⟨by (with_reducible repeat (first | apply Kd.R_alloc | apply Kd.R_drewN | apply Kd.R_drew)); exact Kd.R_mono HO_8.out (fun _ hk => trivial)⟩, ⟨bu HB.out⟩⟩
           ·replace c13 := Bool.eq_false_iff.mpr c13
            subst c13
            have H1 : (spec_l2Moved.l1 kj6 l0 a1 a2 x8_2 x9_1 x10_2 (wrap64 (x11_2 + 1))) = some (r1, r2) := by rw [if_neg (show ¬ (false = true) by decide)] at H; exact H
            clear H
            have H := H1
            clear H1
            have H' := am H
            clear H
            have p202 : 0 ≤ (x9_1 : Int) := od
            have q202 : x9_1 < (l0.length : Int) := od
            obtain ⟨ad202, e202, hx202_0, hx202_1⟩ := at_T74 HR0.out x9_1 p202 q202
            cases e202
            replace hx202_0 := (HB.out.cell (World.block_lt_of_cell? w _ hx202_0)).trans hx202_0
            replace hx202_1 := (HB.out.cell (World.block_lt_of_cell? w _ hx202_1)).trans hx202_1
            replace p202 := eq_true p202
            replace q202 := eq_true q202
            try go_wp2_with (first | ((with_reducible refine gate_dst (N := 12) rfl ?_); refine box_event ?hg (N := 12) ?hd (cs := #[.int .i64 0, .bool false]) (t := 74) ?hr ?_; (case hd => rfl); (case hg => rfl); (case hr => first | (go_simp; done) | (go_simp; rfl)); intro gb203 hg w34 hbox hb; have n0_ := am (Kd.R_below (Kd.R_elderB (ru HO_8.out) gb203 (Nat.le_of_eq hg.symm)) hb); have n1_ := am (below_step (bu HB.out) hb); have n2_ := am (hbox); have n3_ := am ((by rw [hg]; exact (below_size (bu HB.out)) : w.heap.size ≤ gb203)); have n4_ := am ((by rw [hg]; exact (below_size (bu HB.out)) : w.heap.size ≤ gb203)); clear HO_8; clear HB; have HO_8 := n0_; have HB := n1_; have BK203 := n2_; have GW203 := n3_; have GE203 := n4_; clear n0_ n1_ n2_ n3_ n4_; clear hb hbox hg; have hcz35_0 : w34.cell? ⟨gb203, 0, none⟩ = some (.int .i64 0) := (blk_cell BK203.out 0).trans rfl; have hcz35_1 : w34.cell? ⟨gb203, 1, none⟩ = some (.bool false) := (blk_cell BK203.out 1).trans rfl; have hfz35_0 := blk_frozen BK203.out 0; have hfz35_1 := blk_frozen BK203.out 1))
            have n0_ : Aside0 (Kd.R k74 74 ((w34.setCell ⟨gb203, 0, none⟩ (.int .i64 (wrap64 (((rd_T74 l0 x9_1).f0) + a1)))).setCell ⟨gb203, 1, none⟩ (.bool (x11_2 == 1))) w.heap.size (fun k_ => k_ ≠ gb203) u8 x8_2) := ⟨by (with_reducible repeat (first | apply Kd.R_alloc | apply Kd.R_drewN | apply Kd.R_drew)); exact Kd.R_mono (Kd.R_far (p := ⟨gb203, 1, none⟩) (Kd.R_far (p := ⟨gb203, 0, none⟩) (Kd.R_mono HO_8.out (fun k_ hk => (⟨hk, hk.2⟩ : _ ∧ k_ ≠ gb203))) (fun _ hk => hk.2) (.int .i64 (wrap64 (((rd_T74 l0 x9_1).f0) + a1)))) (fun _ hk => hk.2) (.bool (x11_2 == 1))) (fun _ hk => hk.1.2)⟩
            have n1_ : Aside0 (((w34.setCell ⟨gb203, 0, none⟩ (.int .i64 (wrap64 (((rd_T74 l0 x9_1).f0) + a1)))).setCell ⟨gb203, 1, none⟩ (.bool (x11_2 == 1))).heap[gb203]? = some (.cells #[.int .i64 (wrap64 (((rd_T74 l0 x9_1).f0) + a1)), .bool (x11_2 == 1)] 74 (0, 0))) := ⟨by (with_reducible repeat (first | refine blk_drewN ?_ _ | refine blk_drew ?_ | refine blk_alloc ?_ _)); refine blk_put (cs := #[.int .i64 (wrap64 (((rd_T74 l0 x9_1).f0) + a1)), .bool false]) ?_ 1 _ rfl; (with_reducible repeat (first | refine blk_drewN ?_ _ | refine blk_drew ?_ | refine blk_alloc ?_ _)); refine blk_put (cs := #[.int .i64 0, .bool false]) ?_ 0 _ rfl; (with_reducible repeat (first | refine blk_drewN ?_ _ | refine blk_drew ?_ | refine blk_alloc ?_ _)); exact BK203.out⟩
            have n2_ : Aside0 (Below w.heap.size w ((w34.setCell ⟨gb203, 0, none⟩ (.int .i64 (wrap64 (((rd_T74 l0 x9_1).f0) + a1)))).setCell ⟨gb203, 1, none⟩ (.bool (x11_2 == 1)))) := ⟨bu HB.out⟩
            (try clear HO_8)
            (try clear BK203)
            (try clear HB)
            generalize ((w34.setCell ⟨gb203, 0, none⟩ (.int .i64 (wrap64 (((rd_T74 l0 x9_1).f0) + a1)))).setCell ⟨gb203, 1, none⟩ (.bool (x11_2 == 1))) = w36 at n0_ n1_ n2_ ⊢
            have HO_8 := n0_
            have BK203 := n1_
            have HB := n2_
            clear n0_ n1_ n2_
            have n0_ := am (Kd.R_drew HO_8.out)
            have n1_ := am (blk_drew BK203.out)
            have n2_ := am (below_drew1 HB.out)
            clear HO_8
            clear BK203
            clear HB
            have HO_8 := n0_
            have BK203 := n1_
            have HB := n2_
            clear n0_ n1_ n2_
            refine start_ (n := 14) (S := fun w' => w'.cell? ⟨gb203, 0, none⟩ = some (.int .i64 (wrap64 (((rd_T74 l0 x9_1).f0) + a1))) ∧ w'.cell? ⟨gb203, 1, none⟩ = some (.bool (x11_2 == 1))) (ds := []) #[F,F,F,F,F,F,F,F,F,F,F,F,F,F] (by kernel_rfl) rfl rfl ⟨(blk_cell BK203.out 0).trans rfl, (blk_cell BK203.out 1).trans rfl⟩ (fun hHeld => ?_); refine with_tabW spec_l2Moved.tab10 spec_l2Moved.bits10 (fun HT_ HW_ => ?_)
            generalize w36.drew = w37 at HO_8 BK203 HB hHeld ⊢
            refine tz hHeld 0 (some 38) #[T,F,F,F,F,F,F,F,F,F,F,F,F,F] (take_ofW HT_.out HW_.out (by kernel_rfl)) (h := ?_)
            refine one_ (i := 1) (N := some 39) #[T,T,F,F,F,F,F,F,F,F,F,F,F,F] rfl rfl (one_of HT_.out (by kernel_rfl)) (by decide) (fun K hK => ?_)
            refine goes_ Tryz.func58 (by kernel_rfl) rfl #[.agg #[.int .i64 (wrap64 (((rd_T74 l0 x9_1).f0) + a1)), .bool (x11_2 == 1)]] (by rfl) rfl rfl (by (try simp only [List.map_toArray, List.map_cons, List.map_nil]); first | done | rfl | (simp only [List.length_drop, List.length_take]; rfl)) ?_
            with_reducible refine (spec_ToneValid.calls (wrap64 (((rd_T74 l0 x9_1).f0) + a1)) (x11_2 == 1) false _ A12.out).mono ?_
            rintro e w38 ⟨rfl, hb⟩
            refine ⟨_, rfl, ?_⟩
            have n0_ := am (Kd.R_below (ru HO_8.out) hb)
            have n1_ := am (blk_below (g := gb203) (o := .cells #[.int .i64 (wrap64 (((rd_T74 l0 x9_1).f0) + a1)), .bool (x11_2 == 1)] 74 (0, 0)) (gu BK203.out) hb)
            have n2_ := am (below_step (bu HB.out) hb)
            clear HO_8
            clear BK203
            clear HB
            have HO_8 := n0_
            have BK203 := n1_
            have HB := n2_
            clear n0_ n1_ n2_
            (try clear hb)
            (try clear hb2)
            (try clear hk)
            (try clear hi)
            refine hK.out _ _ ⟨(blk_cell BK203.out 0).trans rfl, (blk_cell BK203.out 1).trans rfl⟩ (fun hHeld => ?_)
            clear hK K
            refine norm_ (a' := ?_) ?_ ?_
            rotate_left
            ·show Act.put _ (some 39) _ = _
             simp only [Act.put, sA, sZ, sS, i64_w, i32_w]
             rfl
            refine pz 2 (some 40) #[T,T,T,F,F,F,F,F,F,F,F,F,F,F] (any_of HT_.out (by kernel_rfl)) (h := ?_)
            refine pv 3 (some 41) #[T,T,T,T,F,F,F,F,F,F,F,F,F,F] (any_of HT_.out (by kernel_rfl)) (h := ?_)
            refine pv 4 (some 42) #[T,T,T,T,T,F,F,F,F,F,F,F,F,F] (any_of HT_.out (by kernel_rfl)) (h := ?_)
            refine pv 5 (some 43) #[T,T,T,T,T,T,F,F,F,F,F,F,F,F] (any_of HT_.out (by kernel_rfl)) (h := ?_)
            refine pv 6 (some 44) #[T,T,T,T,T,T,T,F,F,F,F,F,F,F] (any_of HT_.out (by kernel_rfl)) (h := ?_)
            refine pv 7 (some 45) #[T,T,T,T,T,T,T,T,F,F,F,F,F,F] (any_of HT_.out (by kernel_rfl)) (h := ?_)
            refine pv 8 (some 46) #[T,T,T,T,T,T,T,T,T,F,F,F,F,F] (any_of HT_.out (by kernel_rfl)) (h := ?_)
            refine pv 9 (some 47) #[T,T,T,T,T,T,T,T,T,T,F,F,F,F] (any_of HT_.out (by kernel_rfl)) (h := ?_)
            refine pv 10 (some 48) #[T,T,T,T,T,T,T,T,T,T,T,F,F,F] (any_of HT_.out (by kernel_rfl)) (h := ?_)
            refine pv 11 (some 49) #[T,T,T,T,T,T,T,T,T,T,T,T,F,F] (any_of HT_.out (by kernel_rfl)) (h := ?_)
            refine pv 12 (some 50) #[T,T,T,T,T,T,T,T,T,T,T,T,T,F] (any_of HT_.out (by kernel_rfl)) (h := ?_)
            refine pz 13 (some 51) #[T,T,T,T,T,T,T,T,T,T,T,T,T,T] (any_of HT_.out (by kernel_rfl)) (h := ?_)
            refine done_ (done_of HT_.out (by kernel_rfl)) ?_
            try go_wp2
            go_roundg kj6
            case measure => have := HK1.out; have := HK2.out; have := HJ6.out; omega
            case rel => exact ⟨(x8_2), (x10_2), (wrap64 (x11_2 + 1)), (by first | rfl | (simp; done) | (simp [*]; done)), (by first | rfl | (simp; done) | (simp [*]; done)), H', ⟨by have := HK1.out; have := HK2.out; have := HJ6.out; omega⟩, ⟨by (with_reducible repeat (first | apply Kd.R_alloc | apply Kd.R_drewN | apply Kd.R_drew)); exact Kd.R_mono HO_8.out (fun _ hk => trivial)⟩, ⟨bu HB.out⟩⟩
          ·rw [if_neg c11] at H
           exact absurd H (by simp)
         ·rw [if_neg c10] at H
          exact absurd H (by simp)
        ·replace c9 := Bool.eq_false_iff.mpr c9
         subst c9
         have H1 : (if x10_2 = true then (spec_l2Moved.l0 kj6 l0 a1 a2 x8_2 (wrap64 (x9_1 + 1))) else (some ((([] : List (S74))), false))) = some (r1, r2) := by rw [if_neg (show ¬ (false = true) by decide)] at H; exact H
         clear H
         have H := H1
         clear H1
         by_cases c39 : x10_2 = true
         ·subst c39
          have H1 : (spec_l2Moved.l0 kj6 l0 a1 a2 x8_2 (wrap64 (x9_1 + 1))) = some (r1, r2) := by rw [if_pos rfl] at H; exact H
          clear H
          have H := H1
          clear H1
          have H' := am H
          clear H
          go_wp2
          go_roundg kj6
          case measure => have := HK1.out; have := HK2.out; have := HJ6.out; omega
          case rel => exact ⟨(x8_2), (wrap64 (x9_1 + 1)), (by first | rfl | (simp; done) | (simp [*]; done)), H', ⟨by have := HK1.out; have := HK2.out; have := HJ6.out; omega⟩, ⟨ru HO_8.out⟩, ⟨bu HB.out⟩⟩
         ·replace c39 := Bool.eq_false_iff.mpr c39
          subst c39
          have H1 : (some ((([] : List (S74))), false)) = some (r1, r2) := by rw [if_neg (show ¬ (false = true) by decide)] at H; exact H
          clear H
          have H := H1
          clear H1
          obtain ⟨y199, hy199⟩ : ∃ y_ : List (S74), y_ = (([] : List (S74))) := ⟨_, rfl⟩
          replace H : (some (y199, false)) = some (r1, r2) := by first | (rw [hy199]; with_reducible exact H) | (have H2_ := (Option.bind_some _ _).symm.trans H; rw [hy199]; with_reducible exact H2_) | (have H2_ := (Option.bind_some _ _).symm.trans H; with_reducible exact H2_) | with_reducible exact H | (rw [hy199]; exact H) | exact H
          have Ny199 := am hy199
          clear hy199
          simp only [Option.some.injEq, Prod.mk.injEq] at H
          obtain ⟨rfl, rfl⟩ := H
          go_wp2_with (first | ((with_reducible refine gate_dst (N := 58) rfl ?_); refine Kd.R_lit k74 _ 74 ?hg (N := 58) ?hd (xs := ([] : List (S74))) (inner := []) (ok := fun _ => True) (okp := fun _ => True) ?hr ?hp (fun _ hk => hk) trivial (Below.refl _ _) (Nat.le_refl _) (by simp) ?_; (case hd => rfl); (case hg => rfl); (case hr => first | (go_simp; done) | (go_simp; rfl)); (case hp => exact (Reps.none _ _)); intro v200 w40 ho41 hb hg_ hnew_; clear hg_ hnew_; (first | rw [← Ny199.out] at ho41 | (simp only [Int.reduceToNat] at ho41; rw [← Ny199.out] at ho41)); have n0_ := am (Kd.R_elder' (ru HO_8.out) (Kd.R_base ho41) hb); have n1_ := am (Kd.R_lower (Kd.R_new' ho41 (Kd.R_lt (ru HO_8.out))) (below_size (bu HB.out))); have n2_ := am (below_step (bu HB.out) hb); clear HO_8; clear HB; have HO_8 := n0_; have HO201 := n1_; have HB := n2_; clear n0_ n1_ n2_; clear hb ho41))
          go_ret2
          exact ⟨_, by first | rfl | (simp [errW_none, errW_some] <;> rfl) | (simp [*, errW_none, errW_some] <;> rfl), by (with_reducible repeat (first | apply Kd.R_alloc | apply Kd.R_drewN | apply Kd.R_drew)); exact Kd.R_mono HO201.out (fun _ hk => trivial), bu HB.out⟩
   ·rw [if_neg c6] at H
    have c6b0 : decide (x9_1 < (l0.length : Int)) = false := decide_eq_false c6
    clear c6
    simp only [Option.some.injEq, Prod.mk.injEq] at H
    obtain ⟨rfl, rfl⟩ := H
    go_wp2
    go_ret2
    exact ⟨_, by first | rfl | (simp [errW_none, errW_some] <;> rfl) | (simp [*, errW_none, errW_some] <;> rfl), ru HO_8.out, bu HB.out⟩

end Go.Proofs.YtjnkmckklmabcaaGreatDoor.XM
