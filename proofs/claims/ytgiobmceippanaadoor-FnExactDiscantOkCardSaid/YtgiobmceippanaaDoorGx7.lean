-- Made by this session's gprint.py out of the translation. Not trusted: Lean checks it.
import Derived.Test.YtgiobmceippanaaDoorGx0
namespace Go.Proofs.YtgiobmceippanaaDoor.G
open Go.RowKit Go.Proofs.YtgiobmceippanaaDoorW.PrintWords Go.Proofs.YtgiobmceippanaaDoorW.PrintLast Go.Proofs.YtgiobmceippanaaDoorW.PrintMore
attribute [local go_sem] max2_int min2_int max_two min_two max_three min_three max_four min_four   -- for this text's walks alone
set_option linter.unusedVariables false
set_option linter.unusedSimpArgs false

/-! ### spec_l1Quality: function 70 -/
mutual
def spec_l1Quality.j0 : Nat → Int → Int → Bool → Option (ByteArray)
  | 0, _, _, _ => none
  | k + 1, x1, x5, x6 => if x1 < x5 then (some (⟨#[100]⟩ : ByteArray)) else (if x1 = x5 then (spec_l1Quality.j1 k x1 x5 x6 x6) else (spec_l1Quality.j1 k x1 x5 x6 false))
def spec_l1Quality.j1 : Nat → Int → Int → Bool → Bool → Option (ByteArray)
  | 0, _, _, _, _ => none
  | k + 1, x1, x5, x6, x33 => if x33 = true then (some (⟨#[112]⟩ : ByteArray)) else (if x1 = x5 then (some (⟨#[115]⟩ : ByteArray)) else (if x1 = (wrap64 (x5 + 1)) then (if x6 = true then (some (⟨#[97]⟩ : ByteArray)) else (some (⟨#[103]⟩ : ByteArray))) else (some (⟨#[97]⟩ : ByteArray))))
end
def spec_l1Quality.f (k : Nat) (a0 : Int) (a1 : Int) : Option (ByteArray) := (some (([0, 1, 3, 5, 7, 8, 10] : List Int) : List Int)).bind fun y161 => (if 0 ≤ (Int.tmod a0 7) then (if (Int.tmod a0 7) < (y161.length : Int) then (if (Int.tmod a0 7) = 0 then (spec_l1Quality.j0 k a1 (wrap64 ((rd y161 (Int.tmod a0 7)) + (wrap64 (12 * (wrap64 (Int.tdiv a0 7)))))) true) else (if (Int.tmod a0 7) = 3 then (spec_l1Quality.j0 k a1 (wrap64 ((rd y161 (Int.tmod a0 7)) + (wrap64 (12 * (wrap64 (Int.tdiv a0 7)))))) true) else (spec_l1Quality.j0 k a1 (wrap64 ((rd y161 (Int.tmod a0 7)) + (wrap64 (12 * (wrap64 (Int.tdiv a0 7)))))) ((Int.tmod a0 7) == 4)))) else (none)) else (none))
theorem spec_l1Quality.mono_l : ∀ k, (∀ y0 y1 y2, LeO (spec_l1Quality.j0 k y0 y1 y2) (spec_l1Quality.j0 (k + 1) y0 y1 y2)) ∧ (∀ y0 y1 y2 y3, LeO (spec_l1Quality.j1 k y0 y1 y2 y3) (spec_l1Quality.j1 (k + 1) y0 y1 y2 y3))
  | 0 => ⟨fun _ _ _ r h => by simp [spec_l1Quality.j0] at h, fun _ _ _ _ r h => by simp [spec_l1Quality.j1] at h⟩
  | k + 1 => by
    obtain ⟨ih0, ih1⟩ := spec_l1Quality.mono_l k
    refine ⟨?_, ?_⟩
    · intro y0 y1 y2
      unfold spec_l1Quality.j0
      repeat' first
      | (with_reducible exact ih0 _ _ _)
      | (with_reducible exact ih1 _ _ _ _)
      | (with_reducible exact LeO.refl _)
      | (with_reducible exact LeO.none _)
      | (with_reducible refine LeO.ite ?_ ?_)
      | (with_reducible refine LeO.bind ?_ (fun _ => ?_))
      | exact ih0 _ _ _
      | exact ih1 _ _ _ _
      | exact LeO.none _
      | refine LeO.ite ?_ ?_
      | refine LeO.bind ?_ (fun _ => ?_)
    · intro y0 y1 y2 y3
      unfold spec_l1Quality.j1
      repeat' first
      | (with_reducible exact ih0 _ _ _)
      | (with_reducible exact ih1 _ _ _ _)
      | (with_reducible exact LeO.refl _)
      | (with_reducible exact LeO.none _)
      | (with_reducible refine LeO.ite ?_ ?_)
      | (with_reducible refine LeO.bind ?_ (fun _ => ?_))
      | exact ih0 _ _ _
      | exact ih1 _ _ _ _
      | exact LeO.none _
      | refine LeO.ite ?_ ?_
      | refine LeO.bind ?_ (fun _ => ?_)
theorem spec_l1Quality.mono : ∀ a0 a1 k, LeO (spec_l1Quality.f k a0 a1) (spec_l1Quality.f (k + 1) a0 a1) := by
  intro a0 a1 k
  obtain ⟨ih0, ih1⟩ := spec_l1Quality.mono_l k
  unfold spec_l1Quality.f
  repeat' first
      | (with_reducible exact ih0 _ _ _)
      | (with_reducible exact ih1 _ _ _ _)
      | (with_reducible exact LeO.refl _)
      | (with_reducible exact LeO.none _)
      | (with_reducible refine LeO.ite ?_ ?_)
      | (with_reducible refine LeO.bind ?_ (fun _ => ?_))
      | exact ih0 _ _ _
      | exact ih1 _ _ _ _
      | exact LeO.none _
      | refine LeO.ite ?_ ?_
      | refine LeO.bind ?_ (fun _ => ?_)
set_option maxHeartbeats 8000000 in
set_option maxRecDepth 100000 in
theorem spec_l1Quality.calls (k : Nat) (a0 : Int) (a1 : Int) (r : ByteArray) (w : World) (h : spec_l1Quality.f k a0 a1 = some r) :
    Calls Tryd.prog 70 #[.int .i64 a0, .int .i64 a1] w fun e w' => e = .returned (.string r) ∧ Below w.heap.size w w' := by
  have HB := Aside0.mk (Below.refl w.heap.size w)
  have H : ((some (([0, 1, 3, 5, 7, 8, 10] : List Int) : List Int)).bind fun y161 => (if 0 ≤ (Int.tmod a0 7) then (if (Int.tmod a0 7) < (y161.length : Int) then (if (Int.tmod a0 7) = 0 then (spec_l1Quality.j0 k a1 (wrap64 ((rd y161 (Int.tmod a0 7)) + (wrap64 (12 * (wrap64 (Int.tdiv a0 7)))))) true) else (if (Int.tmod a0 7) = 3 then (spec_l1Quality.j0 k a1 (wrap64 ((rd y161 (Int.tmod a0 7)) + (wrap64 (12 * (wrap64 (Int.tdiv a0 7)))))) true) else (spec_l1Quality.j0 k a1 (wrap64 ((rd y161 (Int.tmod a0 7)) + (wrap64 (12 * (wrap64 (Int.tdiv a0 7)))))) ((Int.tmod a0 7) == 4)))) else (none)) else (none))) = some r := h
  clear h
  obtain ⟨y161, hy161⟩ : ∃ y_ : List Int, y_ = (([0, 1, 3, 5, 7, 8, 10] : List Int)) := ⟨_, rfl⟩
  replace H : (if 0 ≤ (Int.tmod a0 7) then (if (Int.tmod a0 7) < (y161.length : Int) then (if (Int.tmod a0 7) = 0 then (spec_l1Quality.j0 k a1 (wrap64 ((rd y161 (Int.tmod a0 7)) + (wrap64 (12 * (wrap64 (Int.tdiv a0 7)))))) true) else (if (Int.tmod a0 7) = 3 then (spec_l1Quality.j0 k a1 (wrap64 ((rd y161 (Int.tmod a0 7)) + (wrap64 (12 * (wrap64 (Int.tdiv a0 7)))))) true) else (spec_l1Quality.j0 k a1 (wrap64 ((rd y161 (Int.tmod a0 7)) + (wrap64 (12 * (wrap64 (Int.tdiv a0 7)))))) ((Int.tmod a0 7) == 4)))) else (none)) else (none)) = some r := by first | (rw [hy161]; with_reducible exact H) | (have H2_ := (Option.bind_some _ _).symm.trans H; rw [hy161]; with_reducible exact H2_) | (have H2_ := (Option.bind_some _ _).symm.trans H; with_reducible exact H2_) | with_reducible exact H | (rw [hy161]; exact H) | exact H
  have Ny161 := Aside0.mk hy161
  clear hy161
  obtain ⟨ji3, hji3⟩ : ∃ j_ : Int, (Int.tmod a0 7) = j_ := ⟨_, rfl⟩
  replace H : (if 0 ≤ (ji3) then (if (ji3) < (y161.length : Int) then (if (ji3) = 0 then (spec_l1Quality.j0 k a1 (wrap64 ((rd y161 (ji3)) + (wrap64 (12 * (wrap64 (Int.tdiv a0 7)))))) true) else (if (ji3) = 3 then (spec_l1Quality.j0 k a1 (wrap64 ((rd y161 (ji3)) + (wrap64 (12 * (wrap64 (Int.tdiv a0 7)))))) true) else (spec_l1Quality.j0 k a1 (wrap64 ((rd y161 (ji3)) + (wrap64 (12 * (wrap64 (Int.tdiv a0 7)))))) ((ji3) == 4)))) else (none)) else (none)) = some r := by first | (rw [hji3] at H; exact H) | (simp only [hji3] at H ⊢; exact H)
  by_cases c4 : 0 ≤ (ji3)
  · rw [if_pos c4] at H
    have c4b0 : decide (0 ≤ (ji3)) = true := decide_eq_true c4
    clear c4
    by_cases c5 : (ji3) < (y161.length : Int)
    · rw [if_pos c5] at H
      have c5b0 : decide ((ji3) < (y161.length : Int)) = true := decide_eq_true c5
      clear c5
      have HC6 := Aside0.mk H
      clear H
      go_enter Tryd.func70, Tryd.ntmps70
      go_upto_region 2 with (first | ((with_reducible refine gate_dst (N := 7) rfl ?_); refine Kd.R_lit (Kd.int .i64) _ 3 ?hg (N := 7) ?hd (xs := ([0, 1, 3, 5, 7, 8, 10] : List Int)) (inner := [.int .i64 0, .int .i64 1, .int .i64 3, .int .i64 5, .int .i64 7, .int .i64 8, .int .i64 10]) (ok := fun _ => True) (okp := fun _ => True) ?hr ?hp (fun _ hk => hk) trivial (Below.refl _ _) (Nat.le_refl _) (by simp) ?_; (case hd => rfl); (case hg => rfl); (case hr => first | (go_simp; done) | (go_simp; rfl)); (case hp => exact (Reps.one (show Kd.M (Kd.int .i64) _ _ _ 0 [.int .i64 0] from rfl) (Reps.one (show Kd.M (Kd.int .i64) _ _ _ 1 [.int .i64 1] from rfl) (Reps.one (show Kd.M (Kd.int .i64) _ _ _ 3 [.int .i64 3] from rfl) (Reps.one (show Kd.M (Kd.int .i64) _ _ _ 5 [.int .i64 5] from rfl) (Reps.one (show Kd.M (Kd.int .i64) _ _ _ 7 [.int .i64 7] from rfl) (Reps.one (show Kd.M (Kd.int .i64) _ _ _ 8 [.int .i64 8] from rfl) (Reps.one (show Kd.M (Kd.int .i64) _ _ _ 10 [.int .i64 10] from rfl) (Reps.none _ _))))))))); intro v162 w7 ho8 hb hg_ hnew_; clear hg_ hnew_; (first | rw [← Ny161.out] at ho8 | (simp only [Int.reduceToNat] at ho8; rw [← Ny161.out] at ho8)); have n0_ := Aside0.mk (Kd.R_lower ho8 (below_size (by repeat (first | (with_reducible first | exact HB.out | apply below_alloc | apply pw_below_drewN | apply below_drew1) | exact HB.out)))); have n1_ := Aside0.mk (below_step (by repeat (first | (with_reducible first | exact HB.out | apply below_alloc | apply pw_below_drewN | apply below_drew1) | exact HB.out)) hb); clear HB; have HO163 := n0_; have HB := n1_; clear n0_ n1_; clear hb ho8; obtain ⟨Ao9, co9, eo9⟩ := Kd.R_slice HO163.out; subst eo9; have p164 : 0 ≤ ((ji3) : Int) := of_decide_eq_true (by first | (with_reducible assumption) | assumption); have q164 : (ji3) < (y161.length : Int) := of_decide_eq_true (by first | (with_reducible assumption) | assumption); obtain ⟨ad164, e164, hx164_0⟩ := Kd.at_int (Kd.R_reads' HO163.out).2.2 (ji3) p164 q164; cases e164; replace p164 := eq_true p164; replace q164 := eq_true q164))
      (try simp only [Act.put, List.setIfInBounds_toArray, List.set_cons_zero, List.set_cons_succ])
      go_cut [6] (fun v6 wc => ∃ (kq : Nat) (x6_5 : Bool), v6 = .bool x6_5 ∧ Aside0 (spec_l1Quality.j0 kq a1 (wrap64 ((rd y161 (ji3)) + (wrap64 (12 * (wrap64 (Int.tdiv a0 7)))))) x6_5 = some r) ∧ Aside0 (kq ≤ k) ∧ Aside0 (Below w.heap.size w wc))
      case first =>
        have H := HC6.out
        clear HC6
        by_cases c10 : (ji3) = 0
        · rw [if_pos c10] at H
          have c10b0 : ((ji3) == 0) = true := beq_iff_eq.mpr c10
          have c10b1 : ((ji3) != 0) = false := bne_eq_false_iff_eq.mpr c10
          clear c10
          (first | rw [c10b0] | (simp only [i64_w, i32_w]; rw [c10b0]) | skip)
          have H' := Aside0.mk H
          clear H
          go_wp2
          go_meet
          case rel => exact ⟨_, (true), (by first | rfl | (simp; done) | (simp [*]; done)), H', ⟨by first | omega | exact Nat.le_refl _⟩, ⟨by repeat (first | (with_reducible first | exact HB.out | apply below_alloc | apply pw_below_drewN | apply below_drew1) | exact HB.out)⟩⟩
        · rw [if_neg c10] at H
          have c10b0 : ((ji3) == 0) = false := beq_eq_false_iff_ne.mpr c10
          have c10b1 : ((ji3) != 0) = true := bne_iff_ne.mpr c10
          (first | rw [c10b0] | (simp only [i64_w, i32_w]; rw [c10b0]) | skip)
          by_cases c11 : (ji3) = 3
          · rw [if_pos c11] at H
            have c11b0 : ((ji3) == 3) = true := beq_iff_eq.mpr c11
            have c11b1 : ((ji3) != 3) = false := bne_eq_false_iff_eq.mpr c11
            clear c11
            have H' := Aside0.mk H
            clear H
            go_wp2
            go_meet
            case rel => exact ⟨_, (true), (by first | rfl | (simp; done) | (simp [*]; done)), H', ⟨by first | omega | exact Nat.le_refl _⟩, ⟨by repeat (first | (with_reducible first | exact HB.out | apply below_alloc | apply pw_below_drewN | apply below_drew1) | exact HB.out)⟩⟩
          · rw [if_neg c11] at H
            have c11b0 : ((ji3) == 3) = false := beq_eq_false_iff_ne.mpr c11
            have c11b1 : ((ji3) != 3) = true := bne_iff_ne.mpr c11
            have H' := Aside0.mk H
            clear H
            go_wp2
            go_meet
            case rel => exact ⟨_, (((ji3) == 4)), (by first | rfl | (simp; done) | (simp only [← hji3] <;> (first | rfl | simp)) | (simp [*]; done)), H', ⟨by first | omega | exact Nat.le_refl _⟩, ⟨by repeat (first | (with_reducible first | exact HB.out | apply below_alloc | apply pw_below_drewN | apply below_drew1) | exact HB.out)⟩⟩
      case rest =>
        clear HC6
        try clear c1
        try clear p1
        try clear q1
        try clear hx1
        try clear p2
        try clear c4
        try clear c4b0
        try clear c5
        try clear c5b0
        try clear p6
        try clear c7
        try clear c10
        try clear c10b0
        try clear c10b1
        try clear c11
        try clear c11b0
        try clear c11b1
        try clear hx164_0
        try clear p164
        try clear q164
        obtain ⟨kq, x6_5, rfl, HA, HJ5, HB⟩ := hcut
        cases kq with
        | zero => exact absurd HA.out (by simp [spec_l1Quality.j0])
        | succ kj5 =>
          have H := HA.out
          clear HA
          simp only [spec_l1Quality.j0] at H
          by_cases c12 : a1 < (wrap64 ((rd y161 (ji3)) + (wrap64 (12 * (wrap64 (Int.tdiv a0 7))))))
          · rw [if_pos c12] at H
            have c12b0 : decide (a1 < (wrap64 ((rd y161 (ji3)) + (wrap64 (12 * (wrap64 (Int.tdiv a0 7))))))) = true := decide_eq_true c12
            clear c12
            obtain rfl := Option.some.inj H
            go_wp2
            go_ret
            exact ⟨by first | rfl | (simp [errW_none, errW_some] <;> rfl) | (simp only [← hji3]; first | rfl | (simp [errW_none, errW_some] <;> rfl)) | (simp [*, errW_none, errW_some] <;> rfl), by repeat (first | (with_reducible first | exact HB.out | apply below_alloc | apply pw_below_drewN | apply below_drew1) | exact HB.out)⟩
          · rw [if_neg c12] at H
            have c12b0 : decide (a1 < (wrap64 ((rd y161 (ji3)) + (wrap64 (12 * (wrap64 (Int.tdiv a0 7))))))) = false := decide_eq_false c12
            clear c12
            have HC13 := Aside0.mk H
            clear H
            go_upto_region 5 with (fail)
            go_cut [33] (fun v33 wc => ∃ (kq : Nat) (x33_12 : Bool), v33 = .bool x33_12 ∧ Aside0 (spec_l1Quality.j1 kq a1 (wrap64 ((rd y161 (ji3)) + (wrap64 (12 * (wrap64 (Int.tdiv a0 7)))))) x6_5 x33_12 = some r) ∧ Aside0 (kq ≤ kj5) ∧ Aside0 (Below w.heap.size w wc))
            case first =>
              have H := HC13.out
              clear HC13
              by_cases c14 : a1 = (wrap64 ((rd y161 (ji3)) + (wrap64 (12 * (wrap64 (Int.tdiv a0 7))))))
              · rw [if_pos c14] at H
                have c14b0 : (a1 == (wrap64 ((rd y161 (ji3)) + (wrap64 (12 * (wrap64 (Int.tdiv a0 7))))))) = true := beq_iff_eq.mpr c14
                have c14b1 : (a1 != (wrap64 ((rd y161 (ji3)) + (wrap64 (12 * (wrap64 (Int.tdiv a0 7))))))) = false := bne_eq_false_iff_eq.mpr c14
                clear c14
                (first | rw [c14b0] | (simp only [i64_w, i32_w]; rw [c14b0]) | skip)
                have H' := Aside0.mk H
                clear H
                go_wp2
                go_meet
                case rel => exact ⟨_, (x6_5), (by first | rfl | (simp; done) | (simp [*]; done)), H', ⟨by have := HJ5.out; first | omega | exact Nat.le_refl _⟩, ⟨by repeat (first | (with_reducible first | exact HB.out | apply below_alloc | apply pw_below_drewN | apply below_drew1) | exact HB.out)⟩⟩
              · rw [if_neg c14] at H
                have c14b0 : (a1 == (wrap64 ((rd y161 (ji3)) + (wrap64 (12 * (wrap64 (Int.tdiv a0 7))))))) = false := beq_eq_false_iff_ne.mpr c14
                have c14b1 : (a1 != (wrap64 ((rd y161 (ji3)) + (wrap64 (12 * (wrap64 (Int.tdiv a0 7))))))) = true := bne_iff_ne.mpr c14
                (first | rw [c14b0] | (simp only [i64_w, i32_w]; rw [c14b0]) | skip)
                have H' := Aside0.mk H
                clear H
                go_wp2
                go_meet
                case rel => exact ⟨_, (false), (by first | rfl | (simp; done) | (simp [*]; done)), H', ⟨by have := HJ5.out; first | omega | exact Nat.le_refl _⟩, ⟨by repeat (first | (with_reducible first | exact HB.out | apply below_alloc | apply pw_below_drewN | apply below_drew1) | exact HB.out)⟩⟩
            case rest =>
              clear HC13
              try clear c1
              try clear p1
              try clear q1
              try clear hx1
              try clear p2
              try clear c4
              try clear c4b0
              try clear c5
              try clear c5b0
              try clear p6
              try clear c7
              try clear c10
              try clear c10b0
              try clear c10b1
              try clear c11
              try clear c11b0
              try clear c11b1
              try clear c12
              try clear c12b0
              try clear c14
              try clear c14b0
              try clear c14b1
              try clear hx164_0
              try clear p1
              try clear p164
              try clear p2
              try clear p6
              try clear q1
              try clear q164
              obtain ⟨kq, x33_12, rfl, HA, HJ12, HB⟩ := hcut
              cases kq with
              | zero => exact absurd HA.out (by simp [spec_l1Quality.j1])
              | succ kj12 =>
                have H := HA.out
                clear HA
                simp only [spec_l1Quality.j1] at H
                by_cases c15 : x33_12 = true
                · subst c15
                  have H1 : (some (⟨#[112]⟩ : ByteArray)) = some r := by rw [if_pos rfl] at H; exact H
                  clear H
                  have H := H1
                  clear H1
                  obtain rfl := Option.some.inj H
                  go_wp2
                  go_ret
                  exact ⟨by first | rfl | (simp [errW_none, errW_some] <;> rfl) | (simp only [← hji3]; first | rfl | (simp [errW_none, errW_some] <;> rfl)) | (simp [*, errW_none, errW_some] <;> rfl), by repeat (first | (with_reducible first | exact HB.out | apply below_alloc | apply pw_below_drewN | apply below_drew1) | exact HB.out)⟩
                · replace c15 := Bool.eq_false_iff.mpr c15
                  subst c15
                  have H1 : (if a1 = (wrap64 ((rd y161 (ji3)) + (wrap64 (12 * (wrap64 (Int.tdiv a0 7)))))) then (some (⟨#[115]⟩ : ByteArray)) else (if a1 = (wrap64 ((wrap64 ((rd y161 (ji3)) + (wrap64 (12 * (wrap64 (Int.tdiv a0 7)))))) + 1)) then (if x6_5 = true then (some (⟨#[97]⟩ : ByteArray)) else (some (⟨#[103]⟩ : ByteArray))) else (some (⟨#[97]⟩ : ByteArray)))) = some r := by rw [if_neg (show ¬ (false = true) by decide)] at H; exact H
                  clear H
                  have H := H1
                  clear H1
                  by_cases c16 : a1 = (wrap64 ((rd y161 (ji3)) + (wrap64 (12 * (wrap64 (Int.tdiv a0 7))))))
                  · rw [if_pos c16] at H
                    have c16b0 : (a1 == (wrap64 ((rd y161 (ji3)) + (wrap64 (12 * (wrap64 (Int.tdiv a0 7))))))) = true := beq_iff_eq.mpr c16
                    have c16b1 : (a1 != (wrap64 ((rd y161 (ji3)) + (wrap64 (12 * (wrap64 (Int.tdiv a0 7))))))) = false := bne_eq_false_iff_eq.mpr c16
                    clear c16
                    obtain rfl := Option.some.inj H
                    go_wp2
                    go_ret
                    exact ⟨by first | rfl | (simp [errW_none, errW_some] <;> rfl) | (simp only [← hji3]; first | rfl | (simp [errW_none, errW_some] <;> rfl)) | (simp [*, errW_none, errW_some] <;> rfl), by repeat (first | (with_reducible first | exact HB.out | apply below_alloc | apply pw_below_drewN | apply below_drew1) | exact HB.out)⟩
                  · rw [if_neg c16] at H
                    have c16b0 : (a1 == (wrap64 ((rd y161 (ji3)) + (wrap64 (12 * (wrap64 (Int.tdiv a0 7))))))) = false := beq_eq_false_iff_ne.mpr c16
                    have c16b1 : (a1 != (wrap64 ((rd y161 (ji3)) + (wrap64 (12 * (wrap64 (Int.tdiv a0 7))))))) = true := bne_iff_ne.mpr c16
                    by_cases c17 : a1 = (wrap64 ((wrap64 ((rd y161 (ji3)) + (wrap64 (12 * (wrap64 (Int.tdiv a0 7)))))) + 1))
                    · rw [if_pos c17] at H
                      have c17b0 : (a1 == (wrap64 ((wrap64 ((rd y161 (ji3)) + (wrap64 (12 * (wrap64 (Int.tdiv a0 7)))))) + 1))) = true := beq_iff_eq.mpr c17
                      have c17b1 : (a1 != (wrap64 ((wrap64 ((rd y161 (ji3)) + (wrap64 (12 * (wrap64 (Int.tdiv a0 7)))))) + 1))) = false := bne_eq_false_iff_eq.mpr c17
                      clear c17
                      by_cases c18 : x6_5 = true
                      · subst c18
                        have H1 : (some (⟨#[97]⟩ : ByteArray)) = some r := by rw [if_pos rfl] at H; exact H
                        clear H
                        have H := H1
                        clear H1
                        obtain rfl := Option.some.inj H
                        go_wp2
                        go_ret
                        exact ⟨by first | rfl | (simp [errW_none, errW_some] <;> rfl) | (simp only [← hji3]; first | rfl | (simp [errW_none, errW_some] <;> rfl)) | (simp [*, errW_none, errW_some] <;> rfl), by repeat (first | (with_reducible first | exact HB.out | apply below_alloc | apply pw_below_drewN | apply below_drew1) | exact HB.out)⟩
                      · replace c18 := Bool.eq_false_iff.mpr c18
                        subst c18
                        have H1 : (some (⟨#[103]⟩ : ByteArray)) = some r := by rw [if_neg (show ¬ (false = true) by decide)] at H; exact H
                        clear H
                        have H := H1
                        clear H1
                        obtain rfl := Option.some.inj H
                        go_wp2
                        go_ret
                        exact ⟨by first | rfl | (simp [errW_none, errW_some] <;> rfl) | (simp only [← hji3]; first | rfl | (simp [errW_none, errW_some] <;> rfl)) | (simp [*, errW_none, errW_some] <;> rfl), by repeat (first | (with_reducible first | exact HB.out | apply below_alloc | apply pw_below_drewN | apply below_drew1) | exact HB.out)⟩
                    · rw [if_neg c17] at H
                      have c17b0 : (a1 == (wrap64 ((wrap64 ((rd y161 (ji3)) + (wrap64 (12 * (wrap64 (Int.tdiv a0 7)))))) + 1))) = false := beq_eq_false_iff_ne.mpr c17
                      have c17b1 : (a1 != (wrap64 ((wrap64 ((rd y161 (ji3)) + (wrap64 (12 * (wrap64 (Int.tdiv a0 7)))))) + 1))) = true := bne_iff_ne.mpr c17
                      obtain rfl := Option.some.inj H
                      go_wp2
                      go_ret
                      exact ⟨by first | rfl | (simp [errW_none, errW_some] <;> rfl) | (simp only [← hji3]; first | rfl | (simp [errW_none, errW_some] <;> rfl)) | (simp [*, errW_none, errW_some] <;> rfl), by repeat (first | (with_reducible first | exact HB.out | apply below_alloc | apply pw_below_drewN | apply below_drew1) | exact HB.out)⟩
    · rw [if_neg c5] at H
      exact absurd H (by simp)
  · rw [if_neg c4] at H
    exact absurd H (by simp)

end Go.Proofs.YtgiobmceippanaaDoor.G
