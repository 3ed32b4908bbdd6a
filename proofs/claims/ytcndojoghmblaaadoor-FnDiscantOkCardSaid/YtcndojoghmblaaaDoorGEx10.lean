-- Made by this session's gprint.py out of the translation. Not trusted: Lean checks it.
import Derived.Test.YtcndojoghmblaaaDoorGEx0
import Derived.Test.YtcndojoghmblaaaDoorGEx1
import Derived.Test.YtcndojoghmblaaaDoorGEx2
namespace Go.Proofs.YtcndojoghmblaaaDoor.GE
open Go.RowKit Go.Proofs.YtcndojoghmblaaaDoorW.PrintWords Go.Proofs.YtcndojoghmblaaaDoorW.PrintLast Go.Proofs.YtcndojoghmblaaaDoorW.PrintMore
attribute [local go_sem] max2_int min2_int max_two min_two max_three min_three max_four min_four   -- for this text's walks alone
set_option linter.unusedVariables false
set_option linter.unusedSimpArgs false

attribute [local go_sem high] eqA30
/-! ### impl_PartSlow: function 35 -/
def impl_PartSlow.l0 : Nat → List (S44) → List (S44) → Int → Int → Option ((List (S44)) × Bool)
 | 0, _, _, _, _ => none
 | k + 1, x4, x12, x13, x14 => if x14 < x13 then (if 0 ≤ x14 then (if x14 < (x12.length : Int) then (if (wrap64 ((x4.length : Int) - 1)) ≥ 0 then (if 0 ≤ (wrap64 ((x4.length : Int) - 1)) then (if (wrap64 ((x4.length : Int) - 1)) < (x4.length : Int) then (if (((rd_T44 x4 (wrap64 ((x4.length : Int) - 1))).f0.f0) == ((rd_T44 x12 x14).f0.f0) && (((rd_T44 x4 (wrap64 ((x4.length : Int) - 1))).f0.f1) == ((rd_T44 x12 x14).f0.f1))) = true then (if (wrap64 (((rd_T44 x4 (wrap64 ((x4.length : Int) - 1))).f1) + ((rd_T44 x12 x14).f1))) ≤ 3 then (impl_PartSlow.l0 k (x4.set ((wrap64 ((x4.length : Int) - 1)) : Int).toNat (⟨(⟨(rd_T44 x4 (wrap64 ((x4.length : Int) - 1))).f0.f0, (rd_T44 x4 (wrap64 ((x4.length : Int) - 1))).f0.f1⟩ : S30), wrap64 (((rd_T44 x4 (wrap64 ((x4.length : Int) - 1))).f1) + ((rd_T44 x12 x14).f1))⟩ : S44)) x12 x13 (wrap64 (x14 + 1))) else (if x4.length < 5864062014805 then (impl_PartSlow.l0 k (x4 ++ [(⟨(⟨(rd_T44 x12 x14).f0.f0, (rd_T44 x12 x14).f0.f1⟩ : S30), (rd_T44 x12 x14).f1⟩ : S44)]) x12 x13 (wrap64 (x14 + 1))) else (none))) else (if x4.length < 5864062014805 then (impl_PartSlow.l0 k (x4 ++ [(⟨(⟨(rd_T44 x12 x14).f0.f0, (rd_T44 x12 x14).f0.f1⟩ : S30), (rd_T44 x12 x14).f1⟩ : S44)]) x12 x13 (wrap64 (x14 + 1))) else (none))) else (none)) else (none)) else (if x4.length < 5864062014805 then (impl_PartSlow.l0 k (x4 ++ [(⟨(⟨(rd_T44 x12 x14).f0.f0, (rd_T44 x12 x14).f0.f1⟩ : S30), (rd_T44 x12 x14).f1⟩ : S44)]) x12 x13 (wrap64 (x14 + 1))) else (none))) else (none)) else (none)) else (some (x4, true))
def impl_PartSlow.f (k : Nat) (l0 : List (S44)) : Option ((List (S44)) × Bool) := (impl_PartValid.f k l0).bind fun t315 => (if t315 = true then (impl_PartSlow.l0 k (([] : List (S44))) l0 (l0.length : Int) 0) else (some (([] : List (S44)), false)))
def impl_PartSlow.T8 : Bool × List (List Nat × List Nat) := (true, [([], []), ([0], [0]), ([1], [1]), ([2], [2]), ([2], [2]), ([3, 4, 2], [2, 3, 4]), ([5, 2], [2, 5]), ([6, 2], [2, 6]), ([2], [2]), ([8, 2], [2, 8]), ([7, 9, 2], [2, 7, 9]), ([2, 10], [2, 10]), ([11, 2], [11]), ([12], [12]), ([12], [12]), ([13, 14, 12], [12, 13, 14]), ([15, 12], [12, 15]), ([16, 12], [12, 16]), ([12], [12]), ([18, 12], [12, 18]), ([17, 19, 12], [12, 17, 19]), ([20, 12], [12, 20]), ([12, 21], [12, 21])])
def impl_PartSlow.B8 : List Nat := [0, 1, 3, 7, 7, 31, 63, 127, 7, 263, 1023, 2047, 4095, 8191, 8191, 32767, 65535, 131071, 8191, 270335, 1048575, 2097151, 4194303]
theorem impl_PartSlow.tab8 : rtab .any (opsOf Tryd.f35 8) = impl_PartSlow.T8 := by kernel_rfl
theorem impl_PartSlow.bits8 : waitsOk impl_PartSlow.T8.2 impl_PartSlow.B8 = true := by kernel_rfl
def impl_PartSlow.T9 : Bool × List (List Nat × List Nat) := (true, [([], []), ([], []), ([0, 1], [0, 1]), ([2], [2]), ([3], [3]), ([], []), ([5], [5]), ([4, 6], [4, 6]), ([0, 1, 0, 1, 2, 3, 4, 5, 6, 7], [0, 1]), ([8, 0, 1, 2, 3, 4, 5, 6, 7], [8]), ([9, 7, 0, 1, 2, 3, 4, 5, 6, 7], [7, 9])])
def impl_PartSlow.B9 : List Nat := [0, 0, 3, 7, 15, 0, 32, 127, 255, 511, 1023]
theorem impl_PartSlow.tab9 : rtab .any (opsOf Tryd.f35 9) = impl_PartSlow.T9 := by kernel_rfl
theorem impl_PartSlow.bits9 : waitsOk impl_PartSlow.T9.2 impl_PartSlow.B9 = true := by kernel_rfl
set_option maxHeartbeats 8000000 in
set_option maxRecDepth 100000 in
theorem impl_PartSlow.calls (k : Nat) (A0 : Option Addr) (c0 : Nat) (l0 : List (S44)) (r1 : List (S44)) (r2 : Bool) (w : World) (hr0 : Kd.C k44 w A0 l0.length l0) (hc0 : l0.length ≤ c0) (h : impl_PartSlow.f k l0 = some (r1, r2)) :
  Calls Tryd.prog 35 #[.slice A0 l0.length c0] w fun e w' => ∃ v0_ : Value, e = .returned (.tuple #[v0_, .bool r2]) ∧ Kd.R k44 44 w' w.heap.size (fun _ => True) v0_ r1 ∧ Below w.heap.size w w' := by
 have hu44 := Tryd.underlying44
 have hu30 := Tryd.underlying30
 have HR0 := am hr0
 have HC0 := am hc0
 clear hr0 hc0
 have HB := am (Below.refl w.heap.size w)
 have H : ((impl_PartValid.f k l0).bind fun t315 => (if t315 = true then (impl_PartSlow.l0 k (([] : List (S44))) l0 (l0.length : Int) 0) else (some (([] : List (S44)), false)))) = some (r1, r2) := h
 clear h
 replace H := Option.bind_eq_some_iff.mp H
 obtain ⟨t315, A20, H⟩ := H
 replace H : (if t315 = true then (impl_PartSlow.l0 k (([] : List (S44))) l0 (l0.length : Int) 0) else (some (([] : List (S44)), false))) = some (r1, r2) := H
 have A2 := am A20
 clear A20
 by_cases c3 : t315 = true
 ·subst c3
  have H1 : (impl_PartSlow.l0 k (([] : List (S44))) l0 (l0.length : Int) 0) = some (r1, r2) := by rw [if_pos rfl] at H; exact H
  clear H
  have H := H1
  clear H1
  obtain ⟨y316, hy316⟩ : ∃ y_ : List (S44), y_ = (([] : List (S44))) := ⟨_, rfl⟩
  replace H : (impl_PartSlow.l0 k y316 l0 (l0.length : Int) 0) = some (r1, r2) := by first | (rw [hy316]; with_reducible exact H) | (have H2_ := (Option.bind_some _ _).symm.trans H; rw [hy316]; with_reducible exact H2_) | (have H2_ := (Option.bind_some _ _).symm.trans H; with_reducible exact H2_) | with_reducible exact H | (rw [hy316]; exact H) | exact H
  have Ny316 := am hy316
  clear hy316
  have H' := am H
  clear H
  go_enter Tryd.func35, Tryd.ntmps35
  go_wp2_with (first | ((with_reducible refine gate_callee (f := 84) rfl ?_); refine goesL_ (some 9) rfl rfl Tryd.func84 (by kernel_rfl) rfl #[.slice A0 l0.length c0] rfl (by (try simp only [List.map_toArray, List.map_cons, List.map_nil]); first | done | rfl | (simp only [List.length_drop, List.length_take]; rfl)) ?_; (with_reducible refine (impl_PartValid.calls k _ _ l0 true _ ?side1 ?side2 A2.out).mono ?_); (case side1 => exact cu HR0.out); (case side2 => exact HC0.out); rintro e w4 ⟨rfl, hb⟩; refine ⟨_, rfl, ?_⟩; have n0_ := am (below_step (bu HB.out) hb); clear HB; have HB := n0_; clear n0_; (try clear hb); (try clear hb2); (try clear hk); (try clear hi)) | ((with_reducible refine gate_dst (N := 11) rfl ?_); refine Kd.R_lit k44 _ 44 ?hg (N := 11) ?hd (xs := ([] : List (S44))) (inner := []) (ok := fun _ => True) (okp := fun _ => True) ?hr ?hp (fun _ hk => hk) trivial (Below.refl _ _) (Nat.le_refl _) (by simp) ?_; (case hd => rfl); (case hg => rfl); (case hr => first | (go_simp; done) | (go_simp; rfl)); (case hp => exact (Reps.none _ _)); intro v317 w5 ho6 hb hg_ hnew_; clear hg_ hnew_; (first | rw [← Ny316.out] at ho6 | (simp only [Int.reduceToNat] at ho6; rw [← Ny316.out] at ho6)); have n0_ := am (Kd.R_lower ho6 (below_size (bu HB.out))); have n1_ := am (below_step (bu HB.out) hb); clear HB; have HO318 := n0_; have HB := n1_; clear n0_ n1_; clear hb ho6))
  go_loopg [4, 14] k (fun kq v4 v14 w' => ∃ (x4_1 : List (S44)) (x14_1 : Int), v14 = .int .i64 x14_1 ∧ Aside0 (impl_PartSlow.l0 kq x4_1 l0 (l0.length : Int) x14_1 = some (r1, r2)) ∧ Aside0 (kq ≤ k) ∧ Aside0 (Kd.R k44 44 w' w.heap.size (fun _ => True) v4 x4_1) ∧ Aside0 (Below w.heap.size w w'))
  case atStart => exact ⟨(y316), (0), (by first | rfl | (simp; done) | (simp [*]; done)), H', ⟨Nat.le_refl _⟩, ⟨ru HO318.out⟩, ⟨bu HB.out⟩⟩
  case round =>
   clear H'
   try clear p2
   try clear c3
   obtain ⟨x4_1, x14_1, rfl, HA, HK1, HO_4, HB⟩ := hrel
   cases gk with
   | zero => exact absurd HA.out (by simp [impl_PartSlow.l0])
   | succ k1 =>
    have H := HA.out
    clear HA
    simp only [impl_PartSlow.l0] at H
    by_cases c7 : x14_1 < (l0.length : Int)
    ·rw [if_pos c7] at H
     have c7b0 : decide (x14_1 < (l0.length : Int)) = true := decide_eq_true c7
     clear c7
     by_cases c8 : 0 ≤ x14_1
     ·rw [if_pos c8] at H
      have c8b0 : decide (0 ≤ x14_1) = true := decide_eq_true c8
      clear c8
      by_cases c9 : x14_1 < (l0.length : Int)
      ·rw [if_pos c9] at H
       have c9b0 : decide (x14_1 < (l0.length : Int)) = true := decide_eq_true c9
       clear c9
       by_cases c10 : (wrap64 ((x4_1.length : Int) - 1)) ≥ 0
       ·rw [if_pos c10] at H
        have c10b0 : decide (0 ≤ (wrap64 ((x4_1.length : Int) - 1))) = true := decide_eq_true c10
        clear c10
        obtain ⟨ji11, hji11⟩ : ∃ j_ : Int, (wrap64 ((x4_1.length : Int) - 1)) = j_ := ⟨_, rfl⟩
        replace H : (if 0 ≤ (ji11) then (if (ji11) < (x4_1.length : Int) then (if (((rd_T44 x4_1 (ji11)).f0.f0) == ((rd_T44 l0 x14_1).f0.f0) && (((rd_T44 x4_1 (ji11)).f0.f1) == ((rd_T44 l0 x14_1).f0.f1))) = true then (if (wrap64 (((rd_T44 x4_1 (ji11)).f1) + ((rd_T44 l0 x14_1).f1))) ≤ 3 then (impl_PartSlow.l0 k1 (x4_1.set ((ji11) : Int).toNat (⟨(⟨(rd_T44 x4_1 (ji11)).f0.f0, (rd_T44 x4_1 (ji11)).f0.f1⟩ : S30), wrap64 (((rd_T44 x4_1 (ji11)).f1) + ((rd_T44 l0 x14_1).f1))⟩ : S44)) l0 (l0.length : Int) (wrap64 (x14_1 + 1))) else (if x4_1.length < 5864062014805 then (impl_PartSlow.l0 k1 (x4_1 ++ [(⟨(⟨(rd_T44 l0 x14_1).f0.f0, (rd_T44 l0 x14_1).f0.f1⟩ : S30), (rd_T44 l0 x14_1).f1⟩ : S44)]) l0 (l0.length : Int) (wrap64 (x14_1 + 1))) else (none))) else (if x4_1.length < 5864062014805 then (impl_PartSlow.l0 k1 (x4_1 ++ [(⟨(⟨(rd_T44 l0 x14_1).f0.f0, (rd_T44 l0 x14_1).f0.f1⟩ : S30), (rd_T44 l0 x14_1).f1⟩ : S44)]) l0 (l0.length : Int) (wrap64 (x14_1 + 1))) else (none))) else (none)) else (none)) = some (r1, r2) := by first | (rw [hji11] at H; exact H) | (simp only [hji11] at H ⊢; exact H)
        (try rw [hji11] at c10b0)
        have hji11w : (IntKind.i64.wrap ((x4_1.length : Int) - 1)) = ji11 := (i64_w _).trans hji11
        by_cases c12 : 0 ≤ (ji11)
        ·rw [if_pos c12] at H
         have c12b0 : decide (0 ≤ (ji11)) = true := decide_eq_true c12
         clear c12
         by_cases c13 : (ji11) < (x4_1.length : Int)
         ·rw [if_pos c13] at H
          have c13b0 : decide ((ji11) < (x4_1.length : Int)) = true := decide_eq_true c13
          clear c13
          by_cases c14 : (((rd_T44 x4_1 (ji11)).f0.f0) == ((rd_T44 l0 x14_1).f0.f0) && (((rd_T44 x4_1 (ji11)).f0.f1) == ((rd_T44 l0 x14_1).f0.f1))) = true
          ·rw [if_pos c14] at H
           have c14b0 : (((rd_T44 x4_1 (ji11)).f0.f0) == ((rd_T44 l0 x14_1).f0.f0) && (((rd_T44 x4_1 (ji11)).f0.f1) == ((rd_T44 l0 x14_1).f0.f1))) = true := c14
           (try (have c14b1 : decide (((rd_T44 x4_1 (ji11)).f0.f0) = ((rd_T44 l0 x14_1).f0.f0) && (((rd_T44 x4_1 (ji11)).f0.f1) == ((rd_T44 l0 x14_1).f0.f1))) = true := by simpa using c14))
           (try (have c14b2 : (((rd_T44 x4_1 (ji11)).f0.f0) == ((rd_T44 l0 x14_1).f0.f0) && (((rd_T44 x4_1 (ji11)).f0.f1) == ((rd_T44 l0 x14_1).f0.f1))) = true := by simpa using c14))
           clear c14
           by_cases c15 : (wrap64 (((rd_T44 x4_1 (ji11)).f1) + ((rd_T44 l0 x14_1).f1))) ≤ 3
           ·rw [if_pos c15] at H
            have c15b0 : decide ((wrap64 (((rd_T44 x4_1 (ji11)).f1) + ((rd_T44 l0 x14_1).f1))) ≤ 3) = true := decide_eq_true c15
            clear c15
            obtain ⟨y324, hy324⟩ : ∃ y_ : List (S44), y_ = (x4_1.set ((ji11) : Int).toNat (⟨(⟨(rd_T44 x4_1 (ji11)).f0.f0, (rd_T44 x4_1 (ji11)).f0.f1⟩ : S30), wrap64 (((rd_T44 x4_1 (ji11)).f1) + ((rd_T44 l0 x14_1).f1))⟩ : S44)) := ⟨_, rfl⟩
            replace H : (impl_PartSlow.l0 k1 y324 l0 (l0.length : Int) (wrap64 (x14_1 + 1))) = some (r1, r2) := by first | (rw [hy324]; with_reducible exact H) | (have H2_ := (Option.bind_some _ _).symm.trans H; rw [hy324]; with_reducible exact H2_) | (have H2_ := (Option.bind_some _ _).symm.trans H; with_reducible exact H2_) | with_reducible exact H | (rw [hy324]; exact H) | exact H
            have Ny324 := am hy324
            clear hy324
            have H' := am H
            clear H
            have p319 : 0 ≤ (x14_1 : Int) := od
            have q319 : x14_1 < (l0.length : Int) := od
            obtain ⟨ad319, e319, hx319_0, hx319_1, hx319_2⟩ := at_T44 HR0.out x14_1 p319 q319
            cases e319
            replace hx319_0 := (HB.out.cell (World.block_lt_of_cell? w _ hx319_0)).trans hx319_0
            replace hx319_1 := (HB.out.cell (World.block_lt_of_cell? w _ hx319_1)).trans hx319_1
            replace hx319_2 := (HB.out.cell (World.block_lt_of_cell? w _ hx319_2)).trans hx319_2
            replace p319 := eq_true p319
            replace q319 := eq_true q319
            try go_wp2_with (first | ((with_reducible refine gate_dst (N := 6) rfl ?_); refine box_event ?hg (N := 6) ?hd (cs := #[.int .i64 0, .bool false, .int .i64 0]) (t := 44) ?hr ?_; (case hd => rfl); (case hg => rfl); (case hr => first | (go_simp; done) | (go_simp; rfl)); intro gb320 hg w17 hbox hb; have n0_ := am (Kd.R_below (Kd.R_elderB (ru HO_4.out) gb320 (Nat.le_of_eq hg.symm)) hb); have n1_ := am (below_step (bu HB.out) hb); have n2_ := am (hbox); have n3_ := am ((by rw [hg]; exact (below_size (bu HB.out)) : w.heap.size ≤ gb320)); have n4_ := am ((by rw [hg]; exact (below_size (bu HB.out)) : w.heap.size ≤ gb320)); clear HO_4; clear HB; have HO_4 := n0_; have HB := n1_; have BK320 := n2_; have GW320 := n3_; have GE320 := n4_; clear n0_ n1_ n2_ n3_ n4_; clear hb hbox hg; have hcz18_0 : w17.cell? ⟨gb320, 0, none⟩ = some (.int .i64 0) := (blk_cell BK320.out 0).trans rfl; have hcz18_1 : w17.cell? ⟨gb320, 1, none⟩ = some (.bool false) := (blk_cell BK320.out 1).trans rfl; have hcz18_2 : w17.cell? ⟨gb320, 2, none⟩ = some (.int .i64 0) := (blk_cell BK320.out 2).trans rfl; have hfz18_0 := blk_frozen BK320.out 0; have hfz18_1 := blk_frozen BK320.out 1; have hfz18_2 := blk_frozen BK320.out 2; obtain ⟨Ao19, co19, eo19⟩ := Kd.R_slice HO_4.out; subst eo19))
            have n0_ : Aside0 (Kd.R k44 44 (((w17.setCell ⟨gb320, 0, none⟩ (.int .i64 ((rd_T44 l0 x14_1).f0.f0))).setCell ⟨gb320, 1, none⟩ (.bool ((rd_T44 l0 x14_1).f0.f1))).setCell ⟨gb320, 2, none⟩ (.int .i64 ((rd_T44 l0 x14_1).f1))) w.heap.size (fun k_ => k_ ≠ gb320) (.slice Ao19 x4_1.length co19) x4_1) := ⟨by (with_reducible repeat (first | apply Kd.R_alloc | apply Kd.R_drewN | apply Kd.R_drew)); exact Kd.R_mono (Kd.R_far (p := ⟨gb320, 2, none⟩) (Kd.R_far (p := ⟨gb320, 1, none⟩) (Kd.R_far (p := ⟨gb320, 0, none⟩) (Kd.R_mono HO_4.out (fun k_ hk => (⟨hk, hk.2⟩ : _ ∧ k_ ≠ gb320))) (fun _ hk => hk.2) (.int .i64 ((rd_T44 l0 x14_1).f0.f0))) (fun _ hk => hk.2) (.bool ((rd_T44 l0 x14_1).f0.f1))) (fun _ hk => hk.2) (.int .i64 ((rd_T44 l0 x14_1).f1))) (fun _ hk => hk.1.2)⟩
            have n1_ : Aside0 ((((w17.setCell ⟨gb320, 0, none⟩ (.int .i64 ((rd_T44 l0 x14_1).f0.f0))).setCell ⟨gb320, 1, none⟩ (.bool ((rd_T44 l0 x14_1).f0.f1))).setCell ⟨gb320, 2, none⟩ (.int .i64 ((rd_T44 l0 x14_1).f1))).heap[gb320]? = some (.cells #[.int .i64 ((rd_T44 l0 x14_1).f0.f0), .bool ((rd_T44 l0 x14_1).f0.f1), .int .i64 ((rd_T44 l0 x14_1).f1)] 44 (0, 0))) := ⟨by (with_reducible repeat (first | refine blk_drewN ?_ _ | refine blk_drew ?_ | refine blk_alloc ?_ _)); refine blk_put (cs := #[.int .i64 ((rd_T44 l0 x14_1).f0.f0), .bool ((rd_T44 l0 x14_1).f0.f1), .int .i64 0]) ?_ 2 _ rfl; (with_reducible repeat (first | refine blk_drewN ?_ _ | refine blk_drew ?_ | refine blk_alloc ?_ _)); refine blk_put (cs := #[.int .i64 ((rd_T44 l0 x14_1).f0.f0), .bool false, .int .i64 0]) ?_ 1 _ rfl; (with_reducible repeat (first | refine blk_drewN ?_ _ | refine blk_drew ?_ | refine blk_alloc ?_ _)); refine blk_put (cs := #[.int .i64 0, .bool false, .int .i64 0]) ?_ 0 _ rfl; (with_reducible repeat (first | refine blk_drewN ?_ _ | refine blk_drew ?_ | refine blk_alloc ?_ _)); exact BK320.out⟩
            have n2_ : Aside0 (Below w.heap.size w (((w17.setCell ⟨gb320, 0, none⟩ (.int .i64 ((rd_T44 l0 x14_1).f0.f0))).setCell ⟨gb320, 1, none⟩ (.bool ((rd_T44 l0 x14_1).f0.f1))).setCell ⟨gb320, 2, none⟩ (.int .i64 ((rd_T44 l0 x14_1).f1)))) := ⟨bu HB.out⟩
            (try clear HO_4)
            (try clear BK320)
            (try clear HB)
            generalize (((w17.setCell ⟨gb320, 0, none⟩ (.int .i64 ((rd_T44 l0 x14_1).f0.f0))).setCell ⟨gb320, 1, none⟩ (.bool ((rd_T44 l0 x14_1).f0.f1))).setCell ⟨gb320, 2, none⟩ (.int .i64 ((rd_T44 l0 x14_1).f1))) = w20 at n0_ n1_ n2_ ⊢
            have HO_4 := n0_
            have BK320 := n1_
            have HB := n2_
            clear n0_ n1_ n2_
            have n0_ := am (Kd.R_drew HO_4.out)
            have n1_ := am (blk_drew BK320.out)
            have n2_ := am (below_drew1 HB.out)
            clear HO_4
            clear BK320
            clear HB
            have HO_4 := n0_
            have BK320 := n1_
            have HB := n2_
            clear n0_ n1_ n2_
            have p321 : 0 ≤ ((ji11) : Int) := od
            have q321 : (ji11) < (x4_1.length : Int) := od
            obtain ⟨ad321, e321, hx321_0, hx321_1, hx321_2⟩ := at_T44 (Kd.R_reads' HO_4.out).2.2 (ji11) p321 q321
            cases e321
            replace p321 := eq_true p321
            replace q321 := eq_true q321
            have p322 : 0 ≤ ((ji11) : Int) := od
            have q322 : (ji11) < (x4_1.length : Int) := od
            obtain ⟨ad322, e322, hx322_0, hx322_1, hx322_2⟩ := at_T44 (Kd.R_reads' HO_4.out).2.2 (ji11) p322 q322
            obtain rfl : ad321 = ad322 := (by injection e322)
            replace p322 := eq_true p322
            replace q322 := eq_true q322
            refine start_ (n := 23) (S := fun w' => w'.cell? ⟨gb320, 0, none⟩ = some (.int .i64 ((rd_T44 l0 x14_1).f0.f0)) ∧ w'.cell? ⟨gb320, 1, none⟩ = some (.bool ((rd_T44 l0 x14_1).f0.f1)) ∧ w'.cell? ⟨gb320, 2, none⟩ = some (.int .i64 ((rd_T44 l0 x14_1).f1)) ∧ w'.cell? (ad321.add (((ji11)).toNat * 3)) = some (.int .i64 ((rd_T44 x4_1 (ji11)).f0.f0)) ∧ w'.cell? ⟨(ad321.add (((ji11)).toNat * 3)).block, (ad321.add (((ji11)).toNat * 3)).off + 1, none⟩ = some (.bool ((rd_T44 x4_1 (ji11)).f0.f1)) ∧ w'.cell? ⟨(ad321.add (((ji11)).toNat * 3)).block, (ad321.add (((ji11)).toNat * 3)).off + 2, none⟩ = some (.int .i64 ((rd_T44 x4_1 (ji11)).f1)) ∧ w'.cell? (ad321.add (((ji11)).toNat * 3)) = some (.int .i64 ((rd_T44 x4_1 (ji11)).f0.f0)) ∧ w'.cell? ⟨(ad321.add (((ji11)).toNat * 3)).block, (ad321.add (((ji11)).toNat * 3)).off + 1, none⟩ = some (.bool ((rd_T44 x4_1 (ji11)).f0.f1)) ∧ w'.cell? ⟨(ad321.add (((ji11)).toNat * 3)).block, (ad321.add (((ji11)).toNat * 3)).off + 2, none⟩ = some (.int .i64 ((rd_T44 x4_1 (ji11)).f1))) (ds := []) #[F,F,F,F,F,F,F,F,F,F,F,F,F,F,F,F,F,F,F,F,F,F,F] (by kernel_rfl) rfl rfl ⟨(blk_cell BK320.out 0).trans rfl, (blk_cell BK320.out 1).trans rfl, (blk_cell BK320.out 2).trans rfl, hx321_0, hx321_1, hx321_2, hx322_0, hx322_1, hx322_2⟩ (fun hHeld => ?_); refine with_tabW impl_PartSlow.tab8 impl_PartSlow.bits8 (fun HT_ HW_ => ?_)
            generalize w20.drew = w21 at HO_4 BK320 HB hx321_0 hx321_1 hx321_2 hx322_0 hx322_1 hx322_2 hHeld ⊢
            refine pz 0 (some 21) #[T,F,F,F,F,F,F,F,F,F,F,F,F,F,F,F,F,F,F,F,F,F,F] (any_of HT_.out (by kernel_rfl)) (h := ?_)
            refine pz 1 (some 22) #[T,T,F,F,F,F,F,F,F,F,F,F,F,F,F,F,F,F,F,F,F,F,F] (any_of HT_.out (by kernel_rfl)) (h := ?_)
            refine pz 2 (some 23) #[T,T,T,F,F,F,F,F,F,F,F,F,F,F,F,F,F,F,F,F,F,F,F] (any_of HT_.out (by kernel_rfl)) (h := ?_)
            refine pz 3 (some 24) #[T,T,T,T,F,F,F,F,F,F,F,F,F,F,F,F,F,F,F,F,F,F,F] (any_of HT_.out (by kernel_rfl)) (h := ?_)
            refine pz 4 (some 25) #[T,T,T,T,T,F,F,F,F,F,F,F,F,F,F,F,F,F,F,F,F,F,F] (any_of HT_.out (by kernel_rfl)) (h := ?_)
            refine pz 5 (some 26) #[T,T,T,T,T,T,F,F,F,F,F,F,F,F,F,F,F,F,F,F,F,F,F] (any_of HT_.out (by kernel_rfl)) (h := ?_)
            refine pz 6 (some 27) #[T,T,T,T,T,T,T,F,F,F,F,F,F,F,F,F,F,F,F,F,F,F,F] (any_of HT_.out (by kernel_rfl)) (h := ?_)
            refine pz 8 (some 29) #[T,T,T,T,T,T,T,F,T,F,F,F,F,F,F,F,F,F,F,F,F,F,F] (any_of HT_.out (by kernel_rfl)) (h := ?_)
            refine tz hHeld 7 (some 28) #[T,T,T,T,T,T,T,T,T,F,F,F,F,F,F,F,F,F,F,F,F,F,F] (take_ofW HT_.out HW_.out (by kernel_rfl)) (h := ?_)
            refine tz hHeld 9 (some 30) #[T,T,T,T,T,T,T,T,T,T,F,F,F,F,F,F,F,F,F,F,F,F,F] (take_ofW HT_.out HW_.out (by kernel_rfl)) (h := ?_)
            refine pz 10 (some 31) #[T,T,T,T,T,T,T,T,T,T,T,F,F,F,F,F,F,F,F,F,F,F,F] (any_of HT_.out (by kernel_rfl)) (h := ?_)
            refine pz 11 (some 32) #[T,T,T,T,T,T,T,T,T,T,T,T,F,F,F,F,F,F,F,F,F,F,F] (any_of HT_.out (by kernel_rfl)) (h := ?_)
            refine pz 12 (some 33) #[T,T,T,T,T,T,T,T,T,T,T,T,T,F,F,F,F,F,F,F,F,F,F] (any_of HT_.out (by kernel_rfl)) (h := ?_)
            refine pz 13 (some 34) #[T,T,T,T,T,T,T,T,T,T,T,T,T,T,F,F,F,F,F,F,F,F,F] (any_of HT_.out (by kernel_rfl)) (h := ?_)
            refine pz 14 (some 35) #[T,T,T,T,T,T,T,T,T,T,T,T,T,T,T,F,F,F,F,F,F,F,F] (any_of HT_.out (by kernel_rfl)) (h := ?_)
            refine pz 15 (some 36) #[T,T,T,T,T,T,T,T,T,T,T,T,T,T,T,T,F,F,F,F,F,F,F] (any_of HT_.out (by kernel_rfl)) (h := ?_)
            refine pz 16 (some 37) #[T,T,T,T,T,T,T,T,T,T,T,T,T,T,T,T,T,F,F,F,F,F,F] (any_of HT_.out (by kernel_rfl)) (h := ?_)
            refine pz 18 (some 39) #[T,T,T,T,T,T,T,T,T,T,T,T,T,T,T,T,T,F,T,F,F,F,F] (any_of HT_.out (by kernel_rfl)) (h := ?_)
            refine tz hHeld 17 (some 38) #[T,T,T,T,T,T,T,T,T,T,T,T,T,T,T,T,T,T,T,F,F,F,F] (take_ofW HT_.out HW_.out (by kernel_rfl)) (h := ?_)
            refine tz hHeld 19 (some 40) #[T,T,T,T,T,T,T,T,T,T,T,T,T,T,T,T,T,T,T,T,F,F,F] (take_ofW HT_.out HW_.out (by kernel_rfl)) (h := ?_)
            refine pz 20 (some 41) #[T,T,T,T,T,T,T,T,T,T,T,T,T,T,T,T,T,T,T,T,T,F,F] (any_of HT_.out (by kernel_rfl)) (h := ?_)
            refine pz 21 (some 42) #[T,T,T,T,T,T,T,T,T,T,T,T,T,T,T,T,T,T,T,T,T,T,F] (any_of HT_.out (by kernel_rfl)) (h := ?_)
            refine pz 22 (some 43) #[T,T,T,T,T,T,T,T,T,T,T,T,T,T,T,T,T,T,T,T,T,T,T] (any_of HT_.out (by kernel_rfl)) (h := ?_)
            refine done_ (done_of HT_.out (by kernel_rfl)) ?_
            try go_wp2
            have n0_ := am (Kd.R_drew HO_4.out)
            have n1_ := am (blk_drew BK320.out)
            have n2_ := am (below_drew1 HB.out)
            clear HO_4
            clear BK320
            clear HB
            have HO_4 := n0_
            have BK320 := n1_
            have HB := n2_
            clear n0_ n1_ n2_
            have p323 : 0 ≤ ((ji11) : Int) := od
            have q323 : (ji11) < (x4_1.length : Int) := od
            obtain ⟨ad323, e323, hx323_0, hx323_1, hx323_2⟩ := at_T44 (Kd.R_reads' HO_4.out).2.2 (ji11) p323 q323
            obtain rfl : ad321 = ad323 := (by injection e323)
            replace p323 := eq_true p323
            replace q323 := eq_true q323
            have p16 : 0 ≤ ((ji11) : Int) := od
            have q16 : ((ji11) : Int) < ((x4_1.length : Int) : Int) := od
            obtain ⟨go16, co16, eo16, gb16, gl16, cl16, HG16⟩ := Kd.R_form HO_4.out (by omega)
            (first | cases eo16 | (injection eo16 with ea_ en_ ec_; (first | subst ea_ | (injection ea_ with ea_; subst ea_)); subst ec_; clear en_))
            have GB16 := am gb16
            have GG16 := am HG16
            clear gb16 gl16 HG16
            (first | simp only [add_plain] at hx321_0 | skip)
            (first | simp only [add_plain] at hx321_1 | skip)
            (first | simp only [add_plain] at hx321_2 | skip)
            (first | simp only [add_plain] at hx322_0 | skip)
            (first | simp only [add_plain] at hx322_1 | skip)
            (first | simp only [add_plain] at hx322_2 | skip)
            (first | simp only [add_plain] at hx323_0 | skip)
            (first | simp only [add_plain] at hx323_1 | skip)
            (first | simp only [add_plain] at hx323_2 | skip)
            obtain ⟨ce16, hcl16, hM16, hcc16, hfr16⟩ := Kd.R_elem HO_4.out z44 ((ji11) : Int) p16 q16
            obtain rfl := k44_openM hM16
            have hx16_0 : World.cell? _ ⟨go16, ((ji11) : Int).toNat * 3, none⟩ = some (.int .i64 ((rd_T44 x4_1 (ji11)).f0.f0)) := hcc16 0 _ rfl
            have hx16_1 : World.cell? _ ⟨go16, ((ji11) : Int).toNat * 3 + 1, none⟩ = some (.bool ((rd_T44 x4_1 (ji11)).f0.f1)) := hcc16 1 _ rfl
            have hx16_2 : World.cell? _ ⟨go16, ((ji11) : Int).toNat * 3 + 2, none⟩ = some (.int .i64 ((rd_T44 x4_1 (ji11)).f1)) := hcc16 2 _ rfl
            have hf16_0 : World.frozen? _ ⟨go16, ((ji11) : Int).toNat * 3, none⟩ = false := hfr16 0
            have hf16_1 : World.frozen? _ ⟨go16, ((ji11) : Int).toNat * 3 + 1, none⟩ = false := hfr16 1
            have hf16_2 : World.frozen? _ ⟨go16, ((ji11) : Int).toNat * 3 + 2, none⟩ = false := hfr16 2
            clear hcl16 hcc16 hfr16 hM16
            replace p16 := eq_true p16
            replace q16 := eq_true q16
            obtain ⟨ce23, hcl23, hM23, hcc23, hfr23⟩ := Kd.R_elem HO_4.out z44 ((ji11) : Int) (od) (by have h_ : ((ji11) : Int) < ((x4_1.length : Int) : Int) := od; first | exact h_ | (have e_ := (Kd.R_reads' HO_4.out).1; omega) | simpa using h_)
            obtain rfl := k44_openM hM23
            have HP23 := (Kd.R_seg HO_4.out ((ji11) : Int) (od) (by have h_ : ((ji11) : Int) < ((x4_1.length : Int) : Int) := od; first | exact h_ | (have e_ := (Kd.R_reads' HO_4.out).1; omega) | simpa using h_) (seg := [.int .i64 (wrap64 (((rd_T44 x4_1 (ji11)).f1) + ((rd_T44 l0 x14_1).f1)))]) (j := 2) hcl23 hcc23 (show 3 ≤ 3 from by decide) (x' := (⟨(⟨(rd_T44 x4_1 (ji11)).f0.f0, (rd_T44 x4_1 (ji11)).f0.f1⟩ : S30), wrap64 (((rd_T44 x4_1 (ji11)).f1) + ((rd_T44 l0 x14_1).f1))⟩ : S44)) (k44_mkM _ _ _ (⟨(⟨(rd_T44 x4_1 (ji11)).f0.f0, (rd_T44 x4_1 (ji11)).f0.f1⟩ : S30), wrap64 (((rd_T44 x4_1 (ji11)).f1) + ((rd_T44 l0 x14_1).f1))⟩ : S44) ) (fun _ hk => hk)).1
            rw [← Ny324.out] at HP23
            have HQ23 := am HP23
            clear hcl23 hcc23 hfr23 hM23 HP23
            refine start_ (n := 11) (S := fun w' => w'.cell? ⟨gb320, 0, none⟩ = some (.int .i64 ((rd_T44 l0 x14_1).f0.f0)) ∧ w'.cell? ⟨gb320, 1, none⟩ = some (.bool ((rd_T44 l0 x14_1).f0.f1)) ∧ w'.cell? ⟨gb320, 2, none⟩ = some (.int .i64 ((rd_T44 l0 x14_1).f1)) ∧ w'.cell? ⟨go16, ((ji11)).toNat * 3, none⟩ = some (.int .i64 ((rd_T44 x4_1 (ji11)).f0.f0)) ∧ w'.cell? ⟨go16, ((ji11)).toNat * 3 + 1, none⟩ = some (.bool ((rd_T44 x4_1 (ji11)).f0.f1)) ∧ w'.cell? ⟨go16, ((ji11)).toNat * 3 + 2, none⟩ = some (.int .i64 ((rd_T44 x4_1 (ji11)).f1))) (ds := [10]) #[F,F,F,F,F,F,F,F,F,F,F] (by kernel_rfl) rfl rfl ⟨(blk_cell BK320.out 0).trans rfl, (blk_cell BK320.out 1).trans rfl, (blk_cell BK320.out 2).trans rfl, hx323_0, hx323_1, hx323_2⟩ (fun hHeld => ?_); refine with_tabW impl_PartSlow.tab9 impl_PartSlow.bits9 (fun HT_ HW_ => ?_)
            generalize w21.drew = w22 at HO_4 BK320 HB GG16 HQ23 hf16_0 hf16_1 hf16_2 hx16_0 hx16_1 hx16_2 hx321_0 hx321_1 hx321_2 hx322_0 hx322_1 hx322_2 hx323_0 hx323_1 hx323_2 hHeld ⊢
            refine pz 0 (some 44) #[T,F,F,F,F,F,F,F,F,F,F] (any_of HT_.out (by kernel_rfl)) (h := ?_)
            refine pz 1 (some 45) #[T,T,F,F,F,F,F,F,F,F,F] (any_of HT_.out (by kernel_rfl)) (h := ?_)
            refine pz 2 (some 46) #[T,T,T,F,F,F,F,F,F,F,F] (any_of HT_.out (by kernel_rfl)) (h := ?_)
            refine pz 3 (some 47) #[T,T,T,T,F,F,F,F,F,F,F] (any_of HT_.out (by kernel_rfl)) (h := ?_)
            refine pz 5 (some 49) #[T,T,T,T,F,T,F,F,F,F,F] (any_of HT_.out (by kernel_rfl)) (h := ?_)
            refine tz hHeld 4 (some 48) #[T,T,T,T,T,T,F,F,F,F,F] (take_ofW HT_.out HW_.out (by kernel_rfl)) (h := ?_)
            refine tz hHeld 6 (some 50) #[T,T,T,T,T,T,T,F,F,F,F] (take_ofW HT_.out HW_.out (by kernel_rfl)) (h := ?_)
            refine pz 7 (some 51) #[T,T,T,T,T,T,T,T,F,F,F] (any_of HT_.out (by kernel_rfl)) (h := ?_)
            refine pz 8 (some 52) #[T,T,T,T,T,T,T,T,T,F,F] (any_of HT_.out (by kernel_rfl)) (h := ?_)
            refine pz 9 (some 53) #[T,T,T,T,T,T,T,T,T,T,F] (any_of HT_.out (by kernel_rfl)) (h := ?_)
            refine last_ (i := 10) (N := none) #[T,T,T,T,T,T,T,T,T,T,T] rfl rfl (one_of HT_.out (by kernel_rfl)) (by decide) (fun K hK => ?_)
            refine skip_ (w1 := ?_) (by rfl) rfl ?_ ?_
            rotate_left
            ·go_simp
             rfl
            refine hK.out _ _ ?_
            clear hK K
            refine done_ (done_of HT_.out (by kernel_rfl)) ?_
            try go_wp2
            go_roundg k1
            case measure => have := HK1.out; omega
            case rel => exact ⟨(y324), (wrap64 (x14_1 + 1)), (by first | rfl | (simp; done) | (simp [*]; done)), H', ⟨by have := HK1.out; omega⟩, ⟨by (with_reducible repeat (first | apply Kd.R_alloc | apply Kd.R_drewN | apply Kd.R_drew)); exact Kd.R_mono HQ23.out (fun _ hk => trivial)⟩, ⟨by repeat (first | (with_reducible first | exact HB.out | apply below_alloc | apply pw_below_drewN | apply below_drew1 | refine below_set ?_ GB16.out | refine below_set ?_ GE320.out) | exact HB.out)⟩⟩
           ·rw [if_neg c15] at H
            have c15b0 : decide ((wrap64 (((rd_T44 x4_1 (ji11)).f1) + ((rd_T44 l0 x14_1).f1))) ≤ 3) = false := decide_eq_false c15
            clear c15
            by_cases c24 : x4_1.length < 5864062014805
            ·rw [if_pos c24] at H
             have LMc24 := am c24
             clear c24
             obtain ⟨y325, hy325⟩ : ∃ y_ : List (S44), y_ = (x4_1 ++ [(⟨(⟨(rd_T44 l0 x14_1).f0.f0, (rd_T44 l0 x14_1).f0.f1⟩ : S30), (rd_T44 l0 x14_1).f1⟩ : S44)]) := ⟨_, rfl⟩
             replace H : (impl_PartSlow.l0 k1 y325 l0 (l0.length : Int) (wrap64 (x14_1 + 1))) = some (r1, r2) := by first | (rw [hy325]; with_reducible exact H) | (have H2_ := (Option.bind_some _ _).symm.trans H; rw [hy325]; with_reducible exact H2_) | (have H2_ := (Option.bind_some _ _).symm.trans H; with_reducible exact H2_) | with_reducible exact H | (rw [hy325]; exact H) | exact H
             have Ny325 := am hy325
             clear hy325
             have H' := am H
             clear H
             have p319 : 0 ≤ (x14_1 : Int) := od
             have q319 : x14_1 < (l0.length : Int) := od
             obtain ⟨ad319, e319, hx319_0, hx319_1, hx319_2⟩ := at_T44 HR0.out x14_1 p319 q319
             cases e319
             replace hx319_0 := (HB.out.cell (World.block_lt_of_cell? w _ hx319_0)).trans hx319_0
             replace hx319_1 := (HB.out.cell (World.block_lt_of_cell? w _ hx319_1)).trans hx319_1
             replace hx319_2 := (HB.out.cell (World.block_lt_of_cell? w _ hx319_2)).trans hx319_2
             replace p319 := eq_true p319
             replace q319 := eq_true q319
             try go_wp2_with (first | ((with_reducible refine gate_dst (N := 6) rfl ?_); refine box_event ?hg (N := 6) ?hd (cs := #[.int .i64 0, .bool false, .int .i64 0]) (t := 44) ?hr ?_; (case hd => rfl); (case hg => rfl); (case hr => first | (go_simp; done) | (go_simp; rfl)); intro gb320 hg w25 hbox hb; have n0_ := am (Kd.R_below (Kd.R_elderB (ru HO_4.out) gb320 (Nat.le_of_eq hg.symm)) hb); have n1_ := am (below_step (bu HB.out) hb); have n2_ := am (hbox); have n3_ := am ((by rw [hg]; exact (below_size (bu HB.out)) : w.heap.size ≤ gb320)); have n4_ := am ((by rw [hg]; exact (below_size (bu HB.out)) : w.heap.size ≤ gb320)); clear HO_4; clear HB; have HO_4 := n0_; have HB := n1_; have BK320 := n2_; have GW320 := n3_; have GE320 := n4_; clear n0_ n1_ n2_ n3_ n4_; clear hb hbox hg; have hcz26_0 : w25.cell? ⟨gb320, 0, none⟩ = some (.int .i64 0) := (blk_cell BK320.out 0).trans rfl; have hcz26_1 : w25.cell? ⟨gb320, 1, none⟩ = some (.bool false) := (blk_cell BK320.out 1).trans rfl; have hcz26_2 : w25.cell? ⟨gb320, 2, none⟩ = some (.int .i64 0) := (blk_cell BK320.out 2).trans rfl; have hfz26_0 := blk_frozen BK320.out 0; have hfz26_1 := blk_frozen BK320.out 1; have hfz26_2 := blk_frozen BK320.out 2; obtain ⟨Ao27, co27, eo27⟩ := Kd.R_slice HO_4.out; subst eo27))
             have n0_ : Aside0 (Kd.R k44 44 (((w25.setCell ⟨gb320, 0, none⟩ (.int .i64 ((rd_T44 l0 x14_1).f0.f0))).setCell ⟨gb320, 1, none⟩ (.bool ((rd_T44 l0 x14_1).f0.f1))).setCell ⟨gb320, 2, none⟩ (.int .i64 ((rd_T44 l0 x14_1).f1))) w.heap.size (fun k_ => k_ ≠ gb320) (.slice Ao27 x4_1.length co27) x4_1) := ⟨by (with_reducible repeat (first | apply Kd.R_alloc | apply Kd.R_drewN | apply Kd.R_drew)); exact Kd.R_mono (Kd.R_far (p := ⟨gb320, 2, none⟩) (Kd.R_far (p := ⟨gb320, 1, none⟩) (Kd.R_far (p := ⟨gb320, 0, none⟩) (Kd.R_mono HO_4.out (fun k_ hk => (⟨hk, hk.2⟩ : _ ∧ k_ ≠ gb320))) (fun _ hk => hk.2) (.int .i64 ((rd_T44 l0 x14_1).f0.f0))) (fun _ hk => hk.2) (.bool ((rd_T44 l0 x14_1).f0.f1))) (fun _ hk => hk.2) (.int .i64 ((rd_T44 l0 x14_1).f1))) (fun _ hk => hk.1.2)⟩
             have n1_ : Aside0 ((((w25.setCell ⟨gb320, 0, none⟩ (.int .i64 ((rd_T44 l0 x14_1).f0.f0))).setCell ⟨gb320, 1, none⟩ (.bool ((rd_T44 l0 x14_1).f0.f1))).setCell ⟨gb320, 2, none⟩ (.int .i64 ((rd_T44 l0 x14_1).f1))).heap[gb320]? = some (.cells #[.int .i64 ((rd_T44 l0 x14_1).f0.f0), .bool ((rd_T44 l0 x14_1).f0.f1), .int .i64 ((rd_T44 l0 x14_1).f1)] 44 (0, 0))) := ⟨by (with_reducible repeat (first | refine blk_drewN ?_ _ | refine blk_drew ?_ | refine blk_alloc ?_ _)); refine blk_put (cs := #[.int .i64 ((rd_T44 l0 x14_1).f0.f0), .bool ((rd_T44 l0 x14_1).f0.f1), .int .i64 0]) ?_ 2 _ rfl; (with_reducible repeat (first | refine blk_drewN ?_ _ | refine blk_drew ?_ | refine blk_alloc ?_ _)); refine blk_put (cs := #[.int .i64 ((rd_T44 l0 x14_1).f0.f0), .bool false, .int .i64 0]) ?_ 1 _ rfl; (with_reducible repeat (first | refine blk_drewN ?_ _ | refine blk_drew ?_ | refine blk_alloc ?_ _)); refine blk_put (cs := #[.int .i64 0, .bool false, .int .i64 0]) ?_ 0 _ rfl; (with_reducible repeat (first | refine blk_drewN ?_ _ | refine blk_drew ?_ | refine blk_alloc ?_ _)); exact BK320.out⟩
             have n2_ : Aside0 (Below w.heap.size w (((w25.setCell ⟨gb320, 0, none⟩ (.int .i64 ((rd_T44 l0 x14_1).f0.f0))).setCell ⟨gb320, 1, none⟩ (.bool ((rd_T44 l0 x14_1).f0.f1))).setCell ⟨gb320, 2, none⟩ (.int .i64 ((rd_T44 l0 x14_1).f1)))) := ⟨bu HB.out⟩
             (try clear HO_4)
             (try clear BK320)
             (try clear HB)
             generalize (((w25.setCell ⟨gb320, 0, none⟩ (.int .i64 ((rd_T44 l0 x14_1).f0.f0))).setCell ⟨gb320, 1, none⟩ (.bool ((rd_T44 l0 x14_1).f0.f1))).setCell ⟨gb320, 2, none⟩ (.int .i64 ((rd_T44 l0 x14_1).f1))) = w28 at n0_ n1_ n2_ ⊢
             have HO_4 := n0_
             have BK320 := n1_
             have HB := n2_
             clear n0_ n1_ n2_
             have n0_ := am (Kd.R_drew HO_4.out)
             have n1_ := am (blk_drew BK320.out)
             have n2_ := am (below_drew1 HB.out)
             clear HO_4
             clear BK320
             clear HB
             have HO_4 := n0_
             have BK320 := n1_
             have HB := n2_
             clear n0_ n1_ n2_
             have p321 : 0 ≤ ((ji11) : Int) := od
             have q321 : (ji11) < (x4_1.length : Int) := od
             obtain ⟨ad321, e321, hx321_0, hx321_1, hx321_2⟩ := at_T44 (Kd.R_reads' HO_4.out).2.2 (ji11) p321 q321
             cases e321
             replace p321 := eq_true p321
             replace q321 := eq_true q321
             have p322 : 0 ≤ ((ji11) : Int) := od
             have q322 : (ji11) < (x4_1.length : Int) := od
             obtain ⟨ad322, e322, hx322_0, hx322_1, hx322_2⟩ := at_T44 (Kd.R_reads' HO_4.out).2.2 (ji11) p322 q322
             obtain rfl : ad321 = ad322 := (by injection e322)
             replace p322 := eq_true p322
             replace q322 := eq_true q322
             refine start_ (n := 23) (S := fun w' => w'.cell? ⟨gb320, 0, none⟩ = some (.int .i64 ((rd_T44 l0 x14_1).f0.f0)) ∧ w'.cell? ⟨gb320, 1, none⟩ = some (.bool ((rd_T44 l0 x14_1).f0.f1)) ∧ w'.cell? ⟨gb320, 2, none⟩ = some (.int .i64 ((rd_T44 l0 x14_1).f1)) ∧ w'.cell? (ad321.add (((ji11)).toNat * 3)) = some (.int .i64 ((rd_T44 x4_1 (ji11)).f0.f0)) ∧ w'.cell? ⟨(ad321.add (((ji11)).toNat * 3)).block, (ad321.add (((ji11)).toNat * 3)).off + 1, none⟩ = some (.bool ((rd_T44 x4_1 (ji11)).f0.f1)) ∧ w'.cell? ⟨(ad321.add (((ji11)).toNat * 3)).block, (ad321.add (((ji11)).toNat * 3)).off + 2, none⟩ = some (.int .i64 ((rd_T44 x4_1 (ji11)).f1)) ∧ w'.cell? (ad321.add (((ji11)).toNat * 3)) = some (.int .i64 ((rd_T44 x4_1 (ji11)).f0.f0)) ∧ w'.cell? ⟨(ad321.add (((ji11)).toNat * 3)).block, (ad321.add (((ji11)).toNat * 3)).off + 1, none⟩ = some (.bool ((rd_T44 x4_1 (ji11)).f0.f1)) ∧ w'.cell? ⟨(ad321.add (((ji11)).toNat * 3)).block, (ad321.add (((ji11)).toNat * 3)).off + 2, none⟩ = some (.int .i64 ((rd_T44 x4_1 (ji11)).f1))) (ds := []) #[F,F,F,F,F,F,F,F,F,F,F,F,F,F,F,F,F,F,F,F,F,F,F] (by kernel_rfl) rfl rfl ⟨(blk_cell BK320.out 0).trans rfl, (blk_cell BK320.out 1).trans rfl, (blk_cell BK320.out 2).trans rfl, hx321_0, hx321_1, hx321_2, hx322_0, hx322_1, hx322_2⟩ (fun hHeld => ?_); refine with_tabW impl_PartSlow.tab8 impl_PartSlow.bits8 (fun HT_ HW_ => ?_)
             generalize w28.drew = w29 at HO_4 BK320 HB hx321_0 hx321_1 hx321_2 hx322_0 hx322_1 hx322_2 hHeld ⊢
             refine pz 0 (some 21) #[T,F,F,F,F,F,F,F,F,F,F,F,F,F,F,F,F,F,F,F,F,F,F] (any_of HT_.out (by kernel_rfl)) (h := ?_)
             refine pz 1 (some 22) #[T,T,F,F,F,F,F,F,F,F,F,F,F,F,F,F,F,F,F,F,F,F,F] (any_of HT_.out (by kernel_rfl)) (h := ?_)
             refine pz 2 (some 23) #[T,T,T,F,F,F,F,F,F,F,F,F,F,F,F,F,F,F,F,F,F,F,F] (any_of HT_.out (by kernel_rfl)) (h := ?_)
             refine pz 3 (some 24) #[T,T,T,T,F,F,F,F,F,F,F,F,F,F,F,F,F,F,F,F,F,F,F] (any_of HT_.out (by kernel_rfl)) (h := ?_)
             refine pz 4 (some 25) #[T,T,T,T,T,F,F,F,F,F,F,F,F,F,F,F,F,F,F,F,F,F,F] (any_of HT_.out (by kernel_rfl)) (h := ?_)
             refine pz 5 (some 26) #[T,T,T,T,T,T,F,F,F,F,F,F,F,F,F,F,F,F,F,F,F,F,F] (any_of HT_.out (by kernel_rfl)) (h := ?_)
             refine pz 6 (some 27) #[T,T,T,T,T,T,T,F,F,F,F,F,F,F,F,F,F,F,F,F,F,F,F] (any_of HT_.out (by kernel_rfl)) (h := ?_)
             refine pz 8 (some 29) #[T,T,T,T,T,T,T,F,T,F,F,F,F,F,F,F,F,F,F,F,F,F,F] (any_of HT_.out (by kernel_rfl)) (h := ?_)
             refine tz hHeld 7 (some 28) #[T,T,T,T,T,T,T,T,T,F,F,F,F,F,F,F,F,F,F,F,F,F,F] (take_ofW HT_.out HW_.out (by kernel_rfl)) (h := ?_)
             refine tz hHeld 9 (some 30) #[T,T,T,T,T,T,T,T,T,T,F,F,F,F,F,F,F,F,F,F,F,F,F] (take_ofW HT_.out HW_.out (by kernel_rfl)) (h := ?_)
             refine pz 10 (some 31) #[T,T,T,T,T,T,T,T,T,T,T,F,F,F,F,F,F,F,F,F,F,F,F] (any_of HT_.out (by kernel_rfl)) (h := ?_)
             refine pz 11 (some 32) #[T,T,T,T,T,T,T,T,T,T,T,T,F,F,F,F,F,F,F,F,F,F,F] (any_of HT_.out (by kernel_rfl)) (h := ?_)
             refine pz 12 (some 33) #[T,T,T,T,T,T,T,T,T,T,T,T,T,F,F,F,F,F,F,F,F,F,F] (any_of HT_.out (by kernel_rfl)) (h := ?_)
             refine pz 13 (some 34) #[T,T,T,T,T,T,T,T,T,T,T,T,T,T,F,F,F,F,F,F,F,F,F] (any_of HT_.out (by kernel_rfl)) (h := ?_)
             refine pz 14 (some 35) #[T,T,T,T,T,T,T,T,T,T,T,T,T,T,T,F,F,F,F,F,F,F,F] (any_of HT_.out (by kernel_rfl)) (h := ?_)
             refine pz 15 (some 36) #[T,T,T,T,T,T,T,T,T,T,T,T,T,T,T,T,F,F,F,F,F,F,F] (any_of HT_.out (by kernel_rfl)) (h := ?_)
             refine pz 16 (some 37) #[T,T,T,T,T,T,T,T,T,T,T,T,T,T,T,T,T,F,F,F,F,F,F] (any_of HT_.out (by kernel_rfl)) (h := ?_)
             refine pz 18 (some 39) #[T,T,T,T,T,T,T,T,T,T,T,T,T,T,T,T,T,F,T,F,F,F,F] (any_of HT_.out (by kernel_rfl)) (h := ?_)
             refine tz hHeld 17 (some 38) #[T,T,T,T,T,T,T,T,T,T,T,T,T,T,T,T,T,T,T,F,F,F,F] (take_ofW HT_.out HW_.out (by kernel_rfl)) (h := ?_)
             refine tz hHeld 19 (some 40) #[T,T,T,T,T,T,T,T,T,T,T,T,T,T,T,T,T,T,T,T,F,F,F] (take_ofW HT_.out HW_.out (by kernel_rfl)) (h := ?_)
             refine pz 20 (some 41) #[T,T,T,T,T,T,T,T,T,T,T,T,T,T,T,T,T,T,T,T,T,F,F] (any_of HT_.out (by kernel_rfl)) (h := ?_)
             refine pz 21 (some 42) #[T,T,T,T,T,T,T,T,T,T,T,T,T,T,T,T,T,T,T,T,T,T,F] (any_of HT_.out (by kernel_rfl)) (h := ?_)
             refine pz 22 (some 43) #[T,T,T,T,T,T,T,T,T,T,T,T,T,T,T,T,T,T,T,T,T,T,T] (any_of HT_.out (by kernel_rfl)) (h := ?_)
             refine done_ (done_of HT_.out (by kernel_rfl)) ?_
             have hcz30_0 : w29.cell? ⟨gb320, 0, none⟩ = some (.int .i64 ((rd_T44 l0 x14_1).f0.f0)) := (blk_cell BK320.out 0).trans rfl
             have hcz30_1 : w29.cell? ⟨gb320, 1, none⟩ = some (.bool ((rd_T44 l0 x14_1).f0.f1)) := (blk_cell BK320.out 1).trans rfl
             have hcz30_2 : w29.cell? ⟨gb320, 2, none⟩ = some (.int .i64 ((rd_T44 l0 x14_1).f1)) := (blk_cell BK320.out 2).trans rfl
             have hfz30_0 := blk_frozen BK320.out 0
             have hfz30_1 := blk_frozen BK320.out 1
             have hfz30_2 := blk_frozen BK320.out 2
             try go_wp2_with (first | ((with_reducible refine gate_builtin (b := .append) (xs := #[.tmp 54, .tmp 56]) rfl ?_); at_builtin; refine Kd.R_append k44 (w0 := w) w.heap.size rfl (.tmp 54) (.tmp 56) 23 44 (.agg #[(.int .i64 0), (.bool false), (.int .i64 0)]) 24 rfl Tryd.underlying23 info44 rfl (by decide) (by omega) (.slice (some ad321) x4_1.length co27) x4_1 (⟨(⟨(rd_T44 l0 x14_1).f0.f0, (rd_T44 l0 x14_1).f0.f1⟩ : S30), (rd_T44 l0 x14_1).f1⟩ : S44) [.int .i64 ((rd_T44 l0 x14_1).f0.f0), .bool ((rd_T44 l0 x14_1).f0.f1), .int .i64 ((rd_T44 l0 x14_1).f1)] (fun k_ => k_ ≠ gb320) (fun _ => False) rfl rfl ?aP (fun _ hk => hk.elim) ?aF ?aO ?aB ?aS ?aL ?_; (case aP => exact k44_mkM _ _ _ (⟨(⟨(rd_T44 l0 x14_1).f0.f0, (rd_T44 l0 x14_1).f0.f1⟩ : S30), (rd_T44 l0 x14_1).f1⟩ : S44)); (case aB => exact (bu HB.out)); (case aF => exact (fun k_ hk => Kd.freshB (g := gb320) (o := .cells #[.int .i64 ((rd_T44 l0 x14_1).f0.f0), .bool ((rd_T44 l0 x14_1).f0.f1), .int .i64 ((rd_T44 l0 x14_1).f1)] 44 (0, 0)) (gu BK320.out) k_ hk)); (case aO => exact (ru HO_4.out)); (case aS => exact (below_size (bu HB.out))); (case aL => have := LMc24.out; omega); intro v326 w31 ho hb hg hat; rw [← Ny325.out] at ho; have n0_ := am (blk_grown (g := gb320) (o := .cells #[.int .i64 ((rd_T44 l0 x14_1).f0.f0), .bool ((rd_T44 l0 x14_1).f0.f1), .int .i64 ((rd_T44 l0 x14_1).f1)] 44 (0, 0)) (gu BK320.out) hg (Kd.R_away HO_4.out (fun _ hk => hk))); have n1_ := am (hb); have n2_ := am (ho); clear BK320; clear HB; clear HO_4; have BK320 := n0_; have HB := n1_; have HO327 := n2_; clear n0_ n1_ n2_; clear ho hb hg hat))
             go_roundg k1
             case measure => have := HK1.out; omega
             case rel => exact ⟨(y325), (wrap64 (x14_1 + 1)), (by first | rfl | (simp; done) | (simp [*]; done)), H', ⟨by have := HK1.out; omega⟩, ⟨by (with_reducible repeat (first | apply Kd.R_alloc | apply Kd.R_drewN | apply Kd.R_drew)); exact Kd.R_mono HO327.out (fun _ hk => trivial)⟩, ⟨bu HB.out⟩⟩
            ·rw [if_neg c24] at H
             exact absurd H (by simp)
          ·rw [if_neg c14] at H
           have c14b0 : (((rd_T44 x4_1 (ji11)).f0.f0) == ((rd_T44 l0 x14_1).f0.f0) && (((rd_T44 x4_1 (ji11)).f0.f1) == ((rd_T44 l0 x14_1).f0.f1))) = false := by simpa using c14
           (try (have c14b1 : decide (((rd_T44 x4_1 (ji11)).f0.f0) = ((rd_T44 l0 x14_1).f0.f0) && (((rd_T44 x4_1 (ji11)).f0.f1) == ((rd_T44 l0 x14_1).f0.f1))) = false := by simpa using c14))
           (try (have c14b2 : (((rd_T44 x4_1 (ji11)).f0.f0) == ((rd_T44 l0 x14_1).f0.f0) && (((rd_T44 x4_1 (ji11)).f0.f1) == ((rd_T44 l0 x14_1).f0.f1))) = false := by simpa using c14))
           (try (have c14b3 : ¬ (((rd_T44 x4_1 (ji11)).f0.f0) = ((rd_T44 l0 x14_1).f0.f0) && (((rd_T44 x4_1 (ji11)).f0.f1) == ((rd_T44 l0 x14_1).f0.f1))) := by simpa using c14))
           clear c14
           by_cases c32 : x4_1.length < 5864062014805
           ·rw [if_pos c32] at H
            have LMc32 := am c32
            clear c32
            obtain ⟨y328, hy328⟩ : ∃ y_ : List (S44), y_ = (x4_1 ++ [(⟨(⟨(rd_T44 l0 x14_1).f0.f0, (rd_T44 l0 x14_1).f0.f1⟩ : S30), (rd_T44 l0 x14_1).f1⟩ : S44)]) := ⟨_, rfl⟩
            replace H : (impl_PartSlow.l0 k1 y328 l0 (l0.length : Int) (wrap64 (x14_1 + 1))) = some (r1, r2) := by first | (rw [hy328]; with_reducible exact H) | (have H2_ := (Option.bind_some _ _).symm.trans H; rw [hy328]; with_reducible exact H2_) | (have H2_ := (Option.bind_some _ _).symm.trans H; with_reducible exact H2_) | with_reducible exact H | (rw [hy328]; exact H) | exact H
            have Ny328 := am hy328
            clear hy328
            have H' := am H
            clear H
            have p319 : 0 ≤ (x14_1 : Int) := od
            have q319 : x14_1 < (l0.length : Int) := od
            obtain ⟨ad319, e319, hx319_0, hx319_1, hx319_2⟩ := at_T44 HR0.out x14_1 p319 q319
            cases e319
            replace hx319_0 := (HB.out.cell (World.block_lt_of_cell? w _ hx319_0)).trans hx319_0
            replace hx319_1 := (HB.out.cell (World.block_lt_of_cell? w _ hx319_1)).trans hx319_1
            replace hx319_2 := (HB.out.cell (World.block_lt_of_cell? w _ hx319_2)).trans hx319_2
            replace p319 := eq_true p319
            replace q319 := eq_true q319
            try go_wp2_with (first | ((with_reducible refine gate_dst (N := 6) rfl ?_); refine box_event ?hg (N := 6) ?hd (cs := #[.int .i64 0, .bool false, .int .i64 0]) (t := 44) ?hr ?_; (case hd => rfl); (case hg => rfl); (case hr => first | (go_simp; done) | (go_simp; rfl)); intro gb320 hg w33 hbox hb; have n0_ := am (Kd.R_below (Kd.R_elderB (ru HO_4.out) gb320 (Nat.le_of_eq hg.symm)) hb); have n1_ := am (below_step (bu HB.out) hb); have n2_ := am (hbox); have n3_ := am ((by rw [hg]; exact (below_size (bu HB.out)) : w.heap.size ≤ gb320)); have n4_ := am ((by rw [hg]; exact (below_size (bu HB.out)) : w.heap.size ≤ gb320)); clear HO_4; clear HB; have HO_4 := n0_; have HB := n1_; have BK320 := n2_; have GW320 := n3_; have GE320 := n4_; clear n0_ n1_ n2_ n3_ n4_; clear hb hbox hg; have hcz34_0 : w33.cell? ⟨gb320, 0, none⟩ = some (.int .i64 0) := (blk_cell BK320.out 0).trans rfl; have hcz34_1 : w33.cell? ⟨gb320, 1, none⟩ = some (.bool false) := (blk_cell BK320.out 1).trans rfl; have hcz34_2 : w33.cell? ⟨gb320, 2, none⟩ = some (.int .i64 0) := (blk_cell BK320.out 2).trans rfl; have hfz34_0 := blk_frozen BK320.out 0; have hfz34_1 := blk_frozen BK320.out 1; have hfz34_2 := blk_frozen BK320.out 2; obtain ⟨Ao35, co35, eo35⟩ := Kd.R_slice HO_4.out; subst eo35))
            have n0_ : Aside0 (Kd.R k44 44 (((w33.setCell ⟨gb320, 0, none⟩ (.int .i64 ((rd_T44 l0 x14_1).f0.f0))).setCell ⟨gb320, 1, none⟩ (.bool ((rd_T44 l0 x14_1).f0.f1))).setCell ⟨gb320, 2, none⟩ (.int .i64 ((rd_T44 l0 x14_1).f1))) w.heap.size (fun k_ => k_ ≠ gb320) (.slice Ao35 x4_1.length co35) x4_1) := ⟨by (with_reducible repeat (first | apply Kd.R_alloc | apply Kd.R_drewN | apply Kd.R_drew)); exact Kd.R_mono (Kd.R_far (p := ⟨gb320, 2, none⟩) (Kd.R_far (p := ⟨gb320, 1, none⟩) (Kd.R_far (p := ⟨gb320, 0, none⟩) (Kd.R_mono HO_4.out (fun k_ hk => (⟨hk, hk.2⟩ : _ ∧ k_ ≠ gb320))) (fun _ hk => hk.2) (.int .i64 ((rd_T44 l0 x14_1).f0.f0))) (fun _ hk => hk.2) (.bool ((rd_T44 l0 x14_1).f0.f1))) (fun _ hk => hk.2) (.int .i64 ((rd_T44 l0 x14_1).f1))) (fun _ hk => hk.1.2)⟩
            have n1_ : Aside0 ((((w33.setCell ⟨gb320, 0, none⟩ (.int .i64 ((rd_T44 l0 x14_1).f0.f0))).setCell ⟨gb320, 1, none⟩ (.bool ((rd_T44 l0 x14_1).f0.f1))).setCell ⟨gb320, 2, none⟩ (.int .i64 ((rd_T44 l0 x14_1).f1))).heap[gb320]? = some (.cells #[.int .i64 ((rd_T44 l0 x14_1).f0.f0), .bool ((rd_T44 l0 x14_1).f0.f1), .int .i64 ((rd_T44 l0 x14_1).f1)] 44 (0, 0))) := ⟨by (with_reducible repeat (first | refine blk_drewN ?_ _ | refine blk_drew ?_ | refine blk_alloc ?_ _)); refine blk_put (cs := #[.int .i64 ((rd_T44 l0 x14_1).f0.f0), .bool ((rd_T44 l0 x14_1).f0.f1), .int .i64 0]) ?_ 2 _ rfl; (with_reducible repeat (first | refine blk_drewN ?_ _ | refine blk_drew ?_ | refine blk_alloc ?_ _)); refine blk_put (cs := #[.int .i64 ((rd_T44 l0 x14_1).f0.f0), .bool false, .int .i64 0]) ?_ 1 _ rfl; (with_reducible repeat (first | refine blk_drewN ?_ _ | refine blk_drew ?_ | refine blk_alloc ?_ _)); refine blk_put (cs := #[.int .i64 0, .bool false, .int .i64 0]) ?_ 0 _ rfl; (with_reducible repeat (first | refine blk_drewN ?_ _ | refine blk_drew ?_ | refine blk_alloc ?_ _)); exact BK320.out⟩
            have n2_ : Aside0 (Below w.heap.size w (((w33.setCell ⟨gb320, 0, none⟩ (.int .i64 ((rd_T44 l0 x14_1).f0.f0))).setCell ⟨gb320, 1, none⟩ (.bool ((rd_T44 l0 x14_1).f0.f1))).setCell ⟨gb320, 2, none⟩ (.int .i64 ((rd_T44 l0 x14_1).f1)))) := ⟨bu HB.out⟩
            (try clear HO_4)
            (try clear BK320)
            (try clear HB)
            generalize (((w33.setCell ⟨gb320, 0, none⟩ (.int .i64 ((rd_T44 l0 x14_1).f0.f0))).setCell ⟨gb320, 1, none⟩ (.bool ((rd_T44 l0 x14_1).f0.f1))).setCell ⟨gb320, 2, none⟩ (.int .i64 ((rd_T44 l0 x14_1).f1))) = w36 at n0_ n1_ n2_ ⊢
            have HO_4 := n0_
            have BK320 := n1_
            have HB := n2_
            clear n0_ n1_ n2_
            have n0_ := am (Kd.R_drew HO_4.out)
            have n1_ := am (blk_drew BK320.out)
            have n2_ := am (below_drew1 HB.out)
            clear HO_4
            clear BK320
            clear HB
            have HO_4 := n0_
            have BK320 := n1_
            have HB := n2_
            clear n0_ n1_ n2_
            have p321 : 0 ≤ ((ji11) : Int) := od
            have q321 : (ji11) < (x4_1.length : Int) := od
            obtain ⟨ad321, e321, hx321_0, hx321_1, hx321_2⟩ := at_T44 (Kd.R_reads' HO_4.out).2.2 (ji11) p321 q321
            cases e321
            replace p321 := eq_true p321
            replace q321 := eq_true q321
            refine start_ (n := 23) (S := fun w' => w'.cell? ⟨gb320, 0, none⟩ = some (.int .i64 ((rd_T44 l0 x14_1).f0.f0)) ∧ w'.cell? ⟨gb320, 1, none⟩ = some (.bool ((rd_T44 l0 x14_1).f0.f1)) ∧ w'.cell? ⟨gb320, 2, none⟩ = some (.int .i64 ((rd_T44 l0 x14_1).f1)) ∧ w'.cell? (ad321.add (((ji11)).toNat * 3)) = some (.int .i64 ((rd_T44 x4_1 (ji11)).f0.f0)) ∧ w'.cell? ⟨(ad321.add (((ji11)).toNat * 3)).block, (ad321.add (((ji11)).toNat * 3)).off + 1, none⟩ = some (.bool ((rd_T44 x4_1 (ji11)).f0.f1)) ∧ w'.cell? ⟨(ad321.add (((ji11)).toNat * 3)).block, (ad321.add (((ji11)).toNat * 3)).off + 2, none⟩ = some (.int .i64 ((rd_T44 x4_1 (ji11)).f1))) (ds := []) #[F,F,F,F,F,F,F,F,F,F,F,F,F,F,F,F,F,F,F,F,F,F,F] (by kernel_rfl) rfl rfl ⟨(blk_cell BK320.out 0).trans rfl, (blk_cell BK320.out 1).trans rfl, (blk_cell BK320.out 2).trans rfl, hx321_0, hx321_1, hx321_2⟩ (fun hHeld => ?_); refine with_tabW impl_PartSlow.tab8 impl_PartSlow.bits8 (fun HT_ HW_ => ?_)
            generalize w36.drew = w37 at HO_4 BK320 HB hx321_0 hx321_1 hx321_2 hHeld ⊢
            refine pz 0 (some 21) #[T,F,F,F,F,F,F,F,F,F,F,F,F,F,F,F,F,F,F,F,F,F,F] (any_of HT_.out (by kernel_rfl)) (h := ?_)
            refine pz 1 (some 22) #[T,T,F,F,F,F,F,F,F,F,F,F,F,F,F,F,F,F,F,F,F,F,F] (any_of HT_.out (by kernel_rfl)) (h := ?_)
            refine pz 2 (some 23) #[T,T,T,F,F,F,F,F,F,F,F,F,F,F,F,F,F,F,F,F,F,F,F] (any_of HT_.out (by kernel_rfl)) (h := ?_)
            refine pz 3 (some 24) #[T,T,T,T,F,F,F,F,F,F,F,F,F,F,F,F,F,F,F,F,F,F,F] (any_of HT_.out (by kernel_rfl)) (h := ?_)
            refine pz 4 (some 25) #[T,T,T,T,T,F,F,F,F,F,F,F,F,F,F,F,F,F,F,F,F,F,F] (any_of HT_.out (by kernel_rfl)) (h := ?_)
            refine pz 5 (some 26) #[T,T,T,T,T,T,F,F,F,F,F,F,F,F,F,F,F,F,F,F,F,F,F] (any_of HT_.out (by kernel_rfl)) (h := ?_)
            refine pz 6 (some 27) #[T,T,T,T,T,T,T,F,F,F,F,F,F,F,F,F,F,F,F,F,F,F,F] (any_of HT_.out (by kernel_rfl)) (h := ?_)
            refine pz 8 (some 29) #[T,T,T,T,T,T,T,F,T,F,F,F,F,F,F,F,F,F,F,F,F,F,F] (any_of HT_.out (by kernel_rfl)) (h := ?_)
            refine tz hHeld 7 (some 28) #[T,T,T,T,T,T,T,T,T,F,F,F,F,F,F,F,F,F,F,F,F,F,F] (take_ofW HT_.out HW_.out (by kernel_rfl)) (h := ?_)
            refine tz hHeld 9 (some 30) #[T,T,T,T,T,T,T,T,T,T,F,F,F,F,F,F,F,F,F,F,F,F,F] (take_ofW HT_.out HW_.out (by kernel_rfl)) (h := ?_)
            refine pz 10 (some 31) #[T,T,T,T,T,T,T,T,T,T,T,F,F,F,F,F,F,F,F,F,F,F,F] (any_of HT_.out (by kernel_rfl)) (h := ?_)
            refine pz 11 (some 32) #[T,T,T,T,T,T,T,T,T,T,T,T,F,F,F,F,F,F,F,F,F,F,F] (any_of HT_.out (by kernel_rfl)) (h := ?_)
            refine pz 12 (some 33) #[T,T,T,T,T,T,T,T,T,T,T,T,T,F,F,F,F,F,F,F,F,F,F] (any_of HT_.out (by kernel_rfl)) (h := ?_)
            refine pv 13 (some 34) #[T,T,T,T,T,T,T,T,T,T,T,T,T,T,F,F,F,F,F,F,F,F,F] (any_of HT_.out (by kernel_rfl)) (h := ?_)
            refine pv 14 (some 35) #[T,T,T,T,T,T,T,T,T,T,T,T,T,T,T,F,F,F,F,F,F,F,F] (any_of HT_.out (by kernel_rfl)) (h := ?_)
            refine pv 15 (some 36) #[T,T,T,T,T,T,T,T,T,T,T,T,T,T,T,T,F,F,F,F,F,F,F] (any_of HT_.out (by kernel_rfl)) (h := ?_)
            refine pv 16 (some 37) #[T,T,T,T,T,T,T,T,T,T,T,T,T,T,T,T,T,F,F,F,F,F,F] (any_of HT_.out (by kernel_rfl)) (h := ?_)
            refine pv 17 (some 38) #[T,T,T,T,T,T,T,T,T,T,T,T,T,T,T,T,T,T,F,F,F,F,F] (any_of HT_.out (by kernel_rfl)) (h := ?_)
            refine pv 18 (some 39) #[T,T,T,T,T,T,T,T,T,T,T,T,T,T,T,T,T,T,T,F,F,F,F] (any_of HT_.out (by kernel_rfl)) (h := ?_)
            refine pv 19 (some 40) #[T,T,T,T,T,T,T,T,T,T,T,T,T,T,T,T,T,T,T,T,F,F,F] (any_of HT_.out (by kernel_rfl)) (h := ?_)
            refine pv 20 (some 41) #[T,T,T,T,T,T,T,T,T,T,T,T,T,T,T,T,T,T,T,T,T,F,F] (any_of HT_.out (by kernel_rfl)) (h := ?_)
            refine pv 21 (some 42) #[T,T,T,T,T,T,T,T,T,T,T,T,T,T,T,T,T,T,T,T,T,T,F] (any_of HT_.out (by kernel_rfl)) (h := ?_)
            refine pz 22 (some 43) #[T,T,T,T,T,T,T,T,T,T,T,T,T,T,T,T,T,T,T,T,T,T,T] (any_of HT_.out (by kernel_rfl)) (h := ?_)
            refine done_ (done_of HT_.out (by kernel_rfl)) ?_
            have hcz38_0 : w37.cell? ⟨gb320, 0, none⟩ = some (.int .i64 ((rd_T44 l0 x14_1).f0.f0)) := (blk_cell BK320.out 0).trans rfl
            have hcz38_1 : w37.cell? ⟨gb320, 1, none⟩ = some (.bool ((rd_T44 l0 x14_1).f0.f1)) := (blk_cell BK320.out 1).trans rfl
            have hcz38_2 : w37.cell? ⟨gb320, 2, none⟩ = some (.int .i64 ((rd_T44 l0 x14_1).f1)) := (blk_cell BK320.out 2).trans rfl
            have hfz38_0 := blk_frozen BK320.out 0
            have hfz38_1 := blk_frozen BK320.out 1
            have hfz38_2 := blk_frozen BK320.out 2
            try go_wp2_with (first | ((with_reducible refine gate_builtin (b := .append) (xs := #[.tmp 54, .tmp 56]) rfl ?_); at_builtin; refine Kd.R_append k44 (w0 := w) w.heap.size rfl (.tmp 54) (.tmp 56) 23 44 (.agg #[(.int .i64 0), (.bool false), (.int .i64 0)]) 24 rfl Tryd.underlying23 info44 rfl (by decide) (by omega) (.slice (some ad321) x4_1.length co35) x4_1 (⟨(⟨(rd_T44 l0 x14_1).f0.f0, (rd_T44 l0 x14_1).f0.f1⟩ : S30), (rd_T44 l0 x14_1).f1⟩ : S44) [.int .i64 ((rd_T44 l0 x14_1).f0.f0), .bool ((rd_T44 l0 x14_1).f0.f1), .int .i64 ((rd_T44 l0 x14_1).f1)] (fun k_ => k_ ≠ gb320) (fun _ => False) rfl rfl ?aP (fun _ hk => hk.elim) ?aF ?aO ?aB ?aS ?aL ?_; (case aP => exact k44_mkM _ _ _ (⟨(⟨(rd_T44 l0 x14_1).f0.f0, (rd_T44 l0 x14_1).f0.f1⟩ : S30), (rd_T44 l0 x14_1).f1⟩ : S44)); (case aB => exact (bu HB.out)); (case aF => exact (fun k_ hk => Kd.freshB (g := gb320) (o := .cells #[.int .i64 ((rd_T44 l0 x14_1).f0.f0), .bool ((rd_T44 l0 x14_1).f0.f1), .int .i64 ((rd_T44 l0 x14_1).f1)] 44 (0, 0)) (gu BK320.out) k_ hk)); (case aO => exact (ru HO_4.out)); (case aS => exact (below_size (bu HB.out))); (case aL => have := LMc32.out; omega); intro v329 w39 ho hb hg hat; rw [← Ny328.out] at ho; have n0_ := am (blk_grown (g := gb320) (o := .cells #[.int .i64 ((rd_T44 l0 x14_1).f0.f0), .bool ((rd_T44 l0 x14_1).f0.f1), .int .i64 ((rd_T44 l0 x14_1).f1)] 44 (0, 0)) (gu BK320.out) hg (Kd.R_away HO_4.out (fun _ hk => hk))); have n1_ := am (hb); have n2_ := am (ho); clear BK320; clear HB; clear HO_4; have BK320 := n0_; have HB := n1_; have HO330 := n2_; clear n0_ n1_ n2_; clear ho hb hg hat))
            go_roundg k1
            case measure => have := HK1.out; omega
            case rel => exact ⟨(y328), (wrap64 (x14_1 + 1)), (by first | rfl | (simp; done) | (simp [*]; done)), H', ⟨by have := HK1.out; omega⟩, ⟨by (with_reducible repeat (first | apply Kd.R_alloc | apply Kd.R_drewN | apply Kd.R_drew)); exact Kd.R_mono HO330.out (fun _ hk => trivial)⟩, ⟨bu HB.out⟩⟩
           ·rw [if_neg c32] at H
            exact absurd H (by simp)
         ·rw [if_neg c13] at H
          exact absurd H (by simp)
        ·rw [if_neg c12] at H
         exact absurd H (by simp)
       ·rw [if_neg c10] at H
        have c10b0 : decide (0 ≤ (wrap64 ((x4_1.length : Int) - 1))) = false := decide_eq_false c10
        clear c10
        by_cases c40 : x4_1.length < 5864062014805
        ·rw [if_pos c40] at H
         have LMc40 := am c40
         clear c40
         obtain ⟨y331, hy331⟩ : ∃ y_ : List (S44), y_ = (x4_1 ++ [(⟨(⟨(rd_T44 l0 x14_1).f0.f0, (rd_T44 l0 x14_1).f0.f1⟩ : S30), (rd_T44 l0 x14_1).f1⟩ : S44)]) := ⟨_, rfl⟩
         replace H : (impl_PartSlow.l0 k1 y331 l0 (l0.length : Int) (wrap64 (x14_1 + 1))) = some (r1, r2) := by first | (rw [hy331]; with_reducible exact H) | (have H2_ := (Option.bind_some _ _).symm.trans H; rw [hy331]; with_reducible exact H2_) | (have H2_ := (Option.bind_some _ _).symm.trans H; with_reducible exact H2_) | with_reducible exact H | (rw [hy331]; exact H) | exact H
         have Ny331 := am hy331
         clear hy331
         have H' := am H
         clear H
         have p319 : 0 ≤ (x14_1 : Int) := od
         have q319 : x14_1 < (l0.length : Int) := od
         obtain ⟨ad319, e319, hx319_0, hx319_1, hx319_2⟩ := at_T44 HR0.out x14_1 p319 q319
         cases e319
         replace hx319_0 := (HB.out.cell (World.block_lt_of_cell? w _ hx319_0)).trans hx319_0
         replace hx319_1 := (HB.out.cell (World.block_lt_of_cell? w _ hx319_1)).trans hx319_1
         replace hx319_2 := (HB.out.cell (World.block_lt_of_cell? w _ hx319_2)).trans hx319_2
         replace p319 := eq_true p319
         replace q319 := eq_true q319
         try go_wp2_with (first | ((with_reducible refine gate_dst (N := 6) rfl ?_); refine box_event ?hg (N := 6) ?hd (cs := #[.int .i64 0, .bool false, .int .i64 0]) (t := 44) ?hr ?_; (case hd => rfl); (case hg => rfl); (case hr => first | (go_simp; done) | (go_simp; rfl)); intro gb320 hg w41 hbox hb; have n0_ := am (Kd.R_below (Kd.R_elderB (ru HO_4.out) gb320 (Nat.le_of_eq hg.symm)) hb); have n1_ := am (below_step (bu HB.out) hb); have n2_ := am (hbox); have n3_ := am ((by rw [hg]; exact (below_size (bu HB.out)) : w.heap.size ≤ gb320)); have n4_ := am ((by rw [hg]; exact (below_size (bu HB.out)) : w.heap.size ≤ gb320)); clear HO_4; clear HB; have HO_4 := n0_; have HB := n1_; have BK320 := n2_; have GW320 := n3_; have GE320 := n4_; clear n0_ n1_ n2_ n3_ n4_; clear hb hbox hg; have hcz42_0 : w41.cell? ⟨gb320, 0, none⟩ = some (.int .i64 0) := (blk_cell BK320.out 0).trans rfl; have hcz42_1 : w41.cell? ⟨gb320, 1, none⟩ = some (.bool false) := (blk_cell BK320.out 1).trans rfl; have hcz42_2 : w41.cell? ⟨gb320, 2, none⟩ = some (.int .i64 0) := (blk_cell BK320.out 2).trans rfl; have hfz42_0 := blk_frozen BK320.out 0; have hfz42_1 := blk_frozen BK320.out 1; have hfz42_2 := blk_frozen BK320.out 2; obtain ⟨Ao43, co43, eo43⟩ := Kd.R_slice HO_4.out; subst eo43))
         have n0_ : Aside0 (Kd.R k44 44 (((w41.setCell ⟨gb320, 0, none⟩ (.int .i64 ((rd_T44 l0 x14_1).f0.f0))).setCell ⟨gb320, 1, none⟩ (.bool ((rd_T44 l0 x14_1).f0.f1))).setCell ⟨gb320, 2, none⟩ (.int .i64 ((rd_T44 l0 x14_1).f1))) w.heap.size (fun k_ => k_ ≠ gb320) (.slice Ao43 x4_1.length co43) x4_1) := ⟨by (with_reducible repeat (first | apply Kd.R_alloc | apply Kd.R_drewN | apply Kd.R_drew)); exact Kd.R_mono (Kd.R_far (p := ⟨gb320, 2, none⟩) (Kd.R_far (p := ⟨gb320, 1, none⟩) (Kd.R_far (p := ⟨gb320, 0, none⟩) (Kd.R_mono HO_4.out (fun k_ hk => (⟨hk, hk.2⟩ : _ ∧ k_ ≠ gb320))) (fun _ hk => hk.2) (.int .i64 ((rd_T44 l0 x14_1).f0.f0))) (fun _ hk => hk.2) (.bool ((rd_T44 l0 x14_1).f0.f1))) (fun _ hk => hk.2) (.int .i64 ((rd_T44 l0 x14_1).f1))) (fun _ hk => hk.1.2)⟩
         have n1_ : Aside0 ((((w41.setCell ⟨gb320, 0, none⟩ (.int .i64 ((rd_T44 l0 x14_1).f0.f0))).setCell ⟨gb320, 1, none⟩ (.bool ((rd_T44 l0 x14_1).f0.f1))).setCell ⟨gb320, 2, none⟩ (.int .i64 ((rd_T44 l0 x14_1).f1))).heap[gb320]? = some (.cells #[.int .i64 ((rd_T44 l0 x14_1).f0.f0), .bool ((rd_T44 l0 x14_1).f0.f1), .int .i64 ((rd_T44 l0 x14_1).f1)] 44 (0, 0))) := ⟨by (with_reducible repeat (first | refine blk_drewN ?_ _ | refine blk_drew ?_ | refine blk_alloc ?_ _)); refine blk_put (cs := #[.int .i64 ((rd_T44 l0 x14_1).f0.f0), .bool ((rd_T44 l0 x14_1).f0.f1), .int .i64 0]) ?_ 2 _ rfl; (with_reducible repeat (first | refine blk_drewN ?_ _ | refine blk_drew ?_ | refine blk_alloc ?_ _)); refine blk_put (cs := #[.int .i64 ((rd_T44 l0 x14_1).f0.f0), .bool false, .int .i64 0]) ?_ 1 _ rfl; (with_reducible repeat (first | refine blk_drewN ?_ _ | refine blk_drew ?_ | refine blk_alloc ?_ _)); refine blk_put (cs := #[.int .i64 0, .bool false, .int .i64 0]) ?_ 0 _ rfl; (with_reducible repeat (first | refine blk_drewN ?_ _ | refine blk_drew ?_ | refine blk_alloc ?_ _)); exact BK320.out⟩
         have n2_ : Aside0 (Below w.heap.size w (((w41.setCell ⟨gb320, 0, none⟩ (.int .i64 ((rd_T44 l0 x14_1).f0.f0))).setCell ⟨gb320, 1, none⟩ (.bool ((rd_T44 l0 x14_1).f0.f1))).setCell ⟨gb320, 2, none⟩ (.int .i64 ((rd_T44 l0 x14_1).f1)))) := ⟨bu HB.out⟩
         (try clear HO_4)
         (try clear BK320)
         (try clear HB)
         generalize (((w41.setCell ⟨gb320, 0, none⟩ (.int .i64 ((rd_T44 l0 x14_1).f0.f0))).setCell ⟨gb320, 1, none⟩ (.bool ((rd_T44 l0 x14_1).f0.f1))).setCell ⟨gb320, 2, none⟩ (.int .i64 ((rd_T44 l0 x14_1).f1))) = w44 at n0_ n1_ n2_ ⊢
         have HO_4 := n0_
         have BK320 := n1_
         have HB := n2_
         clear n0_ n1_ n2_
         have n0_ := am (Kd.R_drew HO_4.out)
         have n1_ := am (blk_drew BK320.out)
         have n2_ := am (below_drew1 HB.out)
         clear HO_4
         clear BK320
         clear HB
         have HO_4 := n0_
         have BK320 := n1_
         have HB := n2_
         clear n0_ n1_ n2_
         refine start_ (n := 23) (S := fun w' => True) (ds := []) #[F,F,F,F,F,F,F,F,F,F,F,F,F,F,F,F,F,F,F,F,F,F,F] (by kernel_rfl) rfl rfl trivial (fun hHeld => ?_); refine with_tabW impl_PartSlow.tab8 impl_PartSlow.bits8 (fun HT_ HW_ => ?_)
         generalize w44.drew = w45 at HO_4 BK320 HB hHeld ⊢
         refine pz 0 (some 21) #[T,F,F,F,F,F,F,F,F,F,F,F,F,F,F,F,F,F,F,F,F,F,F] (any_of HT_.out (by kernel_rfl)) (h := ?_)
         refine pz 1 (some 22) #[T,T,F,F,F,F,F,F,F,F,F,F,F,F,F,F,F,F,F,F,F,F,F] (any_of HT_.out (by kernel_rfl)) (h := ?_)
         refine pz 2 (some 23) #[T,T,T,F,F,F,F,F,F,F,F,F,F,F,F,F,F,F,F,F,F,F,F] (any_of HT_.out (by kernel_rfl)) (h := ?_)
         refine pv 3 (some 24) #[T,T,T,T,F,F,F,F,F,F,F,F,F,F,F,F,F,F,F,F,F,F,F] (any_of HT_.out (by kernel_rfl)) (h := ?_)
         refine pv 4 (some 25) #[T,T,T,T,T,F,F,F,F,F,F,F,F,F,F,F,F,F,F,F,F,F,F] (any_of HT_.out (by kernel_rfl)) (h := ?_)
         refine pv 5 (some 26) #[T,T,T,T,T,T,F,F,F,F,F,F,F,F,F,F,F,F,F,F,F,F,F] (any_of HT_.out (by kernel_rfl)) (h := ?_)
         refine pv 6 (some 27) #[T,T,T,T,T,T,T,F,F,F,F,F,F,F,F,F,F,F,F,F,F,F,F] (any_of HT_.out (by kernel_rfl)) (h := ?_)
         refine pv 7 (some 28) #[T,T,T,T,T,T,T,T,F,F,F,F,F,F,F,F,F,F,F,F,F,F,F] (any_of HT_.out (by kernel_rfl)) (h := ?_)
         refine pv 8 (some 29) #[T,T,T,T,T,T,T,T,T,F,F,F,F,F,F,F,F,F,F,F,F,F,F] (any_of HT_.out (by kernel_rfl)) (h := ?_)
         refine pv 9 (some 30) #[T,T,T,T,T,T,T,T,T,T,F,F,F,F,F,F,F,F,F,F,F,F,F] (any_of HT_.out (by kernel_rfl)) (h := ?_)
         refine pv 10 (some 31) #[T,T,T,T,T,T,T,T,T,T,T,F,F,F,F,F,F,F,F,F,F,F,F] (any_of HT_.out (by kernel_rfl)) (h := ?_)
         refine pz 11 (some 32) #[T,T,T,T,T,T,T,T,T,T,T,T,F,F,F,F,F,F,F,F,F,F,F] (any_of HT_.out (by kernel_rfl)) (h := ?_)
         refine pz 12 (some 33) #[T,T,T,T,T,T,T,T,T,T,T,T,T,F,F,F,F,F,F,F,F,F,F] (any_of HT_.out (by kernel_rfl)) (h := ?_)
         refine pv 13 (some 34) #[T,T,T,T,T,T,T,T,T,T,T,T,T,T,F,F,F,F,F,F,F,F,F] (any_of HT_.out (by kernel_rfl)) (h := ?_)
         refine pv 14 (some 35) #[T,T,T,T,T,T,T,T,T,T,T,T,T,T,T,F,F,F,F,F,F,F,F] (any_of HT_.out (by kernel_rfl)) (h := ?_)
         refine pv 15 (some 36) #[T,T,T,T,T,T,T,T,T,T,T,T,T,T,T,T,F,F,F,F,F,F,F] (any_of HT_.out (by kernel_rfl)) (h := ?_)
         refine pv 16 (some 37) #[T,T,T,T,T,T,T,T,T,T,T,T,T,T,T,T,T,F,F,F,F,F,F] (any_of HT_.out (by kernel_rfl)) (h := ?_)
         refine pv 17 (some 38) #[T,T,T,T,T,T,T,T,T,T,T,T,T,T,T,T,T,T,F,F,F,F,F] (any_of HT_.out (by kernel_rfl)) (h := ?_)
         refine pv 18 (some 39) #[T,T,T,T,T,T,T,T,T,T,T,T,T,T,T,T,T,T,T,F,F,F,F] (any_of HT_.out (by kernel_rfl)) (h := ?_)
         refine pv 19 (some 40) #[T,T,T,T,T,T,T,T,T,T,T,T,T,T,T,T,T,T,T,T,F,F,F] (any_of HT_.out (by kernel_rfl)) (h := ?_)
         refine pv 20 (some 41) #[T,T,T,T,T,T,T,T,T,T,T,T,T,T,T,T,T,T,T,T,T,F,F] (any_of HT_.out (by kernel_rfl)) (h := ?_)
         refine pv 21 (some 42) #[T,T,T,T,T,T,T,T,T,T,T,T,T,T,T,T,T,T,T,T,T,T,F] (any_of HT_.out (by kernel_rfl)) (h := ?_)
         refine pz 22 (some 43) #[T,T,T,T,T,T,T,T,T,T,T,T,T,T,T,T,T,T,T,T,T,T,T] (any_of HT_.out (by kernel_rfl)) (h := ?_)
         refine done_ (done_of HT_.out (by kernel_rfl)) ?_
         have hcz46_0 : w45.cell? ⟨gb320, 0, none⟩ = some (.int .i64 ((rd_T44 l0 x14_1).f0.f0)) := (blk_cell BK320.out 0).trans rfl
         have hcz46_1 : w45.cell? ⟨gb320, 1, none⟩ = some (.bool ((rd_T44 l0 x14_1).f0.f1)) := (blk_cell BK320.out 1).trans rfl
         have hcz46_2 : w45.cell? ⟨gb320, 2, none⟩ = some (.int .i64 ((rd_T44 l0 x14_1).f1)) := (blk_cell BK320.out 2).trans rfl
         have hfz46_0 := blk_frozen BK320.out 0
         have hfz46_1 := blk_frozen BK320.out 1
         have hfz46_2 := blk_frozen BK320.out 2
         try go_wp2_with (first | ((with_reducible refine gate_builtin (b := .append) (xs := #[.tmp 54, .tmp 56]) rfl ?_); at_builtin; refine Kd.R_append k44 (w0 := w) w.heap.size rfl (.tmp 54) (.tmp 56) 23 44 (.agg #[(.int .i64 0), (.bool false), (.int .i64 0)]) 24 rfl Tryd.underlying23 info44 rfl (by decide) (by omega) (.slice Ao43 x4_1.length co43) x4_1 (⟨(⟨(rd_T44 l0 x14_1).f0.f0, (rd_T44 l0 x14_1).f0.f1⟩ : S30), (rd_T44 l0 x14_1).f1⟩ : S44) [.int .i64 ((rd_T44 l0 x14_1).f0.f0), .bool ((rd_T44 l0 x14_1).f0.f1), .int .i64 ((rd_T44 l0 x14_1).f1)] (fun k_ => k_ ≠ gb320) (fun _ => False) rfl rfl ?aP (fun _ hk => hk.elim) ?aF ?aO ?aB ?aS ?aL ?_; (case aP => exact k44_mkM _ _ _ (⟨(⟨(rd_T44 l0 x14_1).f0.f0, (rd_T44 l0 x14_1).f0.f1⟩ : S30), (rd_T44 l0 x14_1).f1⟩ : S44)); (case aB => exact (bu HB.out)); (case aF => exact (fun k_ hk => Kd.freshB (g := gb320) (o := .cells #[.int .i64 ((rd_T44 l0 x14_1).f0.f0), .bool ((rd_T44 l0 x14_1).f0.f1), .int .i64 ((rd_T44 l0 x14_1).f1)] 44 (0, 0)) (gu BK320.out) k_ hk)); (case aO => exact (ru HO_4.out)); (case aS => exact (below_size (bu HB.out))); (case aL => have := LMc40.out; omega); intro v332 w47 ho hb hg hat; rw [← Ny331.out] at ho; have n0_ := am (blk_grown (g := gb320) (o := .cells #[.int .i64 ((rd_T44 l0 x14_1).f0.f0), .bool ((rd_T44 l0 x14_1).f0.f1), .int .i64 ((rd_T44 l0 x14_1).f1)] 44 (0, 0)) (gu BK320.out) hg (Kd.R_away HO_4.out (fun _ hk => hk))); have n1_ := am (hb); have n2_ := am (ho); clear BK320; clear HB; clear HO_4; have BK320 := n0_; have HB := n1_; have HO333 := n2_; clear n0_ n1_ n2_; clear ho hb hg hat))
         go_roundg k1
         case measure => have := HK1.out; omega
         case rel => exact ⟨(y331), (wrap64 (x14_1 + 1)), (by first | rfl | (simp; done) | (simp [*]; done)), H', ⟨by have := HK1.out; omega⟩, ⟨by (with_reducible repeat (first | apply Kd.R_alloc | apply Kd.R_drewN | apply Kd.R_drew)); exact Kd.R_mono HO333.out (fun _ hk => trivial)⟩, ⟨bu HB.out⟩⟩
        ·rw [if_neg c40] at H
         exact absurd H (by simp)
      ·rw [if_neg c9] at H
       exact absurd H (by simp)
     ·rw [if_neg c8] at H
      exact absurd H (by simp)
    ·rw [if_neg c7] at H
     have c7b0 : decide (x14_1 < (l0.length : Int)) = false := decide_eq_false c7
     clear c7
     simp only [Option.some.injEq, Prod.mk.injEq] at H
     obtain ⟨rfl, rfl⟩ := H
     go_wp2
     go_ret2
     exact ⟨_, by first | rfl | (simp [errW_none, errW_some] <;> rfl) | (simp [*, errW_none, errW_some] <;> rfl), ru HO_4.out, bu HB.out⟩
 ·replace c3 := Bool.eq_false_iff.mpr c3
  subst c3
  have H1 : (some (([] : List (S44)), false)) = some (r1, r2) := by rw [if_neg (show ¬ (false = true) by decide)] at H; exact H
  clear H
  have H := H1
  clear H1
  simp only [Option.some.injEq, Prod.mk.injEq] at H
  obtain ⟨rfl, rfl⟩ := H
  go_enter Tryd.func35, Tryd.ntmps35
  go_wp2_with (first | ((with_reducible refine gate_callee (f := 84) rfl ?_); refine goesL_ (some 9) rfl rfl Tryd.func84 (by kernel_rfl) rfl #[.slice A0 l0.length c0] rfl (by (try simp only [List.map_toArray, List.map_cons, List.map_nil]); first | done | rfl | (simp only [List.length_drop, List.length_take]; rfl)) ?_; (with_reducible refine (impl_PartValid.calls k _ _ l0 false _ ?side1 ?side2 A2.out).mono ?_); (case side1 => exact cu HR0.out); (case side2 => exact HC0.out); rintro e w48 ⟨rfl, hb⟩; refine ⟨_, rfl, ?_⟩; have n0_ := am (below_step (bu HB.out) hb); clear HB; have HB := n0_; clear n0_; (try clear hb); (try clear hb2); (try clear hk); (try clear hi)))
  go_ret2
  exact ⟨_, by first | rfl | (simp [errW_none, errW_some] <;> rfl) | (simp [*, errW_none, errW_some] <;> rfl), by first | exact Kd.R_nil _ _ _ _ _ | exact Kd.N_nil _ _ _ _ _ | exact Kd.V_nil _ _ _ _ _ | exact Kd.Q_nil _ _ _ _ _ | exact Kd.S_nil _ _ _ _ _, bu HB.out⟩

end Go.Proofs.YtcndojoghmblaaaDoor.GE
