-- Made by this session's gprint.py out of the translation. Not trusted: Lean checks it.
import Derived.Test.YtgiobmceippanaaFPx0
import Derived.Test.YtgiobmceippanaaFPx2
import Derived.Test.YtgiobmceippanaaFPx3
import Derived.Test.YtgiobmceippanaaFPx4
namespace Go.Proofs.Ytgiobmceippanaa.FP
open Go.RowKit Go.Proofs.YtgiobmceippanaaW.PrintWords Go.Proofs.YtgiobmceippanaaW.PrintLast Go.Proofs.YtgiobmceippanaaW.PrintMore
attribute [local go_sem] max2_int min2_int max_two min_two max_three min_three max_four min_four   -- for this text's walks alone
set_option linter.unusedVariables false
set_option linter.unusedSimpArgs false

attribute [local go_sem high] eqA61
/-! ### spec_PartMake: function 23 -/
mutual
def spec_PartMake.j0 : Nat → List (S43) → List Int → List (S61) → Bool → Option ((List (S61)) × Bool)
 | 0, _, _, _, _ => none
 | k + 1, x0, x1, x6, x18 => if x18 = true then (some (x6, false)) else (spec_PartMake.l0 k x0 x1 x6 0)
def spec_PartMake.l0 : Nat → List (S43) → List Int → List (S61) → Int → Option ((List (S61)) × Bool)
 | 0, _, _, _, _ => none
 | k + 1, x0, x1, x6, x7 => if x7 < (x0.length : Int) then (if 0 ≤ x7 then (if x7 < (x1.length : Int) then (if x6.length < 5864062014805 then (spec_PartMake.l0 k x0 x1 (x6 ++ [(⟨(⟨(rd_T43 x0 x7).f0, (rd_T43 x0 x7).f1⟩ : S43), rd x1 x7⟩ : S61)]) (wrap64 (x7 + 1))) else (none)) else (none)) else (none)) else ((spec_PartValid.f k x6).bind fun t202 => (if t202 = true then (some (x6, true)) else (some ((([] : List (S61))), false))))
end
def spec_PartMake.f (k : Nat) (l0 : List (S43)) (l1 : List Int) : Option ((List (S61)) × Bool) := (some (([] : List (S61)) : List (S61))).bind fun y193 => ((spec_MelodyValid.f k l0).bind fun t196 => (if t196 = true then (spec_PartMake.j0 k l0 l1 y193 ((l1.length : Int) != (l0.length : Int))) else (spec_PartMake.j0 k l0 l1 y193 true)))
def spec_PartMake.T7 : Bool × List (List Nat × List Nat) := (true, [([], []), ([], []), ([], []), ([1, 2], [1, 2]), ([3], [3]), ([], []), ([], []), ([5, 6], [5, 6]), ([7], [7]), ([4, 8], [4, 8]), ([9], [9]), ([0, 10], [0, 10]), ([11, 11, 0, 1, 2, 3, 4, 5, 6, 7, 8, 9, 10, 11], [0, 11])])
def spec_PartMake.B7 : List Nat := [0, 0, 0, 6, 14, 0, 0, 96, 224, 510, 1022, 2047, 4095]
theorem spec_PartMake.tab7 : rtab .any (opsOf Try.f23 7) = spec_PartMake.T7 := by kernel_rfl
theorem spec_PartMake.bits7 : waitsOk spec_PartMake.T7.2 spec_PartMake.B7 = true := by kernel_rfl
set_option maxHeartbeats 8000000 in
set_option maxRecDepth 100000 in
theorem spec_PartMake.calls (k : Nat) (A0 : Option Addr) (c0 : Nat) (l0 : List (S43)) (A1 : Option Addr) (c1 : Nat) (l1 : List Int) (r1 : List (S61)) (r2 : Bool) (w : World) (hr0 : Kd.C k43 w A0 l0.length l0) (hc0 : l0.length ≤ c0) (hr1 : Kd.C (Kd.int .i64) w A1 l1.length l1) (hc1 : l1.length ≤ c1) (h : spec_PartMake.f k l0 l1 = some (r1, r2)) :
  Calls Try.prog 23 #[.slice A0 l0.length c0, .slice A1 l1.length c1] w fun e w' => ∃ v0_ : Value, e = .returned (.tuple #[v0_, .bool r2]) ∧ Kd.R k61 61 w' w.heap.size (fun _ => True) v0_ r1 ∧ Below w.heap.size w w' := by
 have hu43 := Try.underlying43
 have hu61 := Try.underlying61
 have HR0 := am hr0
 have HC0 := am hc0
 clear hr0 hc0
 have HR1 := am hr1
 have HC1 := am hc1
 clear hr1 hc1
 have HB := am (Below.refl w.heap.size w)
 have H : ((some (([] : List (S61)) : List (S61))).bind fun y193 => ((spec_MelodyValid.f k l0).bind fun t196 => (if t196 = true then (spec_PartMake.j0 k l0 l1 y193 ((l1.length : Int) != (l0.length : Int))) else (spec_PartMake.j0 k l0 l1 y193 true)))) = some (r1, r2) := h
 clear h
 obtain ⟨y193, hy193⟩ : ∃ y_ : List (S61), y_ = (([] : List (S61))) := ⟨_, rfl⟩
 replace H : ((spec_MelodyValid.f k l0).bind fun t196 => (if t196 = true then (spec_PartMake.j0 k l0 l1 y193 ((l1.length : Int) != (l0.length : Int))) else (spec_PartMake.j0 k l0 l1 y193 true))) = some (r1, r2) := by first | (rw [hy193]; with_reducible exact H) | (have H2_ := (Option.bind_some _ _).symm.trans H; rw [hy193]; with_reducible exact H2_) | (have H2_ := (Option.bind_some _ _).symm.trans H; with_reducible exact H2_) | with_reducible exact H | (rw [hy193]; exact H) | exact H
 have Ny193 := am hy193
 clear hy193
 have HC3 := am H
 clear H
 go_enter Try.func23, Try.ntmps23
 go_upto_region 2 with (first | ((with_reducible refine gate_dst (N := 8) rfl ?_); (try (refine gate_guard (by rfl) ?_; dsimp only)); refine Kd.R_lit k61 _ 61 ?hg (N := 8) ?hd (xs := ([] : List (S61))) (inner := []) (ok := fun _ => True) (okp := fun _ => True) ?hr ?hp (fun _ hk => hk) trivial (Below.refl _ _) (Nat.le_refl _) (by simp) ?_; (case hd => rfl); (case hg => rfl); (case hr => first | (go_simp; done) | (go_simp; rfl)); (case hp => exact (Reps.none _ _)); intro v194 w4 ho5 hb hg_ hnew_; clear hg_ hnew_; (first | rw [← Ny193.out] at ho5 | (simp only [Int.reduceToNat] at ho5; rw [← Ny193.out] at ho5)); have n0_ := am (Kd.R_lower ho5 (below_size (bu HB.out))); have n1_ := am (below_step (bu HB.out) hb); clear HB; have HO195 := n0_; have HB := n1_; clear n0_ n1_; clear hb ho5))
 (try simp only [Act.put, sA, sZ, sS])
 go_cut [18] (fun v18 wc => ∃ (kq : Nat) (x18_2 : Bool), v18 = .bool x18_2 ∧ Aside0 (spec_PartMake.j0 kq l0 l1 y193 x18_2 = some (r1, r2)) ∧ Aside0 (kq ≤ k) ∧ Aside0 (Kd.R k61 61 wc w.heap.size (fun _ => True) v194 y193) ∧ Aside0 (Below w.heap.size w wc))
 case first =>
  have H := HC3.out
  clear HC3
  replace H := Option.bind_eq_some_iff.mp H
  obtain ⟨t196, A60, H⟩ := H
  replace H : (if t196 = true then (spec_PartMake.j0 k l0 l1 y193 ((l1.length : Int) != (l0.length : Int))) else (spec_PartMake.j0 k l0 l1 y193 true)) = some (r1, r2) := H
  have A6 := am A60
  clear A60
  by_cases c7 : t196 = true
  ·subst c7
   have H1 : (spec_PartMake.j0 k l0 l1 y193 ((l1.length : Int) != (l0.length : Int))) = some (r1, r2) := by rw [if_pos rfl] at H; exact H
   clear H
   have H := H1
   clear H1
   have H' := am H
   clear H
   go_wp2_with (first | ((with_reducible refine gate_callee (f := 53) rfl ?_); refine goesL_ (some 10) rfl rfl Try.func53 (by kernel_rfl) rfl #[.slice A0 l0.length c0] rfl (by (try simp only [List.map_toArray, List.map_cons, List.map_nil]); first | done | rfl | (simp only [List.length_drop, List.length_take]; rfl)) ?_; (with_reducible refine (spec_MelodyValid.calls k _ _ l0 true _ ?side1 ?side2 A6.out).mono ?_); (case side1 => repeat (first | exact (Kd.C_below HR0.out HB.out) | (with_reducible refine Kd.C_alloc ?_ _) | (with_reducible refine Kd.C_drewN ?_ _) | (with_reducible refine Kd.C_drew ?_))); (case side2 => exact HC0.out); rintro e w8 ⟨rfl, hb⟩; refine ⟨_, rfl, ?_⟩; have n0_ := am (Kd.R_below (ru HO195.out) hb); have n1_ := am (below_step (bu HB.out) hb); clear HO195; clear HB; have HO195 := n0_; have HB := n1_; clear n0_ n1_; (try clear hb); (try clear hb2); (try clear hk); (try clear hi)))
   go_meet
   case rel => exact ⟨_, (((l1.length : Int) != (l0.length : Int))), (by first | rfl | (simp; done) | (simp [*]; done)), H', ⟨by first | omega | exact Nat.le_refl _⟩, ⟨ru HO195.out⟩, ⟨bu HB.out⟩⟩
  ·replace c7 := Bool.eq_false_iff.mpr c7
   subst c7
   have H1 : (spec_PartMake.j0 k l0 l1 y193 true) = some (r1, r2) := by rw [if_neg (show ¬ (false = true) by decide)] at H; exact H
   clear H
   have H := H1
   clear H1
   have H' := am H
   clear H
   go_wp2_with (first | ((with_reducible refine gate_callee (f := 53) rfl ?_); refine goesL_ (some 10) rfl rfl Try.func53 (by kernel_rfl) rfl #[.slice A0 l0.length c0] rfl (by (try simp only [List.map_toArray, List.map_cons, List.map_nil]); first | done | rfl | (simp only [List.length_drop, List.length_take]; rfl)) ?_; (with_reducible refine (spec_MelodyValid.calls k _ _ l0 false _ ?side1 ?side2 A6.out).mono ?_); (case side1 => repeat (first | exact (Kd.C_below HR0.out HB.out) | (with_reducible refine Kd.C_alloc ?_ _) | (with_reducible refine Kd.C_drewN ?_ _) | (with_reducible refine Kd.C_drew ?_))); (case side2 => exact HC0.out); rintro e w9 ⟨rfl, hb⟩; refine ⟨_, rfl, ?_⟩; have n0_ := am (Kd.R_below (ru HO195.out) hb); have n1_ := am (below_step (bu HB.out) hb); clear HO195; clear HB; have HO195 := n0_; have HB := n1_; clear n0_ n1_; (try clear hb); (try clear hb2); (try clear hk); (try clear hi)))
   go_meet
   case rel => exact ⟨_, (true), (by first | rfl | (simp; done) | (simp [*]; done)), H', ⟨by first | omega | exact Nat.le_refl _⟩, ⟨ru HO195.out⟩, ⟨bu HB.out⟩⟩
 case rest =>
  clear HC3
  try clear c1
  try clear c2
  try clear p2
  try clear c5
  try clear c7
  obtain ⟨kq, x18_2, rfl, HA, HJ2, HO_6, HB⟩ := hcut
  cases kq with
  | zero => exact absurd HA.out (by simp [spec_PartMake.j0])
  | succ kj2 =>
   have H := HA.out
   clear HA
   simp only [spec_PartMake.j0] at H
   by_cases c10 : x18_2 = true
   ·subst c10
    have H1 : (some (y193, false)) = some (r1, r2) := by rw [if_pos rfl] at H; exact H
    clear H
    have H := H1
    clear H1
    simp only [Option.some.injEq, Prod.mk.injEq] at H
    obtain ⟨rfl, rfl⟩ := H
    go_wp2
    go_ret2
    exact ⟨_, by first | rfl | (simp [errW_none, errW_some] <;> rfl) | (simp [*, errW_none, errW_some] <;> rfl), ru HO_6.out, bu HB.out⟩
   ·replace c10 := Bool.eq_false_iff.mpr c10
    subst c10
    have H1 : (spec_PartMake.l0 kj2 l0 l1 y193 0) = some (r1, r2) := by rw [if_neg (show ¬ (false = true) by decide)] at H; exact H
    clear H
    have H := H1
    clear H1
    have H' := am H
    clear H
    go_wp2
    go_loopg [6, 7] kj2 (fun kq v6 v7 w' => ∃ (x6_2 : List (S61)) (x7_2 : Int), v7 = .int .i64 x7_2 ∧ Aside0 (spec_PartMake.l0 kq l0 l1 x6_2 x7_2 = some (r1, r2)) ∧ Aside0 (kq ≤ kj2) ∧ Aside0 (Kd.R k61 61 w' w.heap.size (fun _ => True) v6 x6_2) ∧ Aside0 (Below w.heap.size w w'))
    case atStart => exact ⟨(y193), (0), (by first | rfl | (simp; done) | (simp [*]; done)), H', ⟨Nat.le_refl _⟩, ⟨ru HO_6.out⟩, ⟨bu HB.out⟩⟩
    case round =>
     clear H'
     try clear c1
     try clear c2
     try clear p2
     try clear c5
     try clear c7
     try clear c10
     try clear p2
     obtain ⟨x6_2, x7_2, rfl, HA, HK2, HO_6, HB⟩ := hrel
     cases gk with
     | zero => exact absurd HA.out (by simp [spec_PartMake.l0])
     | succ k2 =>
      have H := HA.out
      clear HA
      simp only [spec_PartMake.l0] at H
      by_cases c11 : x7_2 < (l0.length : Int)
      ·rw [if_pos c11] at H
       have c11b0 : decide (x7_2 < (l0.length : Int)) = true := decide_eq_true c11
       clear c11
       by_cases c12 : 0 ≤ x7_2
       ·rw [if_pos c12] at H
        have c12b0 : decide (0 ≤ x7_2) = true := decide_eq_true c12
        clear c12
        by_cases c13 : x7_2 < (l1.length : Int)
        ·rw [if_pos c13] at H
         have c13b0 : decide (x7_2 < (l1.length : Int)) = true := decide_eq_true c13
         clear c13
         by_cases c14 : x6_2.length < 5864062014805
         ·rw [if_pos c14] at H
          have LMc14 := am c14
          clear c14
          obtain ⟨y199, hy199⟩ : ∃ y_ : List (S61), y_ = (x6_2 ++ [(⟨(⟨(rd_T43 l0 x7_2).f0, (rd_T43 l0 x7_2).f1⟩ : S43), rd l1 x7_2⟩ : S61)]) := ⟨_, rfl⟩
          replace H : (spec_PartMake.l0 k2 l0 l1 y199 (wrap64 (x7_2 + 1))) = some (r1, r2) := by first | (rw [hy199]; with_reducible exact H) | (have H2_ := (Option.bind_some _ _).symm.trans H; rw [hy199]; with_reducible exact H2_) | (have H2_ := (Option.bind_some _ _).symm.trans H; with_reducible exact H2_) | with_reducible exact H | (rw [hy199]; exact H) | exact H
          have Ny199 := am hy199
          clear hy199
          have H' := am H
          clear H
          try go_wp2
          have n0_ := am (Kd.R_drew HO_6.out)
          have n1_ := am (below_drew1 HB.out)
          clear HO_6
          clear HB
          have HO_6 := n0_
          have HB := n1_
          clear n0_ n1_
          have p197 : 0 ≤ (x7_2 : Int) := od
          have q197 : x7_2 < (l0.length : Int) := od
          obtain ⟨ad197, e197, hx197_0, hx197_1⟩ := at_T43 HR0.out x7_2 p197 q197
          have hw197_1 := hx197_1
          have hw197_0 := hx197_0
          cases e197
          replace hx197_0 := (HB.out.cell (World.block_lt_of_cell? w _ hx197_0)).trans hx197_0
          replace hx197_1 := (HB.out.cell (World.block_lt_of_cell? w _ hx197_1)).trans hx197_1
          replace p197 := eq_true p197
          replace q197 := eq_true q197
          have p198 : 0 ≤ (x7_2 : Int) := od
          have q198 : x7_2 < (l1.length : Int) := od
          obtain ⟨ad198, e198, hx198_0⟩ := Kd.at_int HR1.out x7_2 p198 q198
          have hw198_0 := hx198_0
          cases e198
          replace hx198_0 := (HB.out.cell (World.block_lt_of_cell? w _ hx198_0)).trans hx198_0
          replace p198 := eq_true p198
          replace q198 := eq_true q198
          refine start_ (n := 13) (S := fun w' => w'.cell? (ad197.add ((x7_2).toNat * 2)) = some (.int .i64 ((rd_T43 l0 x7_2).f0)) ∧ w'.cell? ⟨(ad197.add ((x7_2).toNat * 2)).block, (ad197.add ((x7_2).toNat * 2)).off + 1, none⟩ = some (.bool ((rd_T43 l0 x7_2).f1)) ∧ w'.cell? (ad198.add (x7_2).toNat) = some (.int .i64 (rd l1 x7_2))) (ds := []) #[F,F,F,F,F,F,F,F,F,F,F,F,F] (by kernel_rfl) rfl rfl ⟨((HB.out.cell (World.block_lt_of_cell? w _ hw197_0)).trans hw197_0), ((HB.out.cell (World.block_lt_of_cell? w _ hw197_1)).trans hw197_1), ((HB.out.cell (World.block_lt_of_cell? w _ hw198_0)).trans hw198_0)⟩ (fun hHeld => ?_); refine with_tabW spec_PartMake.tab7 spec_PartMake.bits7 (fun HT_ HW_ => ?_)
          generalize wr.drew = w15 at HO_6 HB hx197_0 hx197_1 hx198_0 hHeld ⊢
          refine pz 0 (some 26) #[T,F,F,F,F,F,F,F,F,F,F,F,F] (any_of HT_.out (by kernel_rfl)) (h := ?_)
          refine pz 1 (some 27) #[T,T,F,F,F,F,F,F,F,F,F,F,F] (any_of HT_.out (by kernel_rfl)) (h := ?_)
          refine pz 2 (some 28) #[T,T,T,F,F,F,F,F,F,F,F,F,F] (any_of HT_.out (by kernel_rfl)) (h := ?_)
          refine pz 3 (some 29) #[T,T,T,T,F,F,F,F,F,F,F,F,F] (any_of HT_.out (by kernel_rfl)) (h := ?_)
          refine pz 5 (some 31) #[T,T,T,T,F,T,F,F,F,F,F,F,F] (any_of HT_.out (by kernel_rfl)) (h := ?_)
          refine pz 6 (some 32) #[T,T,T,T,F,T,T,F,F,F,F,F,F] (any_of HT_.out (by kernel_rfl)) (h := ?_)
          refine pz 7 (some 33) #[T,T,T,T,F,T,T,T,F,F,F,F,F] (any_of HT_.out (by kernel_rfl)) (h := ?_)
          refine tz hHeld 4 (some 30) #[T,T,T,T,T,T,T,T,F,F,F,F,F] (take_ofW HT_.out HW_.out (by kernel_rfl)) (h := ?_)
          refine tz hHeld 8 (some 34) #[T,T,T,T,T,T,T,T,T,F,F,F,F] (take_ofW HT_.out HW_.out (by kernel_rfl)) (h := ?_)
          refine pz 9 (some 35) #[T,T,T,T,T,T,T,T,T,T,F,F,F] (any_of HT_.out (by kernel_rfl)) (h := ?_)
          refine one_ (i := 10) (N := some 36) #[T,T,T,T,T,T,T,T,T,T,T,F,F] rfl rfl (one_of HT_.out (by kernel_rfl)) (by decide) (fun K hK => ?_)
          refine value_ (w1 := ?_) (v := ?_) (by rfl) rfl ?_ ?_
          rotate_left 2
          ·go_simp
           constructor
           ·rfl
           ·rfl
          refine hK.out _ _ ⟨(World.cell?_alloc_lt _ _ _ (World.block_lt_of_cell? _ _ (((HB.out.cell (World.block_lt_of_cell? w _ hw197_0)).trans hw197_0)))).trans (((HB.out.cell (World.block_lt_of_cell? w _ hw197_0)).trans hw197_0)), (World.cell?_alloc_lt _ _ _ (World.block_lt_of_cell? _ _ (((HB.out.cell (World.block_lt_of_cell? w _ hw197_1)).trans hw197_1)))).trans (((HB.out.cell (World.block_lt_of_cell? w _ hw197_1)).trans hw197_1)), (World.cell?_alloc_lt _ _ _ (World.block_lt_of_cell? _ _ (((HB.out.cell (World.block_lt_of_cell? w _ hw198_0)).trans hw198_0)))).trans (((HB.out.cell (World.block_lt_of_cell? w _ hw198_0)).trans hw198_0))⟩ (fun hHeld => ?_)
          clear hK K
          refine norm_ (a' := ?_) ?_ ?_
          rotate_left
          ·show Act.put _ (some 36) _ = _
           simp only [Act.put, sA, sZ, sS, i64_w, i32_w]
           rfl
          refine one_ (i := 11) (N := some 37) #[T,T,T,T,T,T,T,T,T,T,T,T,F] rfl rfl (one_of HT_.out (by kernel_rfl)) (by decide) (fun K hK => ?_)
          refine Kd.R_append_step k61 (w0 := w) w.heap.size (by rfl) (.tmp 26) (.tmp 36) 25 61 (.agg #[(.int .i64 0), (.bool false), (.int .i64 0)]) 24 rfl Try.underlying25 info61 rfl (by decide) (by omega) u6 x6_2 (⟨(⟨(rd_T43 l0 x7_2).f0, (rd_T43 l0 x7_2).f1⟩ : S43), rd l1 x7_2⟩ : S61) [.int .i64 ((rd_T43 l0 x7_2).f0), .bool ((rd_T43 l0 x7_2).f1), .int .i64 (rd l1 x7_2)] (fun _ => True) (fun _ => False) rfl rfl ?aP (fun _ hk => hk.elim) ?aF ?aO ?aB ?aS ?aL ?_
          (case aP => exact k61_mkM _ _ _ (⟨(⟨(rd_T43 l0 x7_2).f0, (rd_T43 l0 x7_2).f1⟩ : S43), rd l1 x7_2⟩ : S61))
          (case aB => exact (bu HB.out))
          (case aF => exact (fun _ _ => trivial))
          (case aO => exact (ru HO_6.out))
          (case aS => exact (below_size (bu HB.out)))
          (case aL => have := LMc14.out; omega)
          intro v200 w16 ho hb hg hat
          rw [← Ny199.out] at ho
          have n0_ := am (hb)
          have n1_ := am (ho)
          clear HB
          clear HO_6
          have HB := n0_
          have HO201 := n1_
          clear n0_ n1_
          clear ho hb hg hat
          refine hK.out _ _ ⟨((HB.out.cell (World.block_lt_of_cell? w _ hw197_0)).trans hw197_0), ((HB.out.cell (World.block_lt_of_cell? w _ hw197_1)).trans hw197_1), ((HB.out.cell (World.block_lt_of_cell? w _ hw198_0)).trans hw198_0)⟩ (fun hHeld => ?_)
          clear hK K
          refine norm_ (a' := ?_) ?_ ?_
          rotate_left
          ·show Act.put _ (some 37) _ = _
           simp only [Act.put, sA, sZ, sS, i64_w, i32_w]
           rfl
          refine pz 12 (some 6) #[T,T,T,T,T,T,T,T,T,T,T,T,T] (any_of HT_.out (by kernel_rfl)) (h := ?_)
          refine done_ (done_of HT_.out (by kernel_rfl)) ?_
          try go_wp2
          go_roundg k2
          case measure => have := HJ2.out; have := HK2.out; omega
          case rel => exact ⟨(y199), (wrap64 (x7_2 + 1)), (by first | rfl | (simp; done) | (simp [*]; done)), H', ⟨by have := HJ2.out; have := HK2.out; omega⟩, ⟨ru HO201.out⟩, ⟨bu HB.out⟩⟩
         ·rw [if_neg c14] at H
          exact absurd H (by simp)
        ·rw [if_neg c13] at H
         exact absurd H (by simp)
       ·rw [if_neg c12] at H
        exact absurd H (by simp)
      ·rw [if_neg c11] at H
       have c11b0 : decide (x7_2 < (l0.length : Int)) = false := decide_eq_false c11
       clear c11
       replace H := Option.bind_eq_some_iff.mp H
       obtain ⟨t202, A170, H⟩ := H
       replace H : (if t202 = true then (some (x6_2, true)) else (some ((([] : List (S61))), false))) = some (r1, r2) := H
       have A17 := am A170
       clear A170
       by_cases c18 : t202 = true
       ·subst c18
        have H1 : (some (x6_2, true)) = some (r1, r2) := by rw [if_pos rfl] at H; exact H
        clear H
        have H := H1
        clear H1
        simp only [Option.some.injEq, Prod.mk.injEq] at H
        obtain ⟨rfl, rfl⟩ := H
        obtain ⟨Ao19, co19, eo19⟩ := Kd.R_slice HO_6.out
        subst eo19
        go_wp2_with (first | ((with_reducible refine gate_callee (f := 54) rfl ?_); refine goesL_ (some 39) rfl rfl Try.func54 (by kernel_rfl) rfl #[.slice Ao19 x6_2.length co19] rfl (by (try simp only [List.map_toArray, List.map_cons, List.map_nil]); first | done | rfl | (simp only [List.length_drop, List.length_take]; rfl)) ?_; (with_reducible refine (spec_PartValid.calls k2 _ _ x6_2 true _ ?side1 ?side2 A17.out).mono ?_); (case side1 => exact cu (Kd.R_reads' HO_6.out).2.2); (case side2 => exact (Kd.R_reads' HO_6.out).2.1); rintro e w20 ⟨rfl, hb⟩; refine ⟨_, rfl, ?_⟩; have n0_ := am (Kd.R_below (ru HO_6.out) hb); have n1_ := am (below_step (bu HB.out) hb); clear HO_6; clear HB; have HO_6 := n0_; have HB := n1_; clear n0_ n1_; (try clear hb); (try clear hb2); (try clear hk); (try clear hi)))
        go_ret2
        exact ⟨_, by first | rfl | (simp [errW_none, errW_some] <;> rfl) | (simp [*, errW_none, errW_some] <;> rfl), ru HO_6.out, bu HB.out⟩
       ·replace c18 := Bool.eq_false_iff.mpr c18
        subst c18
        have H1 : (some ((([] : List (S61))), false)) = some (r1, r2) := by rw [if_neg (show ¬ (false = true) by decide)] at H; exact H
        clear H
        have H := H1
        clear H1
        obtain ⟨y203, hy203⟩ : ∃ y_ : List (S61), y_ = (([] : List (S61))) := ⟨_, rfl⟩
        replace H : (some (y203, false)) = some (r1, r2) := by first | (rw [hy203]; with_reducible exact H) | (have H2_ := (Option.bind_some _ _).symm.trans H; rw [hy203]; with_reducible exact H2_) | (have H2_ := (Option.bind_some _ _).symm.trans H; with_reducible exact H2_) | with_reducible exact H | (rw [hy203]; exact H) | exact H
        have Ny203 := am hy203
        clear hy203
        simp only [Option.some.injEq, Prod.mk.injEq] at H
        obtain ⟨rfl, rfl⟩ := H
        obtain ⟨Ao21, co21, eo21⟩ := Kd.R_slice HO_6.out
        subst eo21
        go_wp2_with (first | ((with_reducible refine gate_callee (f := 54) rfl ?_); refine goesL_ (some 39) rfl rfl Try.func54 (by kernel_rfl) rfl #[.slice Ao21 x6_2.length co21] rfl (by (try simp only [List.map_toArray, List.map_cons, List.map_nil]); first | done | rfl | (simp only [List.length_drop, List.length_take]; rfl)) ?_; (with_reducible refine (spec_PartValid.calls k2 _ _ x6_2 false _ ?side1 ?side2 A17.out).mono ?_); (case side1 => exact cu (Kd.R_reads' HO_6.out).2.2); (case side2 => exact (Kd.R_reads' HO_6.out).2.1); rintro e w22 ⟨rfl, hb⟩; refine ⟨_, rfl, ?_⟩; have n0_ := am (Kd.R_below (ru HO_6.out) hb); have n1_ := am (below_step (bu HB.out) hb); clear HO_6; clear HB; have HO_6 := n0_; have HB := n1_; clear n0_ n1_; (try clear hb); (try clear hb2); (try clear hk); (try clear hi)) | ((with_reducible refine gate_dst (N := 41) rfl ?_); (try (refine gate_guard (by rfl) ?_; dsimp only)); refine Kd.R_lit k61 _ 61 ?hg (N := 41) ?hd (xs := ([] : List (S61))) (inner := []) (ok := fun _ => True) (okp := fun _ => True) ?hr ?hp (fun _ hk => hk) trivial (Below.refl _ _) (Nat.le_refl _) (by simp) ?_; (case hd => rfl); (case hg => rfl); (case hr => first | (go_simp; done) | (go_simp; rfl)); (case hp => exact (Reps.none _ _)); intro v204 w23 ho24 hb hg_ hnew_; clear hg_ hnew_; (first | rw [← Ny203.out] at ho24 | (simp only [Int.reduceToNat] at ho24; rw [← Ny203.out] at ho24)); have n0_ := am (Kd.R_elder' (ru HO_6.out) (Kd.R_base ho24) hb); have n1_ := am (Kd.R_lower (Kd.R_new' ho24 (Kd.R_lt (ru HO_6.out))) (below_size (bu HB.out))); have n2_ := am (below_step (bu HB.out) hb); clear HO_6; clear HB; have HO_6 := n0_; have HO205 := n1_; have HB := n2_; clear n0_ n1_ n2_; clear hb ho24))
        go_ret2
        exact ⟨_, by first | rfl | (simp [errW_none, errW_some] <;> rfl) | (simp [*, errW_none, errW_some] <;> rfl), by (with_reducible repeat (first | apply Kd.R_alloc | apply Kd.R_drewN | apply Kd.R_drew)); exact Kd.R_mono HO205.out (fun _ hk => trivial), bu HB.out⟩

/-! ### laws_sameVoices: function 24 -/
def laws_sameVoices.l0 : Nat → List (S61) → List (S61) → Int → Option (Bool)
 | 0, _, _, _ => none
 | k + 1, x0, x1, x5 => if x5 < (x0.length : Int) then (if 0 ≤ x5 then (if x5 < (x1.length : Int) then (if ((!(((rd_T61 x0 x5).f0.f0) == ((rd_T61 x1 x5).f0.f0)) || (!(((rd_T61 x0 x5).f0.f1) == ((rd_T61 x1 x5).f0.f1)))) || (!(((rd_T61 x0 x5).f1) == ((rd_T61 x1 x5).f1)))) = true then (some false) else (laws_sameVoices.l0 k x0 x1 (wrap64 (x5 + 1)))) else (none)) else (none)) else (some true)
def laws_sameVoices.f (k : Nat) (l0 : List (S61)) (l1 : List (S61)) : Option (Bool) := if (l0.length : Int) = (l1.length : Int) then (laws_sameVoices.l0 k l0 l1 0) else (some false)
set_option maxHeartbeats 8000000 in
set_option maxRecDepth 100000 in
theorem laws_sameVoices.calls (k : Nat) (A0 : Option Addr) (c0 : Nat) (l0 : List (S61)) (A1 : Option Addr) (c1 : Nat) (l1 : List (S61)) (r : Bool) (w : World) (hr0 : Kd.C k61 w A0 l0.length l0) (hc0 : l0.length ≤ c0) (hr1 : Kd.C k61 w A1 l1.length l1) (hc1 : l1.length ≤ c1) (h : laws_sameVoices.f k l0 l1 = some r) :
  Calls Try.prog 24 #[.slice A0 l0.length c0, .slice A1 l1.length c1] w fun e w' => e = .returned (.bool r) ∧ Drawn0 w w' := by
 have hu61 := Try.underlying61
 have HR0 := am hr0
 have HC0 := am hc0
 clear hr0 hc0
 have HR1 := am hr1
 have HC1 := am hc1
 clear hr1 hc1
 have H : (if (l0.length : Int) = (l1.length : Int) then (laws_sameVoices.l0 k l0 l1 0) else (some false)) = some r := h
 clear h
 by_cases c3 : (l0.length : Int) = (l1.length : Int)
 ·rw [if_pos c3] at H
  have c3b0 : ((l0.length : Int) == (l1.length : Int)) = true := beq_iff_eq.mpr c3
  have c3b1 : ((l0.length : Int) != (l1.length : Int)) = false := bne_eq_false_iff_eq.mpr c3
  have c3b2 : (l0.length == l1.length) = true := by first | simpa using c3 | (simp at c3 ⊢; omega)
  clear c3
  have H' := am H
  clear H
  go_enter Try.func24, Try.ntmps24
  go_wp2
  repeat (go_quiet (fail); try go_wp2)
  go_loopg [5] k (fun kq v5 w' => ∃ (x5_1 : Int), v5 = .int .i64 x5_1 ∧ Aside0 (laws_sameVoices.l0 kq l0 l1 x5_1 = some r) ∧ Aside0 (kq ≤ k) ∧ Drawn0 w w')
  case atStart => exact ⟨(0), (by first | rfl | (simp; done) | (simp [*]; done)), H', ⟨Nat.le_refl _⟩, by repeat (first | exact Drawn0.refl _ | apply Drawn0.step)⟩
  case round =>
   clear H'
   try clear c1
   try clear c2
   try clear p2
   try clear c3
   try clear c3b0
   try clear c3b1
   try clear c3b2
   obtain ⟨x5_1, rfl, HA, HK1, ⟨m1, rfl⟩⟩ := hrel
   cases gk with
   | zero => exact absurd HA.out (by simp [laws_sameVoices.l0])
   | succ k1 =>
    have H := HA.out
    clear HA
    simp only [laws_sameVoices.l0] at H
    by_cases c4 : x5_1 < (l0.length : Int)
    ·rw [if_pos c4] at H
     have c4b0 : decide (x5_1 < (l0.length : Int)) = true := decide_eq_true c4
     clear c4
     by_cases c5 : 0 ≤ x5_1
     ·rw [if_pos c5] at H
      have c5b0 : decide (0 ≤ x5_1) = true := decide_eq_true c5
      clear c5
      by_cases c6 : x5_1 < (l1.length : Int)
      ·rw [if_pos c6] at H
       have c6b0 : decide (x5_1 < (l1.length : Int)) = true := decide_eq_true c6
       clear c6
       by_cases c7 : ((!(((rd_T61 l0 x5_1).f0.f0) == ((rd_T61 l1 x5_1).f0.f0)) || (!(((rd_T61 l0 x5_1).f0.f1) == ((rd_T61 l1 x5_1).f0.f1)))) || (!(((rd_T61 l0 x5_1).f1) == ((rd_T61 l1 x5_1).f1)))) = true
       ·rw [if_pos c7] at H
        have c7b0 : ((!(((rd_T61 l0 x5_1).f0.f0) == ((rd_T61 l1 x5_1).f0.f0)) || (!(((rd_T61 l0 x5_1).f0.f1) == ((rd_T61 l1 x5_1).f0.f1)))) || (!(((rd_T61 l0 x5_1).f1) == ((rd_T61 l1 x5_1).f1)))) = true := c7
        clear c7
        obtain rfl := Option.some.inj H
        have p206 : 0 ≤ (x5_1 : Int) := od
        have q206 : x5_1 < (l0.length : Int) := od
        obtain ⟨ad206, e206, hx206_0, hx206_1, hx206_2⟩ := at_T61 HR0.out x5_1 p206 q206
        cases e206
        replace p206 := eq_true p206
        replace q206 := eq_true q206
        have p207 : 0 ≤ (x5_1 : Int) := od
        have q207 : x5_1 < (l1.length : Int) := od
        obtain ⟨ad207, e207, hx207_0, hx207_1, hx207_2⟩ := at_T61 HR1.out x5_1 p207 q207
        cases e207
        replace p207 := eq_true p207
        replace q207 := eq_true q207
        go_wp2
        repeat (go_quiet (fail); try go_wp2)
        go_ret
        exact ⟨by first | rfl | (simp; done) | (simp [*]; done), by repeat (first | exact Drawn0.refl _ | apply Drawn0.step)⟩
       ·rw [if_neg c7] at H
        have c7b0 : ((!(((rd_T61 l0 x5_1).f0.f0) == ((rd_T61 l1 x5_1).f0.f0)) || (!(((rd_T61 l0 x5_1).f0.f1) == ((rd_T61 l1 x5_1).f0.f1)))) || (!(((rd_T61 l0 x5_1).f1) == ((rd_T61 l1 x5_1).f1)))) = false := by simpa using c7
        clear c7
        have H' := am H
        clear H
        have p206 : 0 ≤ (x5_1 : Int) := od
        have q206 : x5_1 < (l0.length : Int) := od
        obtain ⟨ad206, e206, hx206_0, hx206_1, hx206_2⟩ := at_T61 HR0.out x5_1 p206 q206
        cases e206
        replace p206 := eq_true p206
        replace q206 := eq_true q206
        have p207 : 0 ≤ (x5_1 : Int) := od
        have q207 : x5_1 < (l1.length : Int) := od
        obtain ⟨ad207, e207, hx207_0, hx207_1, hx207_2⟩ := at_T61 HR1.out x5_1 p207 q207
        cases e207
        replace p207 := eq_true p207
        replace q207 := eq_true q207
        go_wp2
        repeat (go_quiet (fail); try go_wp2)
        go_roundg k1
        case measure => have := HK1.out; omega
        case rel => exact ⟨(wrap64 (x5_1 + 1)), (by first | rfl | (simp; done) | (simp [*]; done)), H', ⟨by have := HK1.out; omega⟩, by repeat (first | exact Drawn0.refl _ | apply Drawn0.step)⟩
      ·rw [if_neg c6] at H
       exact absurd H (by simp)
     ·rw [if_neg c5] at H
      exact absurd H (by simp)
    ·rw [if_neg c4] at H
     have c4b0 : decide (x5_1 < (l0.length : Int)) = false := decide_eq_false c4
     clear c4
     obtain rfl := Option.some.inj H
     go_wp2
     repeat (go_quiet (fail); try go_wp2)
     go_ret
     exact ⟨by first | rfl | (simp; done) | (simp [*]; done), by repeat (first | exact Drawn0.refl _ | apply Drawn0.step)⟩
 ·rw [if_neg c3] at H
  have c3b0 : ((l0.length : Int) == (l1.length : Int)) = false := beq_eq_false_iff_ne.mpr c3
  have c3b1 : ((l0.length : Int) != (l1.length : Int)) = true := bne_iff_ne.mpr c3
  have c3b2 : (l0.length == l1.length) = false := by first | simpa using c3 | (simp at c3 ⊢; omega)
  obtain rfl := Option.some.inj H
  go_enter Try.func24, Try.ntmps24
  go_wp2
  repeat (go_quiet (fail); try go_wp2)
  go_ret
  exact ⟨by first | rfl | (simp; done) | (simp [*]; done), by repeat (first | exact Drawn0.refl _ | apply Drawn0.step)⟩

-- INNER impl_beatRing_add
-- INNER impl_ringOf
/-! ### the ring of beats, by hand -/
def rp (B : Nat → Nat) (i n : Nat) : Value := if n = 0 then .pointer none else .pointer (some ⟨B i, 0, none⟩)
abbrev nodeOf (t : S43) (x : Nat) : Obj := .cells #[.int .i64 t.f0, .bool t.f1, .pointer (some ⟨x, 0, none⟩)] 94
/-- The ring at block g: its beats lie in the blocks B 0, B 1, .., each leading to the next one, the last one to the first. -/
structure IsRing (W0 w : World) (g : Nat) (B : Nat → Nat) (ts : List S43) : Prop where
 below : Below W0.heap.size W0 w
 hg : W0.heap.size ≤ g
 ring : w.heap[g]? = some (.cells #[rp B 0 ts.length, rp B (ts.length - 1) ts.length, .int .i64 (ts.length : Int)] 88 (0, 0))
 node : ∀ i (h : i < ts.length), w.heap[B i]? = some (nodeOf ts[i] (B (if i + 1 = ts.length then 0 else i + 1)))
 base : ∀ i, i < ts.length → W0.heap.size ≤ B i
 inj : ∀ i j, i < ts.length → j < ts.length → B i = B j → i = j
theorem IsRing.mono {W0 w w1 : World} {g : Nat} {B : Nat → Nat} {ts : List S43} (h : IsRing W0 w g B ts) (hb : Below w.heap.size w w1) : IsRing W0 w1 g B ts :=
 ⟨below_step h.below hb, h.hg, blk_below h.ring hb, fun i hi => blk_below (h.node i hi) hb, h.base, h.inj⟩
theorem IsRing.empty0 {W0 w : World} (hb : Below W0.heap.size W0 w) : IsRing W0 (w.alloc (.cells #[.pointer none, .pointer none, .int .i64 0] 88)) w.heap.size (fun _ => 0) [] :=
 ⟨below_alloc hb _, hb.size, blk_new w _, fun i hi => absurd hi (Nat.not_lt_zero _), fun i hi => absurd hi (Nat.not_lt_zero _), fun i j hi => absurd hi (Nat.not_lt_zero _)⟩
theorem IsRing.first {W0 w : World} {g : Nat} {B : Nat → Nat} (h : IsRing W0 w g B []) (t : S43) (X : Obj) :
  IsRing W0 (((((w.setCell ⟨g, 0, none⟩ (.pointer (some ⟨w.heap.size + 1, 0, none⟩))).setCell ⟨g, 1, none⟩ (.pointer (some ⟨w.heap.size + 1, 0, none⟩))).setCell ⟨g, 2, none⟩ (.int .i64 1)).alloc X).alloc (nodeOf t (w.heap.size + 1))) g (fun _ => w.heap.size + 1) [t] := by
 have hr := h.ring
 have hs : ∀ (v1 v2 v3 : Value) (p1 p2 p3 : Addr), (((w.setCell p1 v1).setCell p2 v2).setCell p3 v3).heap.size = w.heap.size := fun _ _ _ _ _ _ => by simp [World.setCell]
 refine ⟨?_, h.hg, ?_, ?_, ?_, ?_⟩
 ·exact below_alloc (below_alloc (below_set (below_set (below_set h.below h.hg) h.hg) h.hg) _) _
 ·refine blk_alloc (blk_alloc ?_ _) _
  exact blk_put (blk_put (blk_put hr 0 _ rfl) 1 _ rfl) 2 _ rfl
 ·intro i hi
  have hi0 : i = 0 := by simpa using hi
  subst hi0
  have := blk_new ((((w.setCell ⟨g, 0, none⟩ (.pointer (some ⟨w.heap.size + 1, 0, none⟩))).setCell ⟨g, 1, none⟩ (.pointer (some ⟨w.heap.size + 1, 0, none⟩))).setCell ⟨g, 2, none⟩ (.int .i64 1)).alloc X) (nodeOf t (w.heap.size + 1))
  rw [show ((((w.setCell ⟨g, 0, none⟩ (.pointer (some ⟨w.heap.size + 1, 0, none⟩))).setCell ⟨g, 1, none⟩ (.pointer (some ⟨w.heap.size + 1, 0, none⟩))).setCell ⟨g, 2, none⟩ (.int .i64 1)).alloc X).heap.size = w.heap.size + 1 by simp [World.setCell, World.alloc]] at this
  simpa using this
 ·intro i hi
  have := h.below.size
  omega
 ·intro i j hi hj _
  simp at hi hj
  omega
theorem IsRing.more {W0 w : World} {g : Nat} {B : Nat → Nat} {ts : List S43} (h : IsRing W0 w g B ts) (hn : 0 < ts.length) (t : S43) (X : Obj) :
  IsRing W0 (((((w.setCell ⟨B (ts.length - 1), 2, none⟩ (.pointer (some ⟨w.heap.size + 1, 0, none⟩))).setCell ⟨g, 1, none⟩ (.pointer (some ⟨w.heap.size + 1, 0, none⟩))).setCell ⟨g, 2, none⟩ (.int .i64 ((ts.length : Int) + 1))).alloc X).alloc (nodeOf t (B 0))) g (fun i => if i = ts.length then w.heap.size + 1 else B i) (ts ++ [t]) := by
 have hr := h.ring
 have hB : ∀ i, i < ts.length → B i < w.heap.size := fun i hi => blk_lt (h.node i hi)
 have hgB : ∀ i, i < ts.length → g ≠ B i := fun i hi => blk_ne hr (h.node i hi) (by decide)
 have hl : ts.length - 1 < ts.length := by omega
 have hz : (((w.setCell ⟨B (ts.length - 1), 2, none⟩ (.pointer (some ⟨w.heap.size + 1, 0, none⟩))).setCell ⟨g, 1, none⟩ (.pointer (some ⟨w.heap.size + 1, 0, none⟩))).setCell ⟨g, 2, none⟩ (.int .i64 ((ts.length : Int) + 1))).heap.size = w.heap.size := by simp [World.setCell]
 have e0 : ¬ (ts.length = 0) := by omega
 refine ⟨?_, h.hg, ?_, ?_, ?_, ?_⟩
 ·exact below_alloc (below_alloc (below_set (below_set (below_set h.below (h.base _ hl)) h.hg) h.hg) _) _
 ·refine blk_alloc (blk_alloc ?_ _) _
  have h1 := blk_far (p := ⟨B (ts.length - 1), 2, none⟩) hr (hgB _ hl) (.pointer (some ⟨w.heap.size + 1, 0, none⟩))
  have h3 := blk_put (blk_put h1 1 (.pointer (some ⟨w.heap.size + 1, 0, none⟩)) rfl) 2 (.int .i64 ((ts.length : Int) + 1)) rfl
  rw [h3]
  simp [rp, e0, Array.setIfInBounds]
  intro h
  omega
 ·intro i hi
  rw [List.length_append, List.length_singleton] at hi
  by_cases hit : i = ts.length
  ·subst hit
   have := blk_new ((((w.setCell ⟨B (ts.length - 1), 2, none⟩ (.pointer (some ⟨w.heap.size + 1, 0, none⟩))).setCell ⟨g, 1, none⟩ (.pointer (some ⟨w.heap.size + 1, 0, none⟩))).setCell ⟨g, 2, none⟩ (.int .i64 ((ts.length : Int) + 1))).alloc X) (nodeOf t (B 0))
   rw [show ((((w.setCell ⟨B (ts.length - 1), 2, none⟩ (.pointer (some ⟨w.heap.size + 1, 0, none⟩))).setCell ⟨g, 1, none⟩ (.pointer (some ⟨w.heap.size + 1, 0, none⟩))).setCell ⟨g, 2, none⟩ (.int .i64 ((ts.length : Int) + 1))).alloc X).heap.size = w.heap.size + 1 by simp [World.setCell, World.alloc]] at this
   have e2 : ¬ (0 = ts.length) := fun e => e0 e.symm
   simpa [e2] using this
  ·have hil : i < ts.length := by omega
   refine blk_alloc (blk_alloc ?_ _) _
   have hnd := h.node i hil
   have e3 : (ts ++ [t])[i]'(by simp; omega) = ts[i] := List.getElem_append_left hil
   have e4 : (if i + 1 = (ts ++ [t]).length then 0 else i + 1) = i + 1 := if_neg (by simp; omega)
   rw [e3, if_neg hit, e4]
   have hgi : B i ≠ g := fun e => hgB _ hil e.symm
   by_cases hlast : i = ts.length - 1
   ·subst hlast
    rw [if_pos (by omega)]
    exact blk_far (p := ⟨g, 2, none⟩) (blk_far (p := ⟨g, 1, none⟩) (blk_put hnd 2 _ rfl) hgi _) hgi _
   ·rw [if_neg (by omega)] at hnd
    rw [if_neg (by omega)]
    exact blk_far (p := ⟨g, 2, none⟩) (blk_far (p := ⟨g, 1, none⟩) (blk_far (p := ⟨B (ts.length - 1), 2, none⟩) hnd (fun e => hlast (h.inj _ _ hil hl e)) _) hgi _) hgi _
 ·intro i hi
  rw [List.length_append, List.length_singleton] at hi
  by_cases hit : i = ts.length
  ·rw [if_pos hit]
   have := h.below.size
   omega
  ·rw [if_neg hit]
   exact h.base i (by omega)
 ·intro i j hi hj e
  rw [List.length_append, List.length_singleton] at hi hj
  by_cases hit : i = ts.length <;> by_cases hjt : j = ts.length
  ·omega
  ·rw [if_pos hit, if_neg hjt] at e
   have := hB j (by omega)
   omega
  ·rw [if_neg hit, if_pos hjt] at e
   have := hB i (by omega)
   omega
  ·rw [if_neg hit, if_neg hjt] at e
   exact h.inj i j (by omega) (by omega) e
set_option maxHeartbeats 1000000 in
set_option maxRecDepth 100000 in
theorem add_first (g : Nat) (t : S43) (w : World) (h0 : w.heap[g]? = some (.cells #[.pointer none, .pointer none, .int .i64 0] 88 (0, 0))) :
  Calls Try.prog 65 #[.pointer (some ⟨g, 0, none⟩), .agg #[.int .i64 t.f0, .bool t.f1]] w fun e w' => e = .returned (.tuple #[]) ∧ w' = (((((w.setCell ⟨g, 0, none⟩ (.pointer (some ⟨w.heap.size + 1, 0, none⟩))).setCell ⟨g, 1, none⟩ (.pointer (some ⟨w.heap.size + 1, 0, none⟩))).setCell ⟨g, 2, none⟩ (.int .i64 1)).alloc (.cells #[.int .i64 t.f0, .bool t.f1] 43)).alloc (nodeOf t (w.heap.size + 1))) := by
 have hlt := blk_lt h0
 have f0 := fun i => blk_frozen h0 i
 have c0 : w.cell? ⟨g, 0, none⟩ = some (.pointer none) := blk_cell h0 0
 have c1 : w.cell? ⟨g, 1, none⟩ = some (.pointer none) := blk_cell h0 1
 have c2 : w.cell? ⟨g, 2, none⟩ = some (.int .i64 0) := blk_cell h0 2
 have hne : ¬ (w.heap.size + 1 = g) := by omega
 have hu48 := Try.underlying43
 have hu89 := Try.underlying94
 have hu79 := Try.underlying88
 have hu77 := Try.underlying86
 have H0 := am h0
 clear h0
 go_enter Try.func65, Try.ntmps65
 go_wp2
 go_end0
 exact ⟨rfl, rfl⟩
set_option maxHeartbeats 1000000 in
set_option maxRecDepth 100000 in
theorem add_more (g b l : Nat) (n : Nat) (hn : n ≤ 1000) (x : S43) (nx : Value) (t : S43) (w : World) (h0 : w.heap[g]? = some (.cells #[.pointer (some ⟨b, 0, none⟩), .pointer (some ⟨l, 0, none⟩), .int .i64 (n : Int)] 88 (0, 0)))
  (hl : w.heap[l]? = some (.cells #[.int .i64 x.f0, .bool x.f1, nx] 94 (0, 0))) :
  Calls Try.prog 65 #[.pointer (some ⟨g, 0, none⟩), .agg #[.int .i64 t.f0, .bool t.f1]] w fun e w' => e = .returned (.tuple #[]) ∧ w' = (((((w.setCell ⟨l, 2, none⟩ (.pointer (some ⟨w.heap.size + 1, 0, none⟩))).setCell ⟨g, 1, none⟩ (.pointer (some ⟨w.heap.size + 1, 0, none⟩))).setCell ⟨g, 2, none⟩ (.int .i64 ((n : Int) + 1))).alloc (.cells #[.int .i64 t.f0, .bool t.f1] 43)).alloc (nodeOf t b)) := by
 have hlt := blk_lt h0
 have hlt2 := blk_lt hl
 have hgl : ¬ (g = l) := blk_ne h0 hl (by decide)
 have hlg : ¬ (l = g) := fun e => hgl e.symm
 have f0 := fun i => blk_frozen h0 i
 have f1 := fun i => blk_frozen hl i
 have c0 : w.cell? ⟨g, 0, none⟩ = some (.pointer (some ⟨b, 0, none⟩)) := blk_cell h0 0
 have c1 : w.cell? ⟨g, 1, none⟩ = some (.pointer (some ⟨l, 0, none⟩)) := blk_cell h0 1
 have c2 : w.cell? ⟨g, 2, none⟩ = some (.int .i64 (n : Int)) := blk_cell h0 2
 have d2 : w.cell? ⟨l, 2, none⟩ = some nx := blk_cell hl 2
 have hu48 := Try.underlying43
 have hu89 := Try.underlying94
 have hu79 := Try.underlying88
 have hu77 := Try.underlying86
 have H0 := am h0
 have HL := am hl
 clear h0 hl
 go_enter Try.func65, Try.ntmps65
 go_wp2
 go_end0
 exact ⟨rfl, rfl⟩
theorem add_any {W0 w : World} {g : Nat} {B : Nat → Nat} {ts : List S43} (h : IsRing W0 w g B ts) (hn : ts.length ≤ 1000) (t : S43) :
  Calls Try.prog 65 #[.pointer (some ⟨g, 0, none⟩), .agg #[.int .i64 t.f0, .bool t.f1]] w fun e w' => e = .returned (.tuple #[]) ∧ (∃ B', IsRing W0 w' g B' (ts ++ [t])) ∧ ∀ (k q : Nat) (cs : Array Value), q ≠ 88 → q ≠ 94 → w.heap[k]? = some (.cells cs q (0, 0)) → w'.heap[k]? = some (.cells cs q (0, 0)) := by
 by_cases h0 : ts = []
 ·subst h0
  refine (add_first g t w h.ring).mono ?_
  rintro e w' ⟨rfl, rfl⟩
  refine ⟨rfl, ⟨_, h.first t _⟩, fun k q cs h1 h2 hk => ?_⟩
  have hkg : k ≠ g := blk_ne hk h.ring h1
  exact blk_alloc (blk_alloc (blk_far (p := ⟨g, 2, none⟩) (blk_far (p := ⟨g, 1, none⟩) (blk_far (p := ⟨g, 0, none⟩) hk hkg _) hkg _) hkg _) _) _
 ·have hp : 0 < ts.length := List.length_pos_iff.2 h0
  have hr := h.ring
  have e0 : ¬ (ts.length = 0) := by omega
  simp only [rp, e0, if_false] at hr
  refine (add_more g (B 0) (B (ts.length - 1)) ts.length hn ts[ts.length - 1] _ t w hr (h.node _ (by omega))).mono ?_
  rintro e w' ⟨rfl, rfl⟩
  refine ⟨rfl, ⟨_, h.more hp t _⟩, fun k q cs h1 h2 hk => ?_⟩
  have hkg : k ≠ g := blk_ne hk h.ring h1
  have hkl : k ≠ B (ts.length - 1) := blk_ne hk (h.node (ts.length - 1) (by omega)) h2
  exact blk_alloc (blk_alloc (blk_far (p := ⟨g, 2, none⟩) (blk_far (p := ⟨g, 1, none⟩) (blk_far (p := ⟨B (ts.length - 1), 2, none⟩) hk hkl _) hkg _) hkg _) _) _
def expand (l : List S61) : List S43 := l.flatMap fun v => List.replicate v.f1.toNat v.f0
theorem expand_snoc (l : List S61) (i : Nat) (h : i < l.length) : expand (l.take (i + 1)) = expand (l.take i) ++ List.replicate l[i].f1.toNat l[i].f0 := by
 unfold expand
 rw [List.take_succ_eq_append_getElem h, List.flatMap_append]
 simp
theorem expand_len (l : List S61) (h : ∀ v ∈ l, v.f1 ≤ 3) : (expand l).length ≤ 3 * l.length := by
 induction l with
 | nil => simp [expand]
 | cons v l ih =>
  have h1 := ih (fun x hx => h x (by simp [hx]))
  have h2 := h v (by simp)
  have e : expand (v :: l) = List.replicate v.f1.toNat v.f0 ++ expand l := by simp [expand]
  rw [e, List.length_append, List.length_replicate, List.length_cons]
  omega
theorem rdV_at (l : List S61) (i : Nat) (h : i < l.length) : rd_T61 l (i : Int) = l[i] := by
 simp [rd_T61, List.getD_eq_getElem?_getD, h]
set_option maxHeartbeats 2000000 in
set_option maxRecDepth 100000 in
theorem ringOf_no (k : Nat) (A0 : Option Addr) (c0 : Nat) (l0 : List (S61)) (w : World) (hr0 : Kd.C k61 w A0 l0.length l0) (hc0 : l0.length ≤ c0) (h : impl_PartValid.f k l0 = some false) :
  Calls Try.prog 55 #[.slice A0 l0.length c0] w fun e w' => e = .returned (.tuple #[.pointer none, .bool false]) ∧ Below w.heap.size w w' := by
 have HR0 := am hr0
 have HC0 := am hc0
 have H := am h
 clear hr0 hc0 h
 go_enter Try.func55, Try.ntmps55
 go_wp2_with (first | (go_at_call 49; (with_reducible refine (impl_PartValid.calls k A0 c0 l0 false _ HR0.out HC0.out H.out).mono ?_); rintro e w1 ⟨rfl, hb⟩))
 go_ret2
 exact ⟨rfl, hb⟩
set_option maxHeartbeats 4000000 in
set_option maxRecDepth 100000 in
theorem ringOf_yes (k : Nat) (A0 : Option Addr) (c0 : Nat) (l0 : List (S61)) (w : World) (hr0 : Kd.C k61 w A0 l0.length l0) (hc0 : l0.length ≤ c0) (h : impl_PartValid.f k l0 = some true) (hv : ∀ v ∈ l0, 0 ≤ v.f1 ∧ v.f1 ≤ 3) (hl : l0.length ≤ 12) :
  Calls Try.prog 55 #[.slice A0 l0.length c0] w fun e w' => ∃ g : Nat, e = .returned (.tuple #[.pointer (some ⟨g, 0, none⟩), .bool true]) ∧ ∃ B, IsRing w w' g B (expand l0) := by
 have hu59 := Try.underlying61
 have hu48 := Try.underlying43
 have hu79 := Try.underlying88
 have HR0 := am hr0
 have HC0 := am hc0
 have H := am h
 have HV := am hv
 clear hr0 hc0 h hv
 go_enter Try.func55, Try.ntmps55
 go_wp2_with (first | (go_at_call 49; (with_reducible refine (impl_PartValid.calls k A0 c0 l0 true _ HR0.out HC0.out H.out).mono ?_); rintro e w1 ⟨rfl, hb⟩; have HB := am hb; clear hb))
 go_loopg [14] l0.length (fun kq v14 w' => ∃ i : Nat, v14 = .int .i64 (i : Int) ∧ Aside0 (i ≤ l0.length ∧ kq = l0.length - i) ∧ ∃ B, Aside0 (IsRing w w' w1.heap.size B (expand (l0.take i))))
 case atStart => exact ⟨0, rfl, ⟨by omega, by omega⟩, _, ⟨IsRing.empty0 HB.out⟩⟩
 case round =>
  obtain ⟨i, rfl, HI, B, HR⟩ := hrel
  by_cases hlt : i < l0.length
  ·obtain ⟨ad, e1, hx0, hx1, hx2⟩ := at_T61 (Kd.C_below HR0.out HR.out.below) (i : Int) (by omega) (by omega)
   cases e1
   simp only [Int.toNat_natCast] at hx0 hx1 hx2
   have hri := rdV_at l0 i hlt
   have hb1 := HV.out l0[i] (List.getElem_mem hlt)
   rw [← hri] at hb1
   have hb2 : (rd_T61 l0 (i : Int)).f1 ≤ 3 := hb1.2
   have hb3 : 0 ≤ (rd_T61 l0 (i : Int)).f1 := hb1.1
   have HRI := am hri
   clear hri hb1
   generalize rd_T61 l0 (i : Int) = x at *
   go_wp2
   obtain ⟨wo, rfl⟩ : ∃ wo : World, wo = wr := ⟨_, rfl⟩
   go_loopg [20] x.f1.toNat (fun kq v20 w' => ∃ j : Nat, v20 = .int .i64 (j : Int) ∧ Aside0 ((j : Int) ≤ x.f1 ∧ kq = x.f1.toNat - j) ∧ (∃ B, Aside0 (IsRing w w' w1.heap.size B (expand (l0.take i) ++ List.replicate j x.f0))) ∧ Aside0 (w'.heap[wo.heap.size]? = some (.cells #[.int .i64 x.f0.f0, .bool x.f0.f1, .int .i64 x.f1] 61 (0, 0))))
   case atStart => exact ⟨0, rfl, ⟨by omega, by omega⟩, ⟨B, ⟨by simpa using HR.out.mono (below_alloc (Below.refl _ _) _)⟩⟩, ⟨blk_new _ _⟩⟩
   case round =>
    obtain ⟨j, rfl, HJ, ⟨B1, HR1⟩, HB1⟩ := hrel
    have b0 : wr.cell? ⟨wo.heap.size, 0, none⟩ = some (.int .i64 x.f0.f0) := blk_cell HB1.out 0
    have b1 : wr.cell? ⟨wo.heap.size, 1, none⟩ = some (.bool x.f0.f1) := blk_cell HB1.out 1
    by_cases hjt : (j : Int) < x.f1
    ·have hlen : (expand (l0.take i) ++ List.replicate j x.f0).length ≤ 1000 := by
      have h1 := expand_len (l0.take i) (fun v hv => (HV.out v (List.mem_of_mem_take hv)).2)
      rw [List.length_append, List.length_replicate]
      rw [List.length_take] at h1
      have := HJ.out.1
      omega
     have HL := am hlen
     clear hlen
     go_wp2_with (first | (go_at_call 65; (with_reducible refine (add_any HR1.out HL.out x.f0).mono ?_); rintro e w3 ⟨rfl, hR, hK⟩; have HR2 := am hR; have HK2 := am hK; clear hR hK))
     go_roundg (x.f1.toNat - (j + 1))
     case measure => have := HJ.out; omega
     case rel =>
      obtain ⟨B2, hR2⟩ := HR2.out
      refine ⟨j + 1, by simp, ⟨by omega, rfl⟩, ⟨B2, ⟨?_⟩⟩, ⟨HK2.out _ _ _ (by decide) (by decide) HB1.out⟩⟩
      rw [List.replicate_succ', ← List.append_assoc]
      exact hR2
    ·go_wp2
     go_roundg (l0.length - (i + 1))
     case measure => have := HI.out; omega
     case rel =>
      refine ⟨i + 1, by simp, ⟨by omega, rfl⟩, B1, ⟨?_⟩⟩
      rw [expand_snoc l0 i hlt, ← HRI.out, show x.f1.toNat = j by have := HJ.out.1; omega]
      exact HR1.out
  ·go_wp2
   go_ret2
   refine ⟨_, rfl, B, ?_⟩
   have e : i = l0.length := by have := HI.out; omega
   have hR := HR.out
   rw [e, List.take_length] at hR
   exact hR
theorem valid_facts : ∀ (k : Nat) (x3 : Int) (l : List S61) (i : Nat), i ≤ l.length → l.length ≤ 12 → impl_PartValid.l0 k x3 l (l.length : Int) (i : Int) = some true → ∀ v ∈ l.drop i, 1 ≤ v.f1 ∧ v.f1 ≤ 3 := by
 intro k
 induction k with
 | zero => intro x3 l i _ _ h; simp [impl_PartValid.l0] at h
 | succ k ih =>
  intro x3 l i hi hl h v hv
  simp only [impl_PartValid.l0] at h
  by_cases hlt : i < l.length
  ·rw [if_pos (by omega), if_pos (by omega), if_pos (by omega), rdV_at l i hlt] at h
   obtain ⟨b, hb, h⟩ := Option.bind_eq_some_iff.mp h
   have hb1 : b = true := by
    cases b with
    | true => rfl
    | false => simp at h
   rw [if_pos hb1] at h
   by_cases h1 : l[i].f1 < 1
   ·rw [if_pos h1] at h; simp at h
   ·rw [if_neg h1] at h
    by_cases h3 : l[i].f1 > 3
    ·rw [if_pos h3] at h; simp at h
    ·rw [if_neg h3, show wrap64 ((i : Int) + 1) = ((i + 1 : Nat) : Int) by unfold wrap64; omega] at h
     rw [List.drop_eq_getElem_cons hlt] at hv
     rcases List.mem_cons.1 hv with rfl | hv
     ·omega
     ·exact ih _ l (i + 1) (by omega) hl h v hv
  ·rw [List.drop_eq_nil_of_le (by omega)] at hv
   simp at hv
theorem valid_true {k : Nat} {l : List S61} (h : impl_PartValid.f k l = some true) : l.length ≤ 12 ∧ ∀ v ∈ l, 1 ≤ v.f1 ∧ v.f1 ≤ 3 := by
 unfold impl_PartValid.f at h
 by_cases hl : (l.length : Int) > 12
 ·rw [if_pos hl] at h; simp at h
 ·rw [if_neg hl] at h
  exact ⟨by omega, by simpa using valid_facts k 0 l 0 (by omega) (by omega) h⟩

/-- The number of beats of a part, or -1. -/
def impl_PartBeats.f (k : Nat) (l0 : List (S61)) : Option Int := (impl_PartValid.f k l0).bind fun b => some (if b = true then ((expand l0).length : Int) else -1)
set_option maxHeartbeats 2000000 in
set_option maxRecDepth 100000 in
theorem impl_PartBeats.calls (k : Nat) (A0 : Option Addr) (c0 : Nat) (l0 : List (S61)) (r : Int) (w : World) (hr0 : Kd.C k61 w A0 l0.length l0) (hc0 : l0.length ≤ c0) (h : impl_PartBeats.f k l0 = some r) :
  Calls Try.prog 25 #[.slice A0 l0.length c0] w fun e w' => e = .returned (.int .i64 r) ∧ Below w.heap.size w w' := by
 obtain ⟨b, hb, h⟩ := Option.bind_eq_some_iff.mp h
 have HR0 := am hr0
 have HC0 := am hc0
 have H := am hb
 clear hr0 hc0 hb
 have hu79 := Try.underlying88
 cases b with
 | false =>
  obtain rfl := Option.some.inj h
  go_enter Try.func25, Try.ntmps25
  go_wp2_with (first | (go_at_call 55; (with_reducible refine (ringOf_no k A0 c0 l0 _ HR0.out HC0.out H.out).mono ?_); rintro e w1 ⟨rfl, hb⟩))
  go_ret
  exact ⟨rfl, hb⟩
 | true =>
  obtain rfl := Option.some.inj h
  obtain ⟨hl, hv⟩ := valid_true H.out
  have HV := am (show ∀ v ∈ l0, 0 ≤ v.f1 ∧ v.f1 ≤ 3 from fun v hv' => ⟨by have := hv v hv'; omega, (hv v hv').2⟩)
  clear hv
  go_enter Try.func25, Try.ntmps25
  go_wp2_with (first | (go_at_call 55; (with_reducible refine (ringOf_yes k A0 c0 l0 _ HR0.out HC0.out H.out HV.out hl).mono ?_); rintro e w1 ⟨g, rfl, B, hR⟩; have HR := am hR; have hc := blk_cell hR.ring 2; clear hR))
  go_ret
  exact ⟨rfl, HR.out.below⟩


/-! ### laws_sumOf: function 26 -/
def laws_sumOf.l0 : Nat → List Int → Int → Int → Option (Int)
 | 0, _, _, _ => none
 | k + 1, x0, x3, x4 => if x4 < (x0.length : Int) then (if 0 ≤ x4 then (laws_sumOf.l0 k x0 (wrap64 (x3 + (rd x0 x4))) (wrap64 (x4 + 1))) else (none)) else (some x3)
def laws_sumOf.f (k : Nat) (l0 : List Int) : Option (Int) := laws_sumOf.l0 k l0 0 0
set_option maxHeartbeats 8000000 in
set_option maxRecDepth 100000 in
theorem laws_sumOf.calls (k : Nat) (A0 : Option Addr) (c0 : Nat) (l0 : List Int) (r : Int) (w : World) (hr0 : Kd.C (Kd.int .i64) w A0 l0.length l0) (hc0 : l0.length ≤ c0) (h : laws_sumOf.f k l0 = some r) :
  Calls Try.prog 26 #[.slice A0 l0.length c0] w fun e w' => e = .returned (.int .i64 r) ∧ Drawn0 w w' := by
 have HR0 := am hr0
 have HC0 := am hc0
 clear hr0 hc0
 have H : (laws_sumOf.l0 k l0 0 0) = some r := h
 clear h
 have H' := am H
 clear H
 go_enter Try.func26, Try.ntmps26
 go_wp2
 go_loopg [3, 4] k (fun kq v3 v4 w' => ∃ (x3_1 : Int) (x4_1 : Int), v3 = .int .i64 x3_1 ∧ v4 = .int .i64 x4_1 ∧ Aside0 (laws_sumOf.l0 kq l0 x3_1 x4_1 = some r) ∧ Aside0 (kq ≤ k) ∧ Drawn0 w w')
 case atStart => exact ⟨(0), (0), (by first | rfl | (simp; done) | (simp [*]; done)), (by first | rfl | (simp; done) | (simp [*]; done)), H', ⟨Nat.le_refl _⟩, by repeat (first | exact Drawn0.refl _ | apply Drawn0.step)⟩
 case round =>
  clear H'
  obtain ⟨x3_1, x4_1, rfl, rfl, HA, HK1, ⟨m1, rfl⟩⟩ := hrel
  cases gk with
  | zero => exact absurd HA.out (by simp [laws_sumOf.l0])
  | succ k1 =>
   have H := HA.out
   clear HA
   simp only [laws_sumOf.l0] at H
   by_cases c2 : x4_1 < (l0.length : Int)
   ·rw [if_pos c2] at H
    have c2b0 : decide (x4_1 < (l0.length : Int)) = true := decide_eq_true c2
    clear c2
    by_cases c3 : 0 ≤ x4_1
    ·rw [if_pos c3] at H
     have c3b0 : decide (0 ≤ x4_1) = true := decide_eq_true c3
     clear c3
     have H' := am H
     clear H
     have p208 : 0 ≤ (x4_1 : Int) := od
     have q208 : x4_1 < (l0.length : Int) := od
     obtain ⟨ad208, e208, hx208_0⟩ := Kd.at_int HR0.out x4_1 p208 q208
     cases e208
     replace p208 := eq_true p208
     replace q208 := eq_true q208
     go_wp2
     go_roundg k1
     case measure => have := HK1.out; omega
     case rel => exact ⟨(wrap64 (x3_1 + (rd l0 x4_1))), (wrap64 (x4_1 + 1)), (by first | rfl | (simp; done) | (simp [*]; done)), (by first | rfl | (simp; done) | (simp [*]; done)), H', ⟨by have := HK1.out; omega⟩, by repeat (first | exact Drawn0.refl _ | apply Drawn0.step)⟩
    ·rw [if_neg c3] at H
     exact absurd H (by simp)
   ·rw [if_neg c2] at H
    have c2b0 : decide (x4_1 < (l0.length : Int)) = false := decide_eq_false c2
    clear c2
    obtain rfl := Option.some.inj H
    go_wp2
    go_ret
    exact ⟨by first | rfl | (simp; done) | (simp [*]; done), by repeat (first | exact Drawn0.refl _ | apply Drawn0.step)⟩

-- INNER impl_beatRing_at
set_option maxHeartbeats 2000000 in
set_option maxRecDepth 100000 in
theorem ring_at {W0 w : World} {g : Nat} {B : Nat → Nat} {ts : List S43} (h : IsRing W0 w g B ts) (hn : ts.length ≤ 1000) (x : Nat) (hx : x < ts.length) :
  Calls Try.prog 56 #[.pointer (some ⟨g, 0, none⟩), .int .i64 (x : Int)] w fun e w' => e = .returned (.agg #[.int .i64 ts[x].f0, .bool ts[x].f1]) ∧ Below w.heap.size w w' := by
 have hu48 := Try.underlying43
 have hu89 := Try.underlying94
 have hu79 := Try.underlying88
 have hu77 := Try.underlying86
 have H := am h
 have e0 : ¬ (ts.length = 0) := by omega
 have hr := (h.mono (below_alloc (Below.refl _ _) (.cells #[.int .i64 0, .bool false] 43))).ring
 simp only [rp, e0, if_false] at hr
 have c0 : (w.alloc (.cells #[.int .i64 0, .bool false] 43)).cell? ⟨g, 0, none⟩ = some (.pointer (some ⟨B 0, 0, none⟩)) := blk_cell hr 0
 clear h hr
 go_enter Try.func56, Try.ntmps56
 go_wp2
 go_loopg [5, 11] x (fun kq v5 v11 w' => ∃ j : Nat, v11 = .int .i64 (j : Int) ∧ v5 = .pointer (some ⟨B j, 0, none⟩) ∧ Aside0 (j ≤ x ∧ kq = x - j) ∧ Aside0 (Below w.heap.size w w') ∧ Aside0 (w'.heap[w.heap.size]? = some (.cells #[.int .i64 0, .bool false] 43 (0, 0))))
 case atStart => exact ⟨0, rfl, rfl, ⟨by omega, by omega⟩, ⟨below_alloc (Below.refl _ _) _⟩, ⟨blk_new _ _⟩⟩
 case round =>
  obtain ⟨j, rfl, rfl, HJ, HB, HK⟩ := hrel
  have hj : j < ts.length := by have := HJ.out; omega
  have nd := (H.out.mono HB.out).node j hj
  have n0 : wr.cell? ⟨B j, 0, none⟩ = some (.int .i64 ts[j].f0) := blk_cell nd 0
  have n1 : wr.cell? ⟨B j, 1, none⟩ = some (.bool ts[j].f1) := blk_cell nd 1
  have n2 : wr.cell? ⟨B j, 2, none⟩ = some (.pointer (some ⟨B (if j + 1 = ts.length then 0 else j + 1), 0, none⟩)) := blk_cell nd 2
  clear nd
  by_cases hjx : j < x
  ·rw [if_neg (by omega)] at n2
   go_wp2
   go_roundg (x - (j + 1))
   case measure => have := HJ.out; omega
   case rel => exact ⟨j + 1, by simp, rfl, ⟨by omega, rfl⟩, HB, HK⟩
  ·have e : j = x := by have := HJ.out.1; omega
   subst e
   clear n2
   have k0 := blk_cell HK.out 0
   have k1 := blk_cell HK.out 1
   have kf := fun i => blk_frozen HK.out i
   go_wp2
   refine bodyPost_ret (results_cell_row rfl _ _ w.heap.size 43 #[.int .i64 ts[j].f0, .bool ts[j].f1] (0, 0) _ rfl (blk_put (cs := #[.int .i64 ts[j].f0, .bool false]) (blk_put HK.out 0 _ rfl) 1 _ rfl) Try.underlying43 rfl (by kernel_rfl)) rfl ?_
   exact ⟨rfl, below_set (below_set HB.out (Nat.le_refl _)) (Nat.le_refl _)⟩
/-- The tone at a beat of a part. -/
def impl_PartAt.f (k : Nat) (l0 : List (S61)) (a1 : Int) : Option (Int × Bool × Bool) := (impl_PartValid.f k l0).bind fun b => some (if b = true then (if 0 ≤ a1 then (if a1 < ((expand l0).length : Int) then (((expand l0).getD a1.toNat z43).f0, ((expand l0).getD a1.toNat z43).f1, true) else (0, false, false)) else (0, false, false)) else (0, false, false))
set_option maxHeartbeats 4000000 in
set_option maxRecDepth 100000 in
theorem impl_PartAt.calls (k : Nat) (A0 : Option Addr) (c0 : Nat) (l0 : List (S61)) (a1 : Int) (r1 : Int) (r2 : Bool) (r3 : Bool) (w : World) (hr0 : Kd.C k61 w A0 l0.length l0) (hc0 : l0.length ≤ c0) (h : impl_PartAt.f k l0 a1 = some (r1, r2, r3)) :
  Calls Try.prog 27 #[.slice A0 l0.length c0, .int .i64 a1] w fun e w' => e = .returned (.tuple #[.agg #[.int .i64 r1, .bool r2], .bool r3]) ∧ Below w.heap.size w w' := by
 obtain ⟨b, hb, h⟩ := Option.bind_eq_some_iff.mp h
 have e1 := Option.some.inj h
 clear h
 have hr1 : Kd.C k61 (w.alloc (.cells #[.int .i64 0, .bool false] 43)) A0 l0.length l0 := Kd.C_alloc hr0 _
 have HR0 := am hr1
 have HC0 := am hc0
 have H := am hb
 clear hr0 hc0 hb hr1
 have hu79 := Try.underlying88
 have hu48 := Try.underlying43
 have hn := blk_new w (.cells #[.int .i64 0, .bool false] 43)
 have HN := am hn
 clear hn
 have HB0 := am (below_alloc (Below.refl w.heap.size w) (.cells #[.int .i64 0, .bool false] 43))
 cases b with
 | false =>
  obtain ⟨rfl, rfl, rfl⟩ : 0 = r1 ∧ false = r2 ∧ false = r3 := by simpa using e1
  clear e1
  go_enter Try.func27, Try.ntmps27
  go_wp2_with (first | (go_at_call 55; (with_reducible refine (ringOf_no k A0 c0 l0 _ HR0.out HC0.out H.out).mono ?_); rintro e w1 ⟨rfl, hb⟩; have HB := am (below_step HB0.out hb); have HK := am (blk_below HN.out hb); have k0 := blk_cell HK.out 0; have k1 := blk_cell HK.out 1; have kf := fun i => blk_frozen HK.out i; clear hb))
  refine bodyPost_ret (results_ct rfl _ _ w.heap.size 43 #[.int .i64 0, .bool false] (0, 0) _ rfl (blk_put (cs := #[.int .i64 0, .bool false]) (blk_put HK.out 0 _ rfl) 1 _ rfl) Try.underlying43 rfl (by kernel_rfl)) rfl ?_
  exact ⟨rfl, below_set (below_set HB.out (Nat.le_refl _)) (Nat.le_refl _)⟩
 | true =>
  obtain ⟨hl, hv⟩ := valid_true H.out
  have HV := am (show ∀ v ∈ l0, 0 ≤ v.f1 ∧ v.f1 ≤ 3 from fun v hv' => ⟨by have := hv v hv'; omega, (hv v hv').2⟩)
  have hlen := expand_len l0 (fun v h => (hv v h).2)
  clear hv
  by_cases h0 : 0 ≤ a1
  ·obtain ⟨x, rfl⟩ := Int.eq_ofNat_of_zero_le h0
   by_cases h1 : x < (expand l0).length
   ·have e2 : (expand l0)[x].f0 = r1 ∧ (expand l0)[x].f1 = r2 ∧ true = r3 := by
     rw [if_pos rfl, if_pos h0, if_pos (by omega)] at e1
     simpa [List.getD_eq_getElem?_getD, h1] using e1
    obtain ⟨rfl, rfl, rfl⟩ := e2
    clear e1 h0
    go_enter Try.func27, Try.ntmps27
    go_wp2_with (first | (go_at_call 55; (with_reducible refine (ringOf_yes k A0 c0 l0 _ HR0.out HC0.out H.out HV.out hl).mono ?_); rintro e w1 ⟨g, rfl, B, hR⟩; have HR := am hR; have hc := blk_cell hR.ring 2; clear hR) | (go_at_call 56; (with_reducible refine (ring_at HR.out (by omega) x h1).mono ?_); rintro e w2 ⟨rfl, hb⟩; have HB := am (below_step (below_step HB0.out HR.out.below) hb); have HK := am (blk_below (blk_below HN.out HR.out.below) hb); have k0 := blk_cell HK.out 0; have k1 := blk_cell HK.out 1; have kf := fun i => blk_frozen HK.out i; clear hb))
    refine bodyPost_ret (results_ct rfl _ _ w.heap.size 43 #[.int .i64 (expand l0)[x].f0, .bool (expand l0)[x].f1] (0, 0) _ rfl (blk_put (cs := #[.int .i64 (expand l0)[x].f0, .bool false]) (blk_put HK.out 0 _ rfl) 1 _ rfl) Try.underlying43 rfl (by kernel_rfl)) rfl ?_
    exact ⟨rfl, below_set (below_set HB.out (Nat.le_refl _)) (Nat.le_refl _)⟩
   ·obtain ⟨rfl, rfl, rfl⟩ : 0 = r1 ∧ false = r2 ∧ false = r3 := by
     rw [if_pos rfl, if_pos h0, if_neg (by omega)] at e1
     simpa using e1
    clear e1 h0
    go_enter Try.func27, Try.ntmps27
    go_wp2_with (first | (go_at_call 55; (with_reducible refine (ringOf_yes k A0 c0 l0 _ HR0.out HC0.out H.out HV.out hl).mono ?_); rintro e w1 ⟨g, rfl, B, hR⟩; have HR := am hR; have hc := blk_cell hR.ring 2; have HB := am (below_step HB0.out hR.below); have HK := am (blk_below HN.out hR.below); have k0 := blk_cell HK.out 0; have k1 := blk_cell HK.out 1; have kf := fun i => blk_frozen HK.out i; clear hR))
    refine bodyPost_ret (results_ct rfl _ _ w.heap.size 43 #[.int .i64 0, .bool false] (0, 0) _ rfl (blk_put (cs := #[.int .i64 0, .bool false]) (blk_put HK.out 0 _ rfl) 1 _ rfl) Try.underlying43 rfl (by kernel_rfl)) rfl ?_
    exact ⟨rfl, below_set (below_set HB.out (Nat.le_refl _)) (Nat.le_refl _)⟩
  ·obtain ⟨rfl, rfl, rfl⟩ : 0 = r1 ∧ false = r2 ∧ false = r3 := by
    rw [if_pos rfl, if_neg h0] at e1
    simpa using e1
   clear e1
   go_enter Try.func27, Try.ntmps27
   go_wp2_with (first | (go_at_call 55; (with_reducible refine (ringOf_yes k A0 c0 l0 _ HR0.out HC0.out H.out HV.out hl).mono ?_); rintro e w1 ⟨g, rfl, B, hR⟩; have HR := am hR; have hc := blk_cell hR.ring 2; have HB := am (below_step HB0.out hR.below); have HK := am (blk_below HN.out hR.below); have k0 := blk_cell HK.out 0; have k1 := blk_cell HK.out 1; have kf := fun i => blk_frozen HK.out i; clear hR))
   refine bodyPost_ret (results_ct rfl _ _ w.heap.size 43 #[.int .i64 0, .bool false] (0, 0) _ rfl (blk_put (cs := #[.int .i64 0, .bool false]) (blk_put HK.out 0 _ rfl) 1 _ rfl) Try.underlying43 rfl (by kernel_rfl)) rfl ?_
   exact ⟨rfl, below_set (below_set HB.out (Nat.le_refl _)) (Nat.le_refl _)⟩


end Go.Proofs.Ytgiobmceippanaa.FP
