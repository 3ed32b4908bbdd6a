-- Made by this session's gprint.py out of the translation. Not trusted: Lean checks it.
import Derived.Test.YtcndojoghmblaaaDoorGEx0
import Derived.Test.YtcndojoghmblaaaDoorGEx7
import Derived.Test.YtcndojoghmblaaaDoorGEx8
namespace Go.Proofs.YtcndojoghmblaaaDoor.GE
open Go.RowKit Go.Proofs.YtcndojoghmblaaaDoorW.PrintWords Go.Proofs.YtcndojoghmblaaaDoorW.PrintLast Go.Proofs.YtcndojoghmblaaaDoorW.PrintMore
attribute [local go_sem] max2_int min2_int max_two min_two max_three min_three max_four min_four   -- for this text's walks alone
set_option linter.unusedVariables false
set_option linter.unusedSimpArgs false

/-! ### spec_ToneInterval: function 126 -/
def spec_ToneInterval.j0 : Nat → Int → Int → Bool → Option (ByteArray)
 | 0, _, _, _ => none
 | k + 1, x5, x7, x30 => if x30 = true then ((spec_l6Dec.f k (wrap64 ((wrap64 (-x5)) + 1))).bind fun t280 => ((spec_l1Quality.f k (wrap64 (-x5)) (wrap64 (-x7))).bind fun t281 => (if t280.size + t281.size ≤ 9223372036854775807 then (some (t280 ++ t281)) else (none)))) else ((spec_l6Dec.f k (wrap64 (x5 + 1))).bind fun t282 => ((spec_l1Quality.f k x5 x7).bind fun t283 => (if t282.size + t283.size ≤ 9223372036854775807 then (some (t282 ++ t283)) else (none))))
def spec_ToneInterval.f (k : Nat) (a0_0 : Int) (a0_1 : Bool) (a1_0 : Int) (a1_1 : Bool) : Option (ByteArray) := (spec_ToneSteps.f a0_0 a0_1 a1_0 a1_1).bind fun bt276 => (if bt276.2 = true then ((spec_l1Height.f a1_0 a1_1).bind fun t278 => ((spec_l1Height.f a0_0 a0_1).bind fun t279 => (if bt276.1 < 0 then (spec_ToneInterval.j0 k bt276.1 (wrap64 (t278 - t279)) true) else (if bt276.1 = 0 then (spec_ToneInterval.j0 k bt276.1 (wrap64 (t278 - t279)) (decide ((wrap64 (t278 - t279)) < 0))) else (spec_ToneInterval.j0 k bt276.1 (wrap64 (t278 - t279)) false))))) else (some (⟨#[]⟩ : ByteArray)))
theorem spec_ToneInterval.mono_l : ∀ k, (∀ y0 y1 y2, LeO (spec_ToneInterval.j0 k y0 y1 y2) (spec_ToneInterval.j0 (k + 1) y0 y1 y2))
 | 0 => fun _ _ _ r h => by simp [spec_ToneInterval.j0] at h
 | k + 1 => by
  have ih0 := spec_ToneInterval.mono_l k
  ·intro y0 y1 y2
   unfold spec_ToneInterval.j0
   repeat' first
   | (with_reducible exact ih0 _ _ _)
   | (with_reducible exact spec_l1Quality.mono _ _ _)
   | (with_reducible exact spec_l6Dec.mono _ _)
   | (with_reducible exact LeO.refl _)
   | (with_reducible exact LeO.none _)
   | (with_reducible refine LeO.ite ?_ ?_)
   | (with_reducible refine LeO.bind ?_ (fun _ => ?_))
   | exact ih0 _ _ _
   | exact spec_l1Quality.mono _ _ _
   | exact spec_l6Dec.mono _ _
   | exact LeO.none _
   | refine LeO.ite ?_ ?_
   | refine LeO.bind ?_ (fun _ => ?_)
theorem spec_ToneInterval.mono : ∀ a0 a1 a2 a3 k, LeO (spec_ToneInterval.f k a0 a1 a2 a3) (spec_ToneInterval.f (k + 1) a0 a1 a2 a3) := by
 intro a0 a1 a2 a3 k
 have ih0 := spec_ToneInterval.mono_l k
 unfold spec_ToneInterval.f
 repeat' first
   | (with_reducible exact ih0 _ _ _)
   | (with_reducible exact spec_l1Quality.mono _ _ _)
   | (with_reducible exact spec_l6Dec.mono _ _)
   | (with_reducible exact LeO.refl _)
   | (with_reducible exact LeO.none _)
   | (with_reducible refine LeO.ite ?_ ?_)
   | (with_reducible refine LeO.bind ?_ (fun _ => ?_))
   | exact ih0 _ _ _
   | exact spec_l1Quality.mono _ _ _
   | exact spec_l6Dec.mono _ _
   | exact LeO.none _
   | refine LeO.ite ?_ ?_
   | refine LeO.bind ?_ (fun _ => ?_)
set_option maxHeartbeats 8000000 in
set_option maxRecDepth 100000 in
theorem spec_ToneInterval.calls (k : Nat) (a0_0 : Int) (a0_1 : Bool) (a1_0 : Int) (a1_1 : Bool) (r : ByteArray) (w : World) (h : spec_ToneInterval.f k a0_0 a0_1 a1_0 a1_1 = some r) :
  Calls Tryd.prog 126 #[.agg #[.int .i64 a0_0, .bool a0_1], .agg #[.int .i64 a1_0, .bool a1_1]] w fun e w' => e = .returned (.string r) ∧ Below w.heap.size w w' := by
 have hu30 := Tryd.underlying30
 have HB := am (Below.refl w.heap.size w)
 have H : ((spec_ToneSteps.f a0_0 a0_1 a1_0 a1_1).bind fun bt276 => (if bt276.2 = true then ((spec_l1Height.f a1_0 a1_1).bind fun t278 => ((spec_l1Height.f a0_0 a0_1).bind fun t279 => (if bt276.1 < 0 then (spec_ToneInterval.j0 k bt276.1 (wrap64 (t278 - t279)) true) else (if bt276.1 = 0 then (spec_ToneInterval.j0 k bt276.1 (wrap64 (t278 - t279)) (decide ((wrap64 (t278 - t279)) < 0))) else (spec_ToneInterval.j0 k bt276.1 (wrap64 (t278 - t279)) false))))) else (some (⟨#[]⟩ : ByteArray)))) = some r := h
 clear h
 replace H := Option.bind_eq_some_iff.mp H
 obtain ⟨⟨t276, t277⟩, A30, H⟩ := H
 replace H : (if t277 = true then ((spec_l1Height.f a1_0 a1_1).bind fun t278 => ((spec_l1Height.f a0_0 a0_1).bind fun t279 => (if t276 < 0 then (spec_ToneInterval.j0 k t276 (wrap64 (t278 - t279)) true) else (if t276 = 0 then (spec_ToneInterval.j0 k t276 (wrap64 (t278 - t279)) (decide ((wrap64 (t278 - t279)) < 0))) else (spec_ToneInterval.j0 k t276 (wrap64 (t278 - t279)) false))))) else (some (⟨#[]⟩ : ByteArray))) = some r := H
 have A3 := am A30
 clear A30
 by_cases c4 : t277 = true
 ·subst c4
  have H1 : ((spec_l1Height.f a1_0 a1_1).bind fun t278 => ((spec_l1Height.f a0_0 a0_1).bind fun t279 => (if t276 < 0 then (spec_ToneInterval.j0 k t276 (wrap64 (t278 - t279)) true) else (if t276 = 0 then (spec_ToneInterval.j0 k t276 (wrap64 (t278 - t279)) (decide ((wrap64 (t278 - t279)) < 0))) else (spec_ToneInterval.j0 k t276 (wrap64 (t278 - t279)) false))))) = some r := by rw [if_pos rfl] at H; exact H
  clear H
  have H := H1
  clear H1
  replace H := Option.bind_eq_some_iff.mp H
  obtain ⟨t278, A50, H⟩ := H
  replace H : ((spec_l1Height.f a0_0 a0_1).bind fun t279 => (if t276 < 0 then (spec_ToneInterval.j0 k t276 (wrap64 (t278 - t279)) true) else (if t276 = 0 then (spec_ToneInterval.j0 k t276 (wrap64 (t278 - t279)) (decide ((wrap64 (t278 - t279)) < 0))) else (spec_ToneInterval.j0 k t276 (wrap64 (t278 - t279)) false)))) = some r := H
  have A5 := am A50
  clear A50
  replace H := Option.bind_eq_some_iff.mp H
  obtain ⟨t279, A60, H⟩ := H
  replace H : (if t276 < 0 then (spec_ToneInterval.j0 k t276 (wrap64 (t278 - t279)) true) else (if t276 = 0 then (spec_ToneInterval.j0 k t276 (wrap64 (t278 - t279)) (decide ((wrap64 (t278 - t279)) < 0))) else (spec_ToneInterval.j0 k t276 (wrap64 (t278 - t279)) false))) = some r := H
  have A6 := am A60
  clear A60
  have HC7 := am H
  clear H
  go_enter Tryd.func126, Tryd.ntmps126
  try go_wp2_with (first | ((with_reducible refine gate_dst (N := 2) rfl ?_); refine box_event ?hg (N := 2) ?hd (cs := #[.int .i64 a0_0, .bool a0_1]) (t := 30) ?hr ?_; (case hd => rfl); (case hg => rfl); (case hr => first | (go_simp; done) | (go_simp; rfl)); intro gb274 hg w8 hbox hb; have n0_ := am (below_step (bu HB.out) hb); have n1_ := am (hbox); have n2_ := am ((by rw [hg]; exact (below_size (bu HB.out)) : w.heap.size ≤ gb274)); have n3_ := am ((by rw [hg]; exact (below_size (bu HB.out)) : w.heap.size ≤ gb274)); clear HB; have HB := n0_; have BK274 := n1_; have GW274 := n2_; have GE274 := n3_; clear n0_ n1_ n2_ n3_; clear hb hbox hg) | ((with_reducible refine gate_dst (N := 3) rfl ?_); refine box_event ?hg (N := 3) ?hd (cs := #[.int .i64 a1_0, .bool a1_1]) (t := 30) ?hr ?_; (case hd => rfl); (case hg => rfl); (case hr => first | (go_simp; done) | (go_simp; rfl)); intro gb275 hg w9 hbox hb; have n0_ := am (blk_below (g := gb274) (o := .cells #[.int .i64 a0_0, .bool a0_1] 30 (0, 0)) (gu BK274.out) hb); have n1_ := am (below_step (bu HB.out) hb); have n2_ := am (hbox); have n3_ := am ((by rw [hg]; exact (below_size (bu HB.out)) : w.heap.size ≤ gb275)); have n4_ := am ((by rw [hg]; exact (below_size (bu HB.out)) : w.heap.size ≤ gb275)); have n5_ := am ((by rw [hg]; exact Nat.ne_of_lt (blk_lt (g := gb274) (o := .cells #[.int .i64 a0_0, .bool a0_1] 30 (0, 0)) (gu BK274.out)) : gb274 ≠ gb275)); have n6_ := am ((by rw [hg]; exact Nat.ne_of_gt (blk_lt (g := gb274) (o := .cells #[.int .i64 a0_0, .bool a0_1] 30 (0, 0)) (gu BK274.out)) : gb275 ≠ gb274)); clear BK274; clear HB; have BK274 := n0_; have HB := n1_; have BK275 := n2_; have GW275 := n3_; have GE275 := n4_; have NB274_275 := n5_; have NB275_274 := n6_; clear n0_ n1_ n2_ n3_ n4_ n5_ n6_; clear hb hbox hg; have hnb10 := NB274_275.out; have hnc10 := NB275_274.out; have hcz11_0 : w9.cell? ⟨gb274, 0, none⟩ = some (.int .i64 a0_0) := (blk_cell BK274.out 0).trans rfl; have hcz11_1 : w9.cell? ⟨gb274, 1, none⟩ = some (.bool a0_1) := (blk_cell BK274.out 1).trans rfl; have hfz11_0 := blk_frozen BK274.out 0; have hfz11_1 := blk_frozen BK274.out 1; have hcz12_0 : w9.cell? ⟨gb275, 0, none⟩ = some (.int .i64 a1_0) := (blk_cell BK275.out 0).trans rfl; have hcz12_1 : w9.cell? ⟨gb275, 1, none⟩ = some (.bool a1_1) := (blk_cell BK275.out 1).trans rfl; have hfz12_0 := blk_frozen BK275.out 0; have hfz12_1 := blk_frozen BK275.out 1) | ((with_reducible refine gate_callee (f := 156) rfl ?_); refine goesL_ (some 11) rfl rfl Tryd.func156 (by kernel_rfl) rfl #[.agg #[.int .i64 a0_0, .bool a0_1], .agg #[.int .i64 a1_0, .bool a1_1]] rfl (by (try simp only [List.map_toArray, List.map_cons, List.map_nil]); first | done | rfl | (simp only [List.length_drop, List.length_take]; rfl)) ?_; (with_reducible refine (spec_ToneSteps.calls a0_0 a0_1 a1_0 a1_1 t276 true _ A3.out).mono ?_); rintro e w13 ⟨rfl, hb⟩; refine ⟨_, rfl, ?_⟩; have n0_ := am (blk_below (g := gb274) (o := .cells #[.int .i64 a0_0, .bool a0_1] 30 (0, 0)) (gu BK274.out) hb); have n1_ := am (blk_below (g := gb275) (o := .cells #[.int .i64 a1_0, .bool a1_1] 30 (0, 0)) (gu BK275.out) hb); have n2_ := am (below_step (bu HB.out) hb); clear BK274; clear BK275; clear HB; have BK274 := n0_; have BK275 := n1_; have HB := n2_; clear n0_ n1_ n2_; (try clear hb); (try clear hb2); (try clear hk); (try clear hi)))
  have n0_ := am (blk_drew BK274.out)
  have n1_ := am (blk_drew BK275.out)
  have n2_ := am (below_drew1 HB.out)
  clear BK274
  clear BK275
  clear HB
  have BK274 := n0_
  have BK275 := n1_
  have HB := n2_
  clear n0_ n1_ n2_
  refine start_ (n := 6) (S := fun w' => w'.cell? ⟨gb275, 0, none⟩ = some (.int .i64 a1_0) ∧ w'.cell? ⟨gb275, 1, none⟩ = some (.bool a1_1) ∧ w'.cell? ⟨gb274, 0, none⟩ = some (.int .i64 a0_0) ∧ w'.cell? ⟨gb274, 1, none⟩ = some (.bool a0_1)) (ds := []) #[F,F,F,F,F,F] (by kernel_rfl) rfl rfl ⟨(blk_cell BK275.out 0).trans rfl, (blk_cell BK275.out 1).trans rfl, (blk_cell BK274.out 0).trans rfl, (blk_cell BK274.out 1).trans rfl⟩ (fun hHeld => ?_)
  generalize w13.drew = w14 at BK274 BK275 HB hHeld ⊢
  refine tz hHeld 0 (some 16) #[T,F,F,F,F,F] (by kernel_rfl) (h := ?_)
  refine tz hHeld 2 (some 18) #[T,F,T,F,F,F] (by kernel_rfl) (h := ?_)
  refine one_ (i := 1) (N := some 17) #[T,T,T,F,F,F] rfl rfl (by kernel_rfl) (by decide) (fun K hK => ?_)
  refine goes_ Tryd.func133 (by kernel_rfl) rfl #[.agg #[.int .i64 a1_0, .bool a1_1]] (by rfl) rfl rfl (by (try simp only [List.map_toArray, List.map_cons, List.map_nil]); first | done | rfl | (simp only [List.length_drop, List.length_take]; rfl)) ?_
  with_reducible refine (spec_l1Height.calls a1_0 a1_1 t278 _ A5.out).mono ?_
  rintro e w15 ⟨rfl, hb⟩
  refine ⟨_, rfl, ?_⟩
  have n0_ := am (blk_below (g := gb274) (o := .cells #[.int .i64 a0_0, .bool a0_1] 30 (0, 0)) (gu BK274.out) hb)
  have n1_ := am (blk_below (g := gb275) (o := .cells #[.int .i64 a1_0, .bool a1_1] 30 (0, 0)) (gu BK275.out) hb)
  have n2_ := am (below_step (bu HB.out) hb)
  clear BK274
  clear BK275
  clear HB
  have BK274 := n0_
  have BK275 := n1_
  have HB := n2_
  clear n0_ n1_ n2_
  (try clear hb)
  (try clear hb2)
  (try clear hk)
  (try clear hi)
  refine hK.out _ _ ⟨(blk_cell BK275.out 0).trans rfl, (blk_cell BK275.out 1).trans rfl, (blk_cell BK274.out 0).trans rfl, (blk_cell BK274.out 1).trans rfl⟩ (fun hHeld => ?_)
  clear hK K
  refine norm_ (a' := ?_) ?_ ?_
  rotate_left
  ·show Act.put _ (some 17) _ = _
   simp only [Act.put, sA, sZ, sS, i64_w, i32_w]
   rfl
  refine one_ (i := 3) (N := some 19) #[T,T,T,T,F,F] rfl rfl (by kernel_rfl) (by decide) (fun K hK => ?_)
  refine goes_ Tryd.func133 (by kernel_rfl) rfl #[.agg #[.int .i64 a0_0, .bool a0_1]] (by rfl) rfl rfl (by (try simp only [List.map_toArray, List.map_cons, List.map_nil]); first | done | rfl | (simp only [List.length_drop, List.length_take]; rfl)) ?_
  with_reducible refine (spec_l1Height.calls a0_0 a0_1 t279 _ A6.out).mono ?_
  rintro e w16 ⟨rfl, hb⟩
  refine ⟨_, rfl, ?_⟩
  have n0_ := am (blk_below (g := gb274) (o := .cells #[.int .i64 a0_0, .bool a0_1] 30 (0, 0)) (gu BK274.out) hb)
  have n1_ := am (blk_below (g := gb275) (o := .cells #[.int .i64 a1_0, .bool a1_1] 30 (0, 0)) (gu BK275.out) hb)
  have n2_ := am (below_step (bu HB.out) hb)
  clear BK274
  clear BK275
  clear HB
  have BK274 := n0_
  have BK275 := n1_
  have HB := n2_
  clear n0_ n1_ n2_
  (try clear hb)
  (try clear hb2)
  (try clear hk)
  (try clear hi)
  refine hK.out _ _ ⟨(blk_cell BK275.out 0).trans rfl, (blk_cell BK275.out 1).trans rfl, (blk_cell BK274.out 0).trans rfl, (blk_cell BK274.out 1).trans rfl⟩ (fun hHeld => ?_)
  clear hK K
  refine norm_ (a' := ?_) ?_ ?_
  rotate_left
  ·show Act.put _ (some 19) _ = _
   simp only [Act.put, sA, sZ, sS, i64_w, i32_w]
   rfl
  refine pz 4 (some 20) #[T,T,T,T,T,F] (by kernel_rfl) (h := ?_)
  refine pz 5 (some 7) #[T,T,T,T,T,T] (by kernel_rfl) (h := ?_)
  refine done_ (by kernel_rfl) ?_
  go_upto_region 5 with (fail)
  go_cut [30] (fun v30 wc => ∃ (kq : Nat) (x30_6 : Bool), v30 = .bool x30_6 ∧ Aside0 (spec_ToneInterval.j0 kq t276 (wrap64 (t278 - t279)) x30_6 = some r) ∧ Aside0 (kq ≤ k) ∧ Aside0 (wc.heap[gb274]? = some (.cells #[.int .i64 a0_0, .bool a0_1] 30 (0, 0))) ∧ Aside0 (wc.heap[gb275]? = some (.cells #[.int .i64 a1_0, .bool a1_1] 30 (0, 0))) ∧ Aside0 (Below w.heap.size w wc))
  case first =>
   have H := HC7.out
   clear HC7
   by_cases c17 : t276 < 0
   ·rw [if_pos c17] at H
    have c17b0 : decide (t276 < 0) = true := decide_eq_true c17
    clear c17
    (first | rw [c17b0] | (simp only [i64_w, i32_w]; rw [c17b0]) | skip)
    have H' := am H
    clear H
    go_wp2
    go_meet
    case rel => exact ⟨_, (true), (by first | rfl | (simp; done) | (simp [*]; done)), H', ⟨by first | omega | exact Nat.le_refl _⟩, ⟨gu BK274.out⟩, ⟨gu BK275.out⟩, ⟨bu HB.out⟩⟩
   ·rw [if_neg c17] at H
    have c17b0 : decide (t276 < 0) = false := decide_eq_false c17
    clear c17
    (first | rw [c17b0] | (simp only [i64_w, i32_w]; rw [c17b0]) | skip)
    by_cases c18 : t276 = 0
    ·rw [if_pos c18] at H
     have c18b0 : (t276 == 0) = true := beq_iff_eq.mpr c18
     have c18b1 : (t276 != 0) = false := bne_eq_false_iff_eq.mpr c18
     clear c18
     have H' := am H
     clear H
     go_wp2
     go_meet
     case rel => exact ⟨_, (decide ((wrap64 (t278 - t279)) < 0)), (by first | rfl | (simp; done) | (simp [*]; done)), H', ⟨by first | omega | exact Nat.le_refl _⟩, ⟨gu BK274.out⟩, ⟨gu BK275.out⟩, ⟨bu HB.out⟩⟩
    ·rw [if_neg c18] at H
     have c18b0 : (t276 == 0) = false := beq_eq_false_iff_ne.mpr c18
     have c18b1 : (t276 != 0) = true := bne_iff_ne.mpr c18
     have H' := am H
     clear H
     go_wp2
     go_meet
     case rel => exact ⟨_, (false), (by first | rfl | (simp; done) | (simp [*]; done)), H', ⟨by first | omega | exact Nat.le_refl _⟩, ⟨gu BK274.out⟩, ⟨gu BK275.out⟩, ⟨bu HB.out⟩⟩
  case rest =>
   clear HC7
   try clear c1
   try clear p2
   try clear c4
   try clear p6
   try clear c10
   try clear c12
   try clear c13
   try clear c15
   try clear c17
   try clear c17b0
   try clear c18
   try clear c18b0
   try clear c18b1
   try clear hcz11_0
   try clear hcz11_1
   try clear hcz12_0
   try clear hcz12_1
   try clear hfz11_0
   try clear hfz11_1
   try clear hfz12_0
   try clear hfz12_1
   obtain ⟨kq, x30_6, rfl, HA, HJ6, BK274, BK275, HB⟩ := hcut
   cases kq with
   | zero => exact absurd HA.out (by simp [spec_ToneInterval.j0])
   | succ kj6 =>
    have H := HA.out
    clear HA
    simp only [spec_ToneInterval.j0] at H
    by_cases c19 : x30_6 = true
    ·subst c19
     have H1 : ((spec_l6Dec.f kj6 (wrap64 ((wrap64 (-t276)) + 1))).bind fun t280 => ((spec_l1Quality.f kj6 (wrap64 (-t276)) (wrap64 (-(wrap64 (t278 - t279))))).bind fun t281 => (if t280.size + t281.size ≤ 9223372036854775807 then (some (t280 ++ t281)) else (none)))) = some r := by rw [if_pos rfl] at H; exact H
     clear H
     have H := H1
     clear H1
     replace H := Option.bind_eq_some_iff.mp H
     obtain ⟨t280, A200, H⟩ := H
     replace H : ((spec_l1Quality.f kj6 (wrap64 (-t276)) (wrap64 (-(wrap64 (t278 - t279))))).bind fun t281 => (if t280.size + t281.size ≤ 9223372036854775807 then (some (t280 ++ t281)) else (none))) = some r := H
     have A20 := am A200
     clear A200
     replace H := Option.bind_eq_some_iff.mp H
     obtain ⟨t281, A210, H⟩ := H
     replace H : (if t280.size + t281.size ≤ 9223372036854775807 then (some (t280 ++ t281)) else (none)) = some r := H
     have A21 := am A210
     clear A210
     by_cases c22 : t280.size + t281.size ≤ 9223372036854775807
     ·rw [if_pos c22] at H
      have c22b0 := eq_true c22
      have c22b1 : decide (t280.size + t281.size ≤ 9223372036854775807) = true := decide_eq_true c22
      try have c22b2 : (9223372036854775807 < t280.size + t281.size) = False := eq_false (Nat.not_lt.2 c22)
      obtain rfl := Option.some.inj H
      go_wp2_with (first | ((with_reducible refine gate_callee (f := 144) rfl ?_); refine goesL_ (some 37) rfl rfl Tryd.func144 (by kernel_rfl) rfl #[.int .i64 (wrap64 ((wrap64 (-t276)) + 1))] rfl (by (try simp only [List.map_toArray, List.map_cons, List.map_nil]); first | done | rfl | (simp only [List.length_drop, List.length_take]; rfl)) ?_; (with_reducible refine (spec_l6Dec.calls kj6 (wrap64 ((wrap64 (-t276)) + 1)) t280 _ A20.out).mono ?_); rintro e w23 ⟨rfl, hb⟩; refine ⟨_, rfl, ?_⟩; have n0_ := am (blk_below (g := gb274) (o := .cells #[.int .i64 a0_0, .bool a0_1] 30 (0, 0)) (gu BK274.out) hb); have n1_ := am (blk_below (g := gb275) (o := .cells #[.int .i64 a1_0, .bool a1_1] 30 (0, 0)) (gu BK275.out) hb); have n2_ := am (below_step (bu HB.out) hb); clear BK274; clear BK275; clear HB; have BK274 := n0_; have BK275 := n1_; have HB := n2_; clear n0_ n1_ n2_; (try clear hb); (try clear hb2); (try clear hk); (try clear hi)) | ((with_reducible refine gate_callee (f := 157) rfl ?_); refine goesL_ (some 40) rfl rfl Tryd.func157 (by kernel_rfl) rfl #[.int .i64 (wrap64 (-t276)), .int .i64 (wrap64 (-(wrap64 (t278 - t279))))] rfl (by (try simp only [List.map_toArray, List.map_cons, List.map_nil]); first | done | rfl | (simp only [List.length_drop, List.length_take]; rfl)) ?_; (with_reducible refine (spec_l1Quality.calls kj6 (wrap64 (-t276)) (wrap64 (-(wrap64 (t278 - t279)))) t281 _ A21.out).mono ?_); rintro e w24 ⟨rfl, hb⟩; refine ⟨_, rfl, ?_⟩; have n0_ := am (blk_below (g := gb274) (o := .cells #[.int .i64 a0_0, .bool a0_1] 30 (0, 0)) (gu BK274.out) hb); have n1_ := am (blk_below (g := gb275) (o := .cells #[.int .i64 a1_0, .bool a1_1] 30 (0, 0)) (gu BK275.out) hb); have n2_ := am (below_step (bu HB.out) hb); clear BK274; clear BK275; clear HB; have BK274 := n0_; have BK275 := n1_; have HB := n2_; clear n0_ n1_ n2_; (try clear hb); (try clear hb2); (try clear hk); (try clear hi)))
      go_ret
      exact ⟨by first | rfl | (simp [errW_none, errW_some] <;> rfl) | (simp [*, errW_none, errW_some] <;> rfl), bu HB.out⟩
     ·rw [if_neg c22] at H
      exact absurd H (by simp)
    ·replace c19 := Bool.eq_false_iff.mpr c19
     subst c19
     have H1 : ((spec_l6Dec.f kj6 (wrap64 (t276 + 1))).bind fun t282 => ((spec_l1Quality.f kj6 t276 (wrap64 (t278 - t279))).bind fun t283 => (if t282.size + t283.size ≤ 9223372036854775807 then (some (t282 ++ t283)) else (none)))) = some r := by rw [if_neg (show ¬ (false = true) by decide)] at H; exact H
     clear H
     have H := H1
     clear H1
     replace H := Option.bind_eq_some_iff.mp H
     obtain ⟨t282, A250, H⟩ := H
     replace H : ((spec_l1Quality.f kj6 t276 (wrap64 (t278 - t279))).bind fun t283 => (if t282.size + t283.size ≤ 9223372036854775807 then (some (t282 ++ t283)) else (none))) = some r := H
     have A25 := am A250
     clear A250
     replace H := Option.bind_eq_some_iff.mp H
     obtain ⟨t283, A260, H⟩ := H
     replace H : (if t282.size + t283.size ≤ 9223372036854775807 then (some (t282 ++ t283)) else (none)) = some r := H
     have A26 := am A260
     clear A260
     by_cases c27 : t282.size + t283.size ≤ 9223372036854775807
     ·rw [if_pos c27] at H
      have c27b0 := eq_true c27
      have c27b1 : decide (t282.size + t283.size ≤ 9223372036854775807) = true := decide_eq_true c27
      try have c27b2 : (9223372036854775807 < t282.size + t283.size) = False := eq_false (Nat.not_lt.2 c27)
      obtain rfl := Option.some.inj H
      go_wp2_with (first | ((with_reducible refine gate_callee (f := 144) rfl ?_); refine goesL_ (some 37) rfl rfl Tryd.func144 (by kernel_rfl) rfl #[.int .i64 (wrap64 (t276 + 1))] rfl (by (try simp only [List.map_toArray, List.map_cons, List.map_nil]); first | done | rfl | (simp only [List.length_drop, List.length_take]; rfl)) ?_; (with_reducible refine (spec_l6Dec.calls kj6 (wrap64 (t276 + 1)) t282 _ A25.out).mono ?_); rintro e w28 ⟨rfl, hb⟩; refine ⟨_, rfl, ?_⟩; have n0_ := am (blk_below (g := gb274) (o := .cells #[.int .i64 a0_0, .bool a0_1] 30 (0, 0)) (gu BK274.out) hb); have n1_ := am (blk_below (g := gb275) (o := .cells #[.int .i64 a1_0, .bool a1_1] 30 (0, 0)) (gu BK275.out) hb); have n2_ := am (below_step (bu HB.out) hb); clear BK274; clear BK275; clear HB; have BK274 := n0_; have BK275 := n1_; have HB := n2_; clear n0_ n1_ n2_; (try clear hb); (try clear hb2); (try clear hk); (try clear hi)) | ((with_reducible refine gate_callee (f := 157) rfl ?_); refine goesL_ (some 40) rfl rfl Tryd.func157 (by kernel_rfl) rfl #[.int .i64 t276, .int .i64 (wrap64 (t278 - t279))] rfl (by (try simp only [List.map_toArray, List.map_cons, List.map_nil]); first | done | rfl | (simp only [List.length_drop, List.length_take]; rfl)) ?_; (with_reducible refine (spec_l1Quality.calls kj6 t276 (wrap64 (t278 - t279)) t283 _ A26.out).mono ?_); rintro e w29 ⟨rfl, hb⟩; refine ⟨_, rfl, ?_⟩; have n0_ := am (blk_below (g := gb274) (o := .cells #[.int .i64 a0_0, .bool a0_1] 30 (0, 0)) (gu BK274.out) hb); have n1_ := am (blk_below (g := gb275) (o := .cells #[.int .i64 a1_0, .bool a1_1] 30 (0, 0)) (gu BK275.out) hb); have n2_ := am (below_step (bu HB.out) hb); clear BK274; clear BK275; clear HB; have BK274 := n0_; have BK275 := n1_; have HB := n2_; clear n0_ n1_ n2_; (try clear hb); (try clear hb2); (try clear hk); (try clear hi)))
      go_ret
      exact ⟨by first | rfl | (simp [errW_none, errW_some] <;> rfl) | (simp [*, errW_none, errW_some] <;> rfl), bu HB.out⟩
     ·rw [if_neg c27] at H
      exact absurd H (by simp)
 ·replace c4 := Bool.eq_false_iff.mpr c4
  subst c4
  have H1 : (some (⟨#[]⟩ : ByteArray)) = some r := by rw [if_neg (show ¬ (false = true) by decide)] at H; exact H
  clear H
  have H := H1
  clear H1
  obtain rfl := Option.some.inj H
  go_enter Tryd.func126, Tryd.ntmps126
  go_wp2_with (first | ((with_reducible refine gate_dst (N := 2) rfl ?_); refine box_event ?hg (N := 2) ?hd (cs := #[.int .i64 a0_0, .bool a0_1]) (t := 30) ?hr ?_; (case hd => rfl); (case hg => rfl); (case hr => first | (go_simp; done) | (go_simp; rfl)); intro gb274 hg w30 hbox hb; have n0_ := am (below_step (bu HB.out) hb); have n1_ := am (hbox); have n2_ := am ((by rw [hg]; exact (below_size (bu HB.out)) : w.heap.size ≤ gb274)); have n3_ := am ((by rw [hg]; exact (below_size (bu HB.out)) : w.heap.size ≤ gb274)); clear HB; have HB := n0_; have BK274 := n1_; have GW274 := n2_; have GE274 := n3_; clear n0_ n1_ n2_ n3_; clear hb hbox hg) | ((with_reducible refine gate_dst (N := 3) rfl ?_); refine box_event ?hg (N := 3) ?hd (cs := #[.int .i64 a1_0, .bool a1_1]) (t := 30) ?hr ?_; (case hd => rfl); (case hg => rfl); (case hr => first | (go_simp; done) | (go_simp; rfl)); intro gb275 hg w31 hbox hb; have n0_ := am (blk_below (g := gb274) (o := .cells #[.int .i64 a0_0, .bool a0_1] 30 (0, 0)) (gu BK274.out) hb); have n1_ := am (below_step (bu HB.out) hb); have n2_ := am (hbox); have n3_ := am ((by rw [hg]; exact (below_size (bu HB.out)) : w.heap.size ≤ gb275)); have n4_ := am ((by rw [hg]; exact (below_size (bu HB.out)) : w.heap.size ≤ gb275)); have n5_ := am ((by rw [hg]; exact Nat.ne_of_lt (blk_lt (g := gb274) (o := .cells #[.int .i64 a0_0, .bool a0_1] 30 (0, 0)) (gu BK274.out)) : gb274 ≠ gb275)); have n6_ := am ((by rw [hg]; exact Nat.ne_of_gt (blk_lt (g := gb274) (o := .cells #[.int .i64 a0_0, .bool a0_1] 30 (0, 0)) (gu BK274.out)) : gb275 ≠ gb274)); clear BK274; clear HB; have BK274 := n0_; have HB := n1_; have BK275 := n2_; have GW275 := n3_; have GE275 := n4_; have NB274_275 := n5_; have NB275_274 := n6_; clear n0_ n1_ n2_ n3_ n4_ n5_ n6_; clear hb hbox hg; have hnb32 := NB274_275.out; have hnc32 := NB275_274.out; have hcz33_0 : w31.cell? ⟨gb274, 0, none⟩ = some (.int .i64 a0_0) := (blk_cell BK274.out 0).trans rfl; have hcz33_1 : w31.cell? ⟨gb274, 1, none⟩ = some (.bool a0_1) := (blk_cell BK274.out 1).trans rfl; have hfz33_0 := blk_frozen BK274.out 0; have hfz33_1 := blk_frozen BK274.out 1; have hcz34_0 : w31.cell? ⟨gb275, 0, none⟩ = some (.int .i64 a1_0) := (blk_cell BK275.out 0).trans rfl; have hcz34_1 : w31.cell? ⟨gb275, 1, none⟩ = some (.bool a1_1) := (blk_cell BK275.out 1).trans rfl; have hfz34_0 := blk_frozen BK275.out 0; have hfz34_1 := blk_frozen BK275.out 1) | ((with_reducible refine gate_callee (f := 156) rfl ?_); refine goesL_ (some 11) rfl rfl Tryd.func156 (by kernel_rfl) rfl #[.agg #[.int .i64 a0_0, .bool a0_1], .agg #[.int .i64 a1_0, .bool a1_1]] rfl (by (try simp only [List.map_toArray, List.map_cons, List.map_nil]); first | done | rfl | (simp only [List.length_drop, List.length_take]; rfl)) ?_; (with_reducible refine (spec_ToneSteps.calls a0_0 a0_1 a1_0 a1_1 t276 false _ A3.out).mono ?_); rintro e w35 ⟨rfl, hb⟩; refine ⟨_, rfl, ?_⟩; have n0_ := am (blk_below (g := gb274) (o := .cells #[.int .i64 a0_0, .bool a0_1] 30 (0, 0)) (gu BK274.out) hb); have n1_ := am (blk_below (g := gb275) (o := .cells #[.int .i64 a1_0, .bool a1_1] 30 (0, 0)) (gu BK275.out) hb); have n2_ := am (below_step (bu HB.out) hb); clear BK274; clear BK275; clear HB; have BK274 := n0_; have BK275 := n1_; have HB := n2_; clear n0_ n1_ n2_; (try clear hb); (try clear hb2); (try clear hk); (try clear hi)))
  go_ret
  exact ⟨by first | rfl | (simp [errW_none, errW_some] <;> rfl) | (simp [*, errW_none, errW_some] <;> rfl), bu HB.out⟩

/-! ### spec_l8Concord: function 72 -/
def spec_l8Concord.f (k : Nat) (a0_0 : Int) (a0_1 : Bool) (a1_0 : Int) (a1_1 : Bool) : Option (Bool) := (spec_l1Size.f (wrap64 (a0_0 - a1_0))).bind fun t286 => ((spec_ToneInterval.f k a0_0 a0_1 a1_0 a1_1).bind fun t287 => (if (Int.tmod t286 7) = 0 then (if 0 ≤ (wrap64 ((t287.size : Int) - 1)) then (if (wrap64 ((t287.size : Int) - 1)) < (t287.size : Int) then (some ((bt t287 (wrap64 ((t287.size : Int) - 1))) == 112)) else (none)) else (none)) else (if (Int.tmod t286 7) = 3 then (if 0 ≤ (wrap64 ((t287.size : Int) - 1)) then (if (wrap64 ((t287.size : Int) - 1)) < (t287.size : Int) then (some ((bt t287 (wrap64 ((t287.size : Int) - 1))) == 112)) else (none)) else (none)) else (if (Int.tmod t286 7) = 4 then (if 0 ≤ (wrap64 ((t287.size : Int) - 1)) then (if (wrap64 ((t287.size : Int) - 1)) < (t287.size : Int) then (some ((bt t287 (wrap64 ((t287.size : Int) - 1))) == 112)) else (none)) else (none)) else (some false)))))
theorem spec_l8Concord.mono : ∀ a0 a1 a2 a3 k, LeO (spec_l8Concord.f k a0 a1 a2 a3) (spec_l8Concord.f (k + 1) a0 a1 a2 a3) := by
 intro a0 a1 a2 a3 k
 unfold spec_l8Concord.f
 repeat' first
   | (with_reducible exact spec_ToneInterval.mono _ _ _ _ _)
   | (with_reducible exact LeO.refl _)
   | (with_reducible exact LeO.none _)
   | (with_reducible refine LeO.ite ?_ ?_)
   | (with_reducible refine LeO.bind ?_ (fun _ => ?_))
   | exact spec_ToneInterval.mono _ _ _ _ _
   | exact LeO.none _
   | refine LeO.ite ?_ ?_
   | refine LeO.bind ?_ (fun _ => ?_)
set_option maxHeartbeats 8000000 in
set_option maxRecDepth 100000 in
theorem spec_l8Concord.calls (k : Nat) (a0_0 : Int) (a0_1 : Bool) (a1_0 : Int) (a1_1 : Bool) (r : Bool) (w : World) (h : spec_l8Concord.f k a0_0 a0_1 a1_0 a1_1 = some r) :
  Calls Tryd.prog 72 #[.agg #[.int .i64 a0_0, .bool a0_1], .agg #[.int .i64 a1_0, .bool a1_1]] w fun e w' => e = .returned (.bool r) ∧ Below w.heap.size w w' := by
 have hu30 := Tryd.underlying30
 have HB := am (Below.refl w.heap.size w)
 have H : ((spec_l1Size.f (wrap64 (a0_0 - a1_0))).bind fun t286 => ((spec_ToneInterval.f k a0_0 a0_1 a1_0 a1_1).bind fun t287 => (if (Int.tmod t286 7) = 0 then (if 0 ≤ (wrap64 ((t287.size : Int) - 1)) then (if (wrap64 ((t287.size : Int) - 1)) < (t287.size : Int) then (some ((bt t287 (wrap64 ((t287.size : Int) - 1))) == 112)) else (none)) else (none)) else (if (Int.tmod t286 7) = 3 then (if 0 ≤ (wrap64 ((t287.size : Int) - 1)) then (if (wrap64 ((t287.size : Int) - 1)) < (t287.size : Int) then (some ((bt t287 (wrap64 ((t287.size : Int) - 1))) == 112)) else (none)) else (none)) else (if (Int.tmod t286 7) = 4 then (if 0 ≤ (wrap64 ((t287.size : Int) - 1)) then (if (wrap64 ((t287.size : Int) - 1)) < (t287.size : Int) then (some ((bt t287 (wrap64 ((t287.size : Int) - 1))) == 112)) else (none)) else (none)) else (some false)))))) = some r := h
 clear h
 replace H := Option.bind_eq_some_iff.mp H
 obtain ⟨t286, A30, H⟩ := H
 replace H : ((spec_ToneInterval.f k a0_0 a0_1 a1_0 a1_1).bind fun t287 => (if (Int.tmod t286 7) = 0 then (if 0 ≤ (wrap64 ((t287.size : Int) - 1)) then (if (wrap64 ((t287.size : Int) - 1)) < (t287.size : Int) then (some ((bt t287 (wrap64 ((t287.size : Int) - 1))) == 112)) else (none)) else (none)) else (if (Int.tmod t286 7) = 3 then (if 0 ≤ (wrap64 ((t287.size : Int) - 1)) then (if (wrap64 ((t287.size : Int) - 1)) < (t287.size : Int) then (some ((bt t287 (wrap64 ((t287.size : Int) - 1))) == 112)) else (none)) else (none)) else (if (Int.tmod t286 7) = 4 then (if 0 ≤ (wrap64 ((t287.size : Int) - 1)) then (if (wrap64 ((t287.size : Int) - 1)) < (t287.size : Int) then (some ((bt t287 (wrap64 ((t287.size : Int) - 1))) == 112)) else (none)) else (none)) else (some false))))) = some r := H
 have A3 := am A30
 clear A30
 replace H := Option.bind_eq_some_iff.mp H
 obtain ⟨t287, A40, H⟩ := H
 replace H : (if (Int.tmod t286 7) = 0 then (if 0 ≤ (wrap64 ((t287.size : Int) - 1)) then (if (wrap64 ((t287.size : Int) - 1)) < (t287.size : Int) then (some ((bt t287 (wrap64 ((t287.size : Int) - 1))) == 112)) else (none)) else (none)) else (if (Int.tmod t286 7) = 3 then (if 0 ≤ (wrap64 ((t287.size : Int) - 1)) then (if (wrap64 ((t287.size : Int) - 1)) < (t287.size : Int) then (some ((bt t287 (wrap64 ((t287.size : Int) - 1))) == 112)) else (none)) else (none)) else (if (Int.tmod t286 7) = 4 then (if 0 ≤ (wrap64 ((t287.size : Int) - 1)) then (if (wrap64 ((t287.size : Int) - 1)) < (t287.size : Int) then (some ((bt t287 (wrap64 ((t287.size : Int) - 1))) == 112)) else (none)) else (none)) else (some false)))) = some r := H
 have A4 := am A40
 clear A40
 by_cases c5 : (Int.tmod t286 7) = 0
 ·rw [if_pos c5] at H
  have c5b0 : ((Int.tmod t286 7) == 0) = true := beq_iff_eq.mpr c5
  have c5b1 : ((Int.tmod t286 7) != 0) = false := bne_eq_false_iff_eq.mpr c5
  clear c5
  obtain ⟨ji6, hji6⟩ : ∃ j_ : Int, (wrap64 ((t287.size : Int) - 1)) = j_ := ⟨_, rfl⟩
  replace H : (if 0 ≤ (ji6) then (if (ji6) < (t287.size : Int) then (some ((bt t287 (ji6)) == 112)) else (none)) else (none)) = some r := by first | (rw [hji6] at H; exact H) | (simp only [hji6] at H ⊢; exact H)
  (try rw [hji6] at A3)
  (try rw [hji6] at A4)
  have hji6w : (IntKind.i64.wrap ((t287.size : Int) - 1)) = ji6 := (i64_w _).trans hji6
  by_cases c7 : 0 ≤ (ji6)
  ·rw [if_pos c7] at H
   have c7b0 : decide (0 ≤ (ji6)) = true := decide_eq_true c7
   clear c7
   by_cases c8 : (ji6) < (t287.size : Int)
   ·rw [if_pos c8] at H
    have c8b0 : decide ((ji6) < (t287.size : Int)) = true := decide_eq_true c8
    clear c8
    obtain rfl := Option.some.inj H
    go_enter Tryd.func72, Tryd.ntmps72
    go_wp2_with (first | ((with_reducible refine gate_dst (N := 2) rfl ?_); (try (refine gate_guard (by rfl) ?_; dsimp only)); refine box_event ?hg (N := 2) ?hd (cs := #[.int .i64 a0_0, .bool a0_1]) (t := 30) ?hr ?_; (case hd => rfl); (case hg => rfl); (case hr => first | (go_simp; done) | (go_simp; rfl)); intro gb284 hg w10 hbox hb; have n0_ := am (below_step (bu HB.out) hb); have n1_ := am (hbox); have n2_ := am ((by rw [hg]; exact (below_size (bu HB.out)) : w.heap.size ≤ gb284)); have n3_ := am ((by rw [hg]; exact (below_size (bu HB.out)) : w.heap.size ≤ gb284)); clear HB; have HB := n0_; have BK284 := n1_; have GW284 := n2_; have GE284 := n3_; clear n0_ n1_ n2_ n3_; clear hb hbox hg) | ((with_reducible refine gate_dst (N := 3) rfl ?_); (try (refine gate_guard (by rfl) ?_; dsimp only)); refine box_event ?hg (N := 3) ?hd (cs := #[.int .i64 a1_0, .bool a1_1]) (t := 30) ?hr ?_; (case hd => rfl); (case hg => rfl); (case hr => first | (go_simp; done) | (go_simp; rfl)); intro gb285 hg w11 hbox hb; have n0_ := am (blk_below (g := gb284) (o := .cells #[.int .i64 a0_0, .bool a0_1] 30 (0, 0)) (gu BK284.out) hb); have n1_ := am (below_step (bu HB.out) hb); have n2_ := am (hbox); have n3_ := am ((by rw [hg]; exact (below_size (bu HB.out)) : w.heap.size ≤ gb285)); have n4_ := am ((by rw [hg]; exact (below_size (bu HB.out)) : w.heap.size ≤ gb285)); have n5_ := am ((by rw [hg]; exact Nat.ne_of_lt (blk_lt (g := gb284) (o := .cells #[.int .i64 a0_0, .bool a0_1] 30 (0, 0)) (gu BK284.out)) : gb284 ≠ gb285)); have n6_ := am ((by rw [hg]; exact Nat.ne_of_gt (blk_lt (g := gb284) (o := .cells #[.int .i64 a0_0, .bool a0_1] 30 (0, 0)) (gu BK284.out)) : gb285 ≠ gb284)); clear BK284; clear HB; have BK284 := n0_; have HB := n1_; have BK285 := n2_; have GW285 := n3_; have GE285 := n4_; have NB284_285 := n5_; have NB285_284 := n6_; clear n0_ n1_ n2_ n3_ n4_ n5_ n6_; clear hb hbox hg; have hnb12 := NB284_285.out; have hnc12 := NB285_284.out; have hcz13_0 : w11.cell? ⟨gb284, 0, none⟩ = some (.int .i64 a0_0) := (blk_cell BK284.out 0).trans rfl; have hcz13_1 : w11.cell? ⟨gb284, 1, none⟩ = some (.bool a0_1) := (blk_cell BK284.out 1).trans rfl; have hfz13_0 := blk_frozen BK284.out 0; have hfz13_1 := blk_frozen BK284.out 1; have hcz14_0 : w11.cell? ⟨gb285, 0, none⟩ = some (.int .i64 a1_0) := (blk_cell BK285.out 0).trans rfl; have hcz14_1 : w11.cell? ⟨gb285, 1, none⟩ = some (.bool a1_1) := (blk_cell BK285.out 1).trans rfl; have hfz14_0 := blk_frozen BK285.out 0; have hfz14_1 := blk_frozen BK285.out 1) | ((with_reducible refine gate_callee (f := 125) rfl ?_); refine goesL_ (some 12) rfl rfl Tryd.func125 (by kernel_rfl) rfl #[.int .i64 (wrap64 (a0_0 - a1_0))] rfl (by (try simp only [List.map_toArray, List.map_cons, List.map_nil]); first | done | rfl | (simp only [List.length_drop, List.length_take]; rfl)) ?_; (with_reducible refine (spec_l1Size.calls (wrap64 (a0_0 - a1_0)) t286 _ A3.out).mono ?_); rintro e w15 ⟨rfl, hb⟩; refine ⟨_, rfl, ?_⟩; have n0_ := am (blk_below (g := gb284) (o := .cells #[.int .i64 a0_0, .bool a0_1] 30 (0, 0)) (gu BK284.out) hb); have n1_ := am (blk_below (g := gb285) (o := .cells #[.int .i64 a1_0, .bool a1_1] 30 (0, 0)) (gu BK285.out) hb); have n2_ := am (below_step (bu HB.out) hb); clear BK284; clear BK285; clear HB; have BK284 := n0_; have BK285 := n1_; have HB := n2_; clear n0_ n1_ n2_; (try clear hb); (try clear hb2); (try clear hk); (try clear hi); have hcz16_0 : w15.cell? ⟨gb284, 0, none⟩ = some (.int .i64 a0_0) := (blk_cell BK284.out 0).trans rfl; have hcz16_1 : w15.cell? ⟨gb284, 1, none⟩ = some (.bool a0_1) := (blk_cell BK284.out 1).trans rfl; have hfz16_0 := blk_frozen BK284.out 0; have hfz16_1 := blk_frozen BK284.out 1; have hcz17_0 : w15.cell? ⟨gb285, 0, none⟩ = some (.int .i64 a1_0) := (blk_cell BK285.out 0).trans rfl; have hcz17_1 : w15.cell? ⟨gb285, 1, none⟩ = some (.bool a1_1) := (blk_cell BK285.out 1).trans rfl; have hfz17_0 := blk_frozen BK285.out 0; have hfz17_1 := blk_frozen BK285.out 1) | ((with_reducible refine gate_callee (f := 126) rfl ?_); refine goesL_ (some 16) rfl rfl Tryd.func126 (by kernel_rfl) rfl #[.agg #[.int .i64 a0_0, .bool a0_1], .agg #[.int .i64 a1_0, .bool a1_1]] rfl (by (try simp only [List.map_toArray, List.map_cons, List.map_nil]); first | done | rfl | (simp only [List.length_drop, List.length_take]; rfl)) ?_; (with_reducible refine (spec_ToneInterval.calls k a0_0 a0_1 a1_0 a1_1 t287 _ A4.out).mono ?_); rintro e w18 ⟨rfl, hb⟩; refine ⟨_, rfl, ?_⟩; have n0_ := am (blk_below (g := gb284) (o := .cells #[.int .i64 a0_0, .bool a0_1] 30 (0, 0)) (gu BK284.out) hb); have n1_ := am (blk_below (g := gb285) (o := .cells #[.int .i64 a1_0, .bool a1_1] 30 (0, 0)) (gu BK285.out) hb); have n2_ := am (below_step (bu HB.out) hb); clear BK284; clear BK285; clear HB; have BK284 := n0_; have BK285 := n1_; have HB := n2_; clear n0_ n1_ n2_; (try clear hb); (try clear hb2); (try clear hk); (try clear hi); have p9 : 0 ≤ ((ji6) : Int) := od; have q9 : (ji6) < (t287.size : Int) := od; have hx9 := bt_at t287 (ji6); replace p9 := eq_true p9; replace q9 := eq_true q9))
    go_ret
    exact ⟨by first | rfl | (simp [errW_none, errW_some] <;> rfl) | (simp only [← hji6]; first | rfl | (simp [errW_none, errW_some] <;> rfl)) | (simp [*, errW_none, errW_some] <;> rfl), bu HB.out⟩
   ·rw [if_neg c8] at H
    exact absurd H (by simp)
  ·rw [if_neg c7] at H
   exact absurd H (by simp)
 ·rw [if_neg c5] at H
  have c5b0 : ((Int.tmod t286 7) == 0) = false := beq_eq_false_iff_ne.mpr c5
  have c5b1 : ((Int.tmod t286 7) != 0) = true := bne_iff_ne.mpr c5
  by_cases c19 : (Int.tmod t286 7) = 3
  ·rw [if_pos c19] at H
   have c19b0 : ((Int.tmod t286 7) == 3) = true := beq_iff_eq.mpr c19
   have c19b1 : ((Int.tmod t286 7) != 3) = false := bne_eq_false_iff_eq.mpr c19
   clear c19
   obtain ⟨ji20, hji20⟩ : ∃ j_ : Int, (wrap64 ((t287.size : Int) - 1)) = j_ := ⟨_, rfl⟩
   replace H : (if 0 ≤ (ji20) then (if (ji20) < (t287.size : Int) then (some ((bt t287 (ji20)) == 112)) else (none)) else (none)) = some r := by first | (rw [hji20] at H; exact H) | (simp only [hji20] at H ⊢; exact H)
   (try rw [hji20] at A3)
   (try rw [hji20] at A4)
   have hji20w : (IntKind.i64.wrap ((t287.size : Int) - 1)) = ji20 := (i64_w _).trans hji20
   by_cases c21 : 0 ≤ (ji20)
   ·rw [if_pos c21] at H
    have c21b0 : decide (0 ≤ (ji20)) = true := decide_eq_true c21
    clear c21
    by_cases c22 : (ji20) < (t287.size : Int)
    ·rw [if_pos c22] at H
     have c22b0 : decide ((ji20) < (t287.size : Int)) = true := decide_eq_true c22
     clear c22
     obtain rfl := Option.some.inj H
     go_enter Tryd.func72, Tryd.ntmps72
     go_wp2_with (first | ((with_reducible refine gate_dst (N := 2) rfl ?_); (try (refine gate_guard (by rfl) ?_; dsimp only)); refine box_event ?hg (N := 2) ?hd (cs := #[.int .i64 a0_0, .bool a0_1]) (t := 30) ?hr ?_; (case hd => rfl); (case hg => rfl); (case hr => first | (go_simp; done) | (go_simp; rfl)); intro gb284 hg w24 hbox hb; have n0_ := am (below_step (bu HB.out) hb); have n1_ := am (hbox); have n2_ := am ((by rw [hg]; exact (below_size (bu HB.out)) : w.heap.size ≤ gb284)); have n3_ := am ((by rw [hg]; exact (below_size (bu HB.out)) : w.heap.size ≤ gb284)); clear HB; have HB := n0_; have BK284 := n1_; have GW284 := n2_; have GE284 := n3_; clear n0_ n1_ n2_ n3_; clear hb hbox hg) | ((with_reducible refine gate_dst (N := 3) rfl ?_); (try (refine gate_guard (by rfl) ?_; dsimp only)); refine box_event ?hg (N := 3) ?hd (cs := #[.int .i64 a1_0, .bool a1_1]) (t := 30) ?hr ?_; (case hd => rfl); (case hg => rfl); (case hr => first | (go_simp; done) | (go_simp; rfl)); intro gb285 hg w25 hbox hb; have n0_ := am (blk_below (g := gb284) (o := .cells #[.int .i64 a0_0, .bool a0_1] 30 (0, 0)) (gu BK284.out) hb); have n1_ := am (below_step (bu HB.out) hb); have n2_ := am (hbox); have n3_ := am ((by rw [hg]; exact (below_size (bu HB.out)) : w.heap.size ≤ gb285)); have n4_ := am ((by rw [hg]; exact (below_size (bu HB.out)) : w.heap.size ≤ gb285)); have n5_ := am ((by rw [hg]; exact Nat.ne_of_lt (blk_lt (g := gb284) (o := .cells #[.int .i64 a0_0, .bool a0_1] 30 (0, 0)) (gu BK284.out)) : gb284 ≠ gb285)); have n6_ := am ((by rw [hg]; exact Nat.ne_of_gt (blk_lt (g := gb284) (o := .cells #[.int .i64 a0_0, .bool a0_1] 30 (0, 0)) (gu BK284.out)) : gb285 ≠ gb284)); clear BK284; clear HB; have BK284 := n0_; have HB := n1_; have BK285 := n2_; have GW285 := n3_; have GE285 := n4_; have NB284_285 := n5_; have NB285_284 := n6_; clear n0_ n1_ n2_ n3_ n4_ n5_ n6_; clear hb hbox hg; have hnb26 := NB284_285.out; have hnc26 := NB285_284.out; have hcz27_0 : w25.cell? ⟨gb284, 0, none⟩ = some (.int .i64 a0_0) := (blk_cell BK284.out 0).trans rfl; have hcz27_1 : w25.cell? ⟨gb284, 1, none⟩ = some (.bool a0_1) := (blk_cell BK284.out 1).trans rfl; have hfz27_0 := blk_frozen BK284.out 0; have hfz27_1 := blk_frozen BK284.out 1; have hcz28_0 : w25.cell? ⟨gb285, 0, none⟩ = some (.int .i64 a1_0) := (blk_cell BK285.out 0).trans rfl; have hcz28_1 : w25.cell? ⟨gb285, 1, none⟩ = some (.bool a1_1) := (blk_cell BK285.out 1).trans rfl; have hfz28_0 := blk_frozen BK285.out 0; have hfz28_1 := blk_frozen BK285.out 1) | ((with_reducible refine gate_callee (f := 125) rfl ?_); refine goesL_ (some 12) rfl rfl Tryd.func125 (by kernel_rfl) rfl #[.int .i64 (wrap64 (a0_0 - a1_0))] rfl (by (try simp only [List.map_toArray, List.map_cons, List.map_nil]); first | done | rfl | (simp only [List.length_drop, List.length_take]; rfl)) ?_; (with_reducible refine (spec_l1Size.calls (wrap64 (a0_0 - a1_0)) t286 _ A3.out).mono ?_); rintro e w29 ⟨rfl, hb⟩; refine ⟨_, rfl, ?_⟩; have n0_ := am (blk_below (g := gb284) (o := .cells #[.int .i64 a0_0, .bool a0_1] 30 (0, 0)) (gu BK284.out) hb); have n1_ := am (blk_below (g := gb285) (o := .cells #[.int .i64 a1_0, .bool a1_1] 30 (0, 0)) (gu BK285.out) hb); have n2_ := am (below_step (bu HB.out) hb); clear BK284; clear BK285; clear HB; have BK284 := n0_; have BK285 := n1_; have HB := n2_; clear n0_ n1_ n2_; (try clear hb); (try clear hb2); (try clear hk); (try clear hi); have hcz30_0 : w29.cell? ⟨gb284, 0, none⟩ = some (.int .i64 a0_0) := (blk_cell BK284.out 0).trans rfl; have hcz30_1 : w29.cell? ⟨gb284, 1, none⟩ = some (.bool a0_1) := (blk_cell BK284.out 1).trans rfl; have hfz30_0 := blk_frozen BK284.out 0; have hfz30_1 := blk_frozen BK284.out 1; have hcz31_0 : w29.cell? ⟨gb285, 0, none⟩ = some (.int .i64 a1_0) := (blk_cell BK285.out 0).trans rfl; have hcz31_1 : w29.cell? ⟨gb285, 1, none⟩ = some (.bool a1_1) := (blk_cell BK285.out 1).trans rfl; have hfz31_0 := blk_frozen BK285.out 0; have hfz31_1 := blk_frozen BK285.out 1) | ((with_reducible refine gate_callee (f := 126) rfl ?_); refine goesL_ (some 16) rfl rfl Tryd.func126 (by kernel_rfl) rfl #[.agg #[.int .i64 a0_0, .bool a0_1], .agg #[.int .i64 a1_0, .bool a1_1]] rfl (by (try simp only [List.map_toArray, List.map_cons, List.map_nil]); first | done | rfl | (simp only [List.length_drop, List.length_take]; rfl)) ?_; (with_reducible refine (spec_ToneInterval.calls k a0_0 a0_1 a1_0 a1_1 t287 _ A4.out).mono ?_); rintro e w32 ⟨rfl, hb⟩; refine ⟨_, rfl, ?_⟩; have n0_ := am (blk_below (g := gb284) (o := .cells #[.int .i64 a0_0, .bool a0_1] 30 (0, 0)) (gu BK284.out) hb); have n1_ := am (blk_below (g := gb285) (o := .cells #[.int .i64 a1_0, .bool a1_1] 30 (0, 0)) (gu BK285.out) hb); have n2_ := am (below_step (bu HB.out) hb); clear BK284; clear BK285; clear HB; have BK284 := n0_; have BK285 := n1_; have HB := n2_; clear n0_ n1_ n2_; (try clear hb); (try clear hb2); (try clear hk); (try clear hi); have p23 : 0 ≤ ((ji20) : Int) := od; have q23 : (ji20) < (t287.size : Int) := od; have hx23 := bt_at t287 (ji20); replace p23 := eq_true p23; replace q23 := eq_true q23))
     go_ret
     exact ⟨by first | rfl | (simp [errW_none, errW_some] <;> rfl) | (simp only [← hji20]; first | rfl | (simp [errW_none, errW_some] <;> rfl)) | (simp [*, errW_none, errW_some] <;> rfl), bu HB.out⟩
    ·rw [if_neg c22] at H
     exact absurd H (by simp)
   ·rw [if_neg c21] at H
    exact absurd H (by simp)
  ·rw [if_neg c19] at H
   have c19b0 : ((Int.tmod t286 7) == 3) = false := beq_eq_false_iff_ne.mpr c19
   have c19b1 : ((Int.tmod t286 7) != 3) = true := bne_iff_ne.mpr c19
   by_cases c33 : (Int.tmod t286 7) = 4
   ·rw [if_pos c33] at H
    have c33b0 : ((Int.tmod t286 7) == 4) = true := beq_iff_eq.mpr c33
    have c33b1 : ((Int.tmod t286 7) != 4) = false := bne_eq_false_iff_eq.mpr c33
    clear c33
    obtain ⟨ji34, hji34⟩ : ∃ j_ : Int, (wrap64 ((t287.size : Int) - 1)) = j_ := ⟨_, rfl⟩
    replace H : (if 0 ≤ (ji34) then (if (ji34) < (t287.size : Int) then (some ((bt t287 (ji34)) == 112)) else (none)) else (none)) = some r := by first | (rw [hji34] at H; exact H) | (simp only [hji34] at H ⊢; exact H)
    (try rw [hji34] at A3)
    (try rw [hji34] at A4)
    have hji34w : (IntKind.i64.wrap ((t287.size : Int) - 1)) = ji34 := (i64_w _).trans hji34
    by_cases c35 : 0 ≤ (ji34)
    ·rw [if_pos c35] at H
     have c35b0 : decide (0 ≤ (ji34)) = true := decide_eq_true c35
     clear c35
     by_cases c36 : (ji34) < (t287.size : Int)
     ·rw [if_pos c36] at H
      have c36b0 : decide ((ji34) < (t287.size : Int)) = true := decide_eq_true c36
      clear c36
      obtain rfl := Option.some.inj H
      go_enter Tryd.func72, Tryd.ntmps72
      go_wp2_with (first | ((with_reducible refine gate_dst (N := 2) rfl ?_); (try (refine gate_guard (by rfl) ?_; dsimp only)); refine box_event ?hg (N := 2) ?hd (cs := #[.int .i64 a0_0, .bool a0_1]) (t := 30) ?hr ?_; (case hd => rfl); (case hg => rfl); (case hr => first | (go_simp; done) | (go_simp; rfl)); intro gb284 hg w38 hbox hb; have n0_ := am (below_step (bu HB.out) hb); have n1_ := am (hbox); have n2_ := am ((by rw [hg]; exact (below_size (bu HB.out)) : w.heap.size ≤ gb284)); have n3_ := am ((by rw [hg]; exact (below_size (bu HB.out)) : w.heap.size ≤ gb284)); clear HB; have HB := n0_; have BK284 := n1_; have GW284 := n2_; have GE284 := n3_; clear n0_ n1_ n2_ n3_; clear hb hbox hg) | ((with_reducible refine gate_dst (N := 3) rfl ?_); (try (refine gate_guard (by rfl) ?_; dsimp only)); refine box_event ?hg (N := 3) ?hd (cs := #[.int .i64 a1_0, .bool a1_1]) (t := 30) ?hr ?_; (case hd => rfl); (case hg => rfl); (case hr => first | (go_simp; done) | (go_simp; rfl)); intro gb285 hg w39 hbox hb; have n0_ := am (blk_below (g := gb284) (o := .cells #[.int .i64 a0_0, .bool a0_1] 30 (0, 0)) (gu BK284.out) hb); have n1_ := am (below_step (bu HB.out) hb); have n2_ := am (hbox); have n3_ := am ((by rw [hg]; exact (below_size (bu HB.out)) : w.heap.size ≤ gb285)); have n4_ := am ((by rw [hg]; exact (below_size (bu HB.out)) : w.heap.size ≤ gb285)); have n5_ := am ((by rw [hg]; exact Nat.ne_of_lt (blk_lt (g := gb284) (o := .cells #[.int .i64 a0_0, .bool a0_1] 30 (0, 0)) (gu BK284.out)) : gb284 ≠ gb285)); have n6_ := am ((by rw [hg]; exact Nat.ne_of_gt (blk_lt (g := gb284) (o := .cells #[.int .i64 a0_0, .bool a0_1] 30 (0, 0)) (gu BK284.out)) : gb285 ≠ gb284)); clear BK284; clear HB; have BK284 := n0_; have HB := n1_; have BK285 := n2_; have GW285 := n3_; have GE285 := n4_; have NB284_285 := n5_; have NB285_284 := n6_; clear n0_ n1_ n2_ n3_ n4_ n5_ n6_; clear hb hbox hg; have hnb40 := NB284_285.out; have hnc40 := NB285_284.out; have hcz41_0 : w39.cell? ⟨gb284, 0, none⟩ = some (.int .i64 a0_0) := (blk_cell BK284.out 0).trans rfl; have hcz41_1 : w39.cell? ⟨gb284, 1, none⟩ = some (.bool a0_1) := (blk_cell BK284.out 1).trans rfl; have hfz41_0 := blk_frozen BK284.out 0; have hfz41_1 := blk_frozen BK284.out 1; have hcz42_0 : w39.cell? ⟨gb285, 0, none⟩ = some (.int .i64 a1_0) := (blk_cell BK285.out 0).trans rfl; have hcz42_1 : w39.cell? ⟨gb285, 1, none⟩ = some (.bool a1_1) := (blk_cell BK285.out 1).trans rfl; have hfz42_0 := blk_frozen BK285.out 0; have hfz42_1 := blk_frozen BK285.out 1) | ((with_reducible refine gate_callee (f := 125) rfl ?_); refine goesL_ (some 12) rfl rfl Tryd.func125 (by kernel_rfl) rfl #[.int .i64 (wrap64 (a0_0 - a1_0))] rfl (by (try simp only [List.map_toArray, List.map_cons, List.map_nil]); first | done | rfl | (simp only [List.length_drop, List.length_take]; rfl)) ?_; (with_reducible refine (spec_l1Size.calls (wrap64 (a0_0 - a1_0)) t286 _ A3.out).mono ?_); rintro e w43 ⟨rfl, hb⟩; refine ⟨_, rfl, ?_⟩; have n0_ := am (blk_below (g := gb284) (o := .cells #[.int .i64 a0_0, .bool a0_1] 30 (0, 0)) (gu BK284.out) hb); have n1_ := am (blk_below (g := gb285) (o := .cells #[.int .i64 a1_0, .bool a1_1] 30 (0, 0)) (gu BK285.out) hb); have n2_ := am (below_step (bu HB.out) hb); clear BK284; clear BK285; clear HB; have BK284 := n0_; have BK285 := n1_; have HB := n2_; clear n0_ n1_ n2_; (try clear hb); (try clear hb2); (try clear hk); (try clear hi); have hcz44_0 : w43.cell? ⟨gb284, 0, none⟩ = some (.int .i64 a0_0) := (blk_cell BK284.out 0).trans rfl; have hcz44_1 : w43.cell? ⟨gb284, 1, none⟩ = some (.bool a0_1) := (blk_cell BK284.out 1).trans rfl; have hfz44_0 := blk_frozen BK284.out 0; have hfz44_1 := blk_frozen BK284.out 1; have hcz45_0 : w43.cell? ⟨gb285, 0, none⟩ = some (.int .i64 a1_0) := (blk_cell BK285.out 0).trans rfl; have hcz45_1 : w43.cell? ⟨gb285, 1, none⟩ = some (.bool a1_1) := (blk_cell BK285.out 1).trans rfl; have hfz45_0 := blk_frozen BK285.out 0; have hfz45_1 := blk_frozen BK285.out 1) | ((with_reducible refine gate_callee (f := 126) rfl ?_); refine goesL_ (some 16) rfl rfl Tryd.func126 (by kernel_rfl) rfl #[.agg #[.int .i64 a0_0, .bool a0_1], .agg #[.int .i64 a1_0, .bool a1_1]] rfl (by (try simp only [List.map_toArray, List.map_cons, List.map_nil]); first | done | rfl | (simp only [List.length_drop, List.length_take]; rfl)) ?_; (with_reducible refine (spec_ToneInterval.calls k a0_0 a0_1 a1_0 a1_1 t287 _ A4.out).mono ?_); rintro e w46 ⟨rfl, hb⟩; refine ⟨_, rfl, ?_⟩; have n0_ := am (blk_below (g := gb284) (o := .cells #[.int .i64 a0_0, .bool a0_1] 30 (0, 0)) (gu BK284.out) hb); have n1_ := am (blk_below (g := gb285) (o := .cells #[.int .i64 a1_0, .bool a1_1] 30 (0, 0)) (gu BK285.out) hb); have n2_ := am (below_step (bu HB.out) hb); clear BK284; clear BK285; clear HB; have BK284 := n0_; have BK285 := n1_; have HB := n2_; clear n0_ n1_ n2_; (try clear hb); (try clear hb2); (try clear hk); (try clear hi); have p37 : 0 ≤ ((ji34) : Int) := od; have q37 : (ji34) < (t287.size : Int) := od; have hx37 := bt_at t287 (ji34); replace p37 := eq_true p37; replace q37 := eq_true q37))
      go_ret
      exact ⟨by first | rfl | (simp [errW_none, errW_some] <;> rfl) | (simp only [← hji34]; first | rfl | (simp [errW_none, errW_some] <;> rfl)) | (simp [*, errW_none, errW_some] <;> rfl), bu HB.out⟩
     ·rw [if_neg c36] at H
      exact absurd H (by simp)
    ·rw [if_neg c35] at H
     exact absurd H (by simp)
   ·rw [if_neg c33] at H
    have c33b0 : ((Int.tmod t286 7) == 4) = false := beq_eq_false_iff_ne.mpr c33
    have c33b1 : ((Int.tmod t286 7) != 4) = true := bne_iff_ne.mpr c33
    obtain rfl := Option.some.inj H
    go_enter Tryd.func72, Tryd.ntmps72
    go_wp2_with (first | ((with_reducible refine gate_dst (N := 2) rfl ?_); (try (refine gate_guard (by rfl) ?_; dsimp only)); refine box_event ?hg (N := 2) ?hd (cs := #[.int .i64 a0_0, .bool a0_1]) (t := 30) ?hr ?_; (case hd => rfl); (case hg => rfl); (case hr => first | (go_simp; done) | (go_simp; rfl)); intro gb284 hg w47 hbox hb; have n0_ := am (below_step (bu HB.out) hb); have n1_ := am (hbox); have n2_ := am ((by rw [hg]; exact (below_size (bu HB.out)) : w.heap.size ≤ gb284)); have n3_ := am ((by rw [hg]; exact (below_size (bu HB.out)) : w.heap.size ≤ gb284)); clear HB; have HB := n0_; have BK284 := n1_; have GW284 := n2_; have GE284 := n3_; clear n0_ n1_ n2_ n3_; clear hb hbox hg) | ((with_reducible refine gate_dst (N := 3) rfl ?_); (try (refine gate_guard (by rfl) ?_; dsimp only)); refine box_event ?hg (N := 3) ?hd (cs := #[.int .i64 a1_0, .bool a1_1]) (t := 30) ?hr ?_; (case hd => rfl); (case hg => rfl); (case hr => first | (go_simp; done) | (go_simp; rfl)); intro gb285 hg w48 hbox hb; have n0_ := am (blk_below (g := gb284) (o := .cells #[.int .i64 a0_0, .bool a0_1] 30 (0, 0)) (gu BK284.out) hb); have n1_ := am (below_step (bu HB.out) hb); have n2_ := am (hbox); have n3_ := am ((by rw [hg]; exact (below_size (bu HB.out)) : w.heap.size ≤ gb285)); have n4_ := am ((by rw [hg]; exact (below_size (bu HB.out)) : w.heap.size ≤ gb285)); have n5_ := am ((by rw [hg]; exact Nat.ne_of_lt (blk_lt (g := gb284) (o := .cells #[.int .i64 a0_0, .bool a0_1] 30 (0, 0)) (gu BK284.out)) : gb284 ≠ gb285)); have n6_ := am ((by rw [hg]; exact Nat.ne_of_gt (blk_lt (g := gb284) (o := .cells #[.int .i64 a0_0, .bool a0_1] 30 (0, 0)) (gu BK284.out)) : gb285 ≠ gb284)); clear BK284; clear HB; have BK284 := n0_; have HB := n1_; have BK285 := n2_; have GW285 := n3_; have GE285 := n4_; have NB284_285 := n5_; have NB285_284 := n6_; clear n0_ n1_ n2_ n3_ n4_ n5_ n6_; clear hb hbox hg; have hnb49 := NB284_285.out; have hnc49 := NB285_284.out; have hcz50_0 : w48.cell? ⟨gb284, 0, none⟩ = some (.int .i64 a0_0) := (blk_cell BK284.out 0).trans rfl; have hcz50_1 : w48.cell? ⟨gb284, 1, none⟩ = some (.bool a0_1) := (blk_cell BK284.out 1).trans rfl; have hfz50_0 := blk_frozen BK284.out 0; have hfz50_1 := blk_frozen BK284.out 1; have hcz51_0 : w48.cell? ⟨gb285, 0, none⟩ = some (.int .i64 a1_0) := (blk_cell BK285.out 0).trans rfl; have hcz51_1 : w48.cell? ⟨gb285, 1, none⟩ = some (.bool a1_1) := (blk_cell BK285.out 1).trans rfl; have hfz51_0 := blk_frozen BK285.out 0; have hfz51_1 := blk_frozen BK285.out 1) | ((with_reducible refine gate_callee (f := 125) rfl ?_); refine goesL_ (some 12) rfl rfl Tryd.func125 (by kernel_rfl) rfl #[.int .i64 (wrap64 (a0_0 - a1_0))] rfl (by (try simp only [List.map_toArray, List.map_cons, List.map_nil]); first | done | rfl | (simp only [List.length_drop, List.length_take]; rfl)) ?_; (with_reducible refine (spec_l1Size.calls (wrap64 (a0_0 - a1_0)) t286 _ A3.out).mono ?_); rintro e w52 ⟨rfl, hb⟩; refine ⟨_, rfl, ?_⟩; have n0_ := am (blk_below (g := gb284) (o := .cells #[.int .i64 a0_0, .bool a0_1] 30 (0, 0)) (gu BK284.out) hb); have n1_ := am (blk_below (g := gb285) (o := .cells #[.int .i64 a1_0, .bool a1_1] 30 (0, 0)) (gu BK285.out) hb); have n2_ := am (below_step (bu HB.out) hb); clear BK284; clear BK285; clear HB; have BK284 := n0_; have BK285 := n1_; have HB := n2_; clear n0_ n1_ n2_; (try clear hb); (try clear hb2); (try clear hk); (try clear hi); have hcz53_0 : w52.cell? ⟨gb284, 0, none⟩ = some (.int .i64 a0_0) := (blk_cell BK284.out 0).trans rfl; have hcz53_1 : w52.cell? ⟨gb284, 1, none⟩ = some (.bool a0_1) := (blk_cell BK284.out 1).trans rfl; have hfz53_0 := blk_frozen BK284.out 0; have hfz53_1 := blk_frozen BK284.out 1; have hcz54_0 : w52.cell? ⟨gb285, 0, none⟩ = some (.int .i64 a1_0) := (blk_cell BK285.out 0).trans rfl; have hcz54_1 : w52.cell? ⟨gb285, 1, none⟩ = some (.bool a1_1) := (blk_cell BK285.out 1).trans rfl; have hfz54_0 := blk_frozen BK285.out 0; have hfz54_1 := blk_frozen BK285.out 1) | ((with_reducible refine gate_callee (f := 126) rfl ?_); refine goesL_ (some 16) rfl rfl Tryd.func126 (by kernel_rfl) rfl #[.agg #[.int .i64 a0_0, .bool a0_1], .agg #[.int .i64 a1_0, .bool a1_1]] rfl (by (try simp only [List.map_toArray, List.map_cons, List.map_nil]); first | done | rfl | (simp only [List.length_drop, List.length_take]; rfl)) ?_; (with_reducible refine (spec_ToneInterval.calls k a0_0 a0_1 a1_0 a1_1 t287 _ A4.out).mono ?_); rintro e w55 ⟨rfl, hb⟩; refine ⟨_, rfl, ?_⟩; have n0_ := am (blk_below (g := gb284) (o := .cells #[.int .i64 a0_0, .bool a0_1] 30 (0, 0)) (gu BK284.out) hb); have n1_ := am (blk_below (g := gb285) (o := .cells #[.int .i64 a1_0, .bool a1_1] 30 (0, 0)) (gu BK285.out) hb); have n2_ := am (below_step (bu HB.out) hb); clear BK284; clear BK285; clear HB; have BK284 := n0_; have BK285 := n1_; have HB := n2_; clear n0_ n1_ n2_; (try clear hb); (try clear hb2); (try clear hk); (try clear hi)))
    go_ret
    exact ⟨by first | rfl | (simp [errW_none, errW_some] <;> rfl) | (simp [*, errW_none, errW_some] <;> rfl), bu HB.out⟩

/-! ### spec_l8At: function 73 -/
def spec_l8At.l0 : Nat → List (S44) → Int → Int → Option (Int × Bool)
 | 0, _, _, _ => none
 | k + 1, x0, x1, x5 => if 0 ≤ x5 then (if x5 < (x0.length : Int) then (if x1 ≥ ((rd_T44 x0 x5).f1) then (spec_l8At.l0 k x0 (wrap64 (x1 - ((rd_T44 x0 x5).f1))) (wrap64 (x5 + 1))) else (some ((rd_T44 x0 x5).f0.f0, (rd_T44 x0 x5).f0.f1))) else (none)) else (none)
def spec_l8At.f (k : Nat) (l0 : List (S44)) (a1 : Int) : Option (Int × Bool) := spec_l8At.l0 k l0 a1 0
set_option maxHeartbeats 8000000 in
set_option maxRecDepth 100000 in
theorem spec_l8At.calls (k : Nat) (A0 : Option Addr) (c0 : Nat) (l0 : List (S44)) (a1 : Int) (r1 : Int) (r2 : Bool) (w : World) (hr0 : Kd.C k44 w A0 l0.length l0) (hc0 : l0.length ≤ c0) (h : spec_l8At.f k l0 a1 = some (r1, r2)) :
  Calls Tryd.prog 73 #[.slice A0 l0.length c0, .int .i64 a1] w fun e w' => e = .returned (.agg #[.int .i64 r1, .bool r2]) ∧ Below w.heap.size w w' := by
 have hu30 := Tryd.underlying30
 have HR0 := am hr0
 have HC0 := am hc0
 clear hr0 hc0
 have HB := am (Below.refl w.heap.size w)
 have H : (spec_l8At.l0 k l0 a1 0) = some (r1, r2) := h
 clear h
 have H' := am H
 clear H
 go_enter Tryd.func73, Tryd.ntmps73
 go_wp2_with (first | ((with_reducible refine gate_dst (N := 4) rfl ?_); refine box_event ?hg (N := 4) ?hd (cs := #[.int .i64 0, .bool false]) (t := 30) ?hr ?_; (case hd => rfl); (case hg => rfl); (case hr => first | (go_simp; done) | (go_simp; rfl)); intro gb288 hg w3 hbox hb; have n0_ := am (below_step (bu HB.out) hb); have n1_ := am (hbox); have n2_ := am ((by rw [hg]; exact (below_size (bu HB.out)) : w.heap.size ≤ gb288)); have n3_ := am ((by rw [hg]; exact (below_size (bu HB.out)) : w.heap.size ≤ gb288)); clear HB; have HB := n0_; have BK288 := n1_; have GW288 := n2_; have GE288 := n3_; clear n0_ n1_ n2_ n3_; clear hb hbox hg))
 go_loopg [1, 5] k (fun kq v1 v5 w' => ∃ (x1_1 : Int) (x5_1 : Int), v1 = .int .i64 x1_1 ∧ v5 = .int .i64 x5_1 ∧ Aside0 (spec_l8At.l0 kq l0 x1_1 x5_1 = some (r1, r2)) ∧ Aside0 (kq ≤ k) ∧ Aside0 (w'.heap[gb288]? = some (.cells #[.int .i64 0, .bool false] 30 (0, 0))) ∧ Aside0 (Below w.heap.size w w'))
 case atStart => exact ⟨(a1), (0), (by first | rfl | (simp; done) | (simp [*]; done)), (by first | rfl | (simp; done) | (simp [*]; done)), H', ⟨Nat.le_refl _⟩, ⟨gu BK288.out⟩, ⟨bu HB.out⟩⟩
 case round =>
  clear H'
  try clear p2
  obtain ⟨x1_1, x5_1, rfl, rfl, HA, HK1, BK288, HB⟩ := hrel
  cases gk with
  | zero => exact absurd HA.out (by simp [spec_l8At.l0])
  | succ k1 =>
   have H := HA.out
   clear HA
   simp only [spec_l8At.l0] at H
   by_cases c4 : 0 ≤ x5_1
   ·rw [if_pos c4] at H
    have c4b0 : decide (0 ≤ x5_1) = true := decide_eq_true c4
    clear c4
    by_cases c5 : x5_1 < (l0.length : Int)
    ·rw [if_pos c5] at H
     have c5b0 : decide (x5_1 < (l0.length : Int)) = true := decide_eq_true c5
     clear c5
     by_cases c6 : x1_1 ≥ ((rd_T44 l0 x5_1).f1)
     ·rw [if_pos c6] at H
      have c6b0 : decide (((rd_T44 l0 x5_1).f1) ≤ x1_1) = true := decide_eq_true c6
      clear c6
      have H' := am H
      clear H
      have p289 : 0 ≤ (x5_1 : Int) := od
      have q289 : x5_1 < (l0.length : Int) := od
      obtain ⟨ad289, e289, hx289_0, hx289_1, hx289_2⟩ := at_T44 HR0.out x5_1 p289 q289
      cases e289
      replace hx289_0 := (HB.out.cell (World.block_lt_of_cell? w _ hx289_0)).trans hx289_0
      replace hx289_1 := (HB.out.cell (World.block_lt_of_cell? w _ hx289_1)).trans hx289_1
      replace hx289_2 := (HB.out.cell (World.block_lt_of_cell? w _ hx289_2)).trans hx289_2
      replace p289 := eq_true p289
      replace q289 := eq_true q289
      have p290 : 0 ≤ (x5_1 : Int) := od
      have q290 : x5_1 < (l0.length : Int) := od
      obtain ⟨ad290, e290, hx290_0, hx290_1, hx290_2⟩ := at_T44 HR0.out x5_1 p290 q290
      obtain rfl : ad289 = ad290 := (by injection e290)
      replace hx290_0 := (HB.out.cell (World.block_lt_of_cell? w _ hx290_0)).trans hx290_0
      replace hx290_1 := (HB.out.cell (World.block_lt_of_cell? w _ hx290_1)).trans hx290_1
      replace hx290_2 := (HB.out.cell (World.block_lt_of_cell? w _ hx290_2)).trans hx290_2
      replace p290 := eq_true p290
      replace q290 := eq_true q290
      go_wp2
      go_roundg k1
      case measure => have := HK1.out; omega
      case rel => exact ⟨(wrap64 (x1_1 - ((rd_T44 l0 x5_1).f1))), (wrap64 (x5_1 + 1)), (by first | rfl | (simp; done) | (simp [*]; done)), (by first | rfl | (simp; done) | (simp [*]; done)), H', ⟨by have := HK1.out; omega⟩, ⟨gu BK288.out⟩, ⟨bu HB.out⟩⟩
     ·rw [if_neg c6] at H
      have c6b0 : decide (((rd_T44 l0 x5_1).f1) ≤ x1_1) = false := decide_eq_false c6
      clear c6
      simp only [Option.some.injEq, Prod.mk.injEq] at H
      obtain ⟨rfl, rfl⟩ := H
      have p289 : 0 ≤ (x5_1 : Int) := od
      have q289 : x5_1 < (l0.length : Int) := od
      obtain ⟨ad289, e289, hx289_0, hx289_1, hx289_2⟩ := at_T44 HR0.out x5_1 p289 q289
      cases e289
      replace hx289_0 := (HB.out.cell (World.block_lt_of_cell? w _ hx289_0)).trans hx289_0
      replace hx289_1 := (HB.out.cell (World.block_lt_of_cell? w _ hx289_1)).trans hx289_1
      replace hx289_2 := (HB.out.cell (World.block_lt_of_cell? w _ hx289_2)).trans hx289_2
      replace p289 := eq_true p289
      replace q289 := eq_true q289
      have p291 : 0 ≤ (x5_1 : Int) := od
      have q291 : x5_1 < (l0.length : Int) := od
      obtain ⟨ad291, e291, hx291_0, hx291_1, hx291_2⟩ := at_T44 HR0.out x5_1 p291 q291
      obtain rfl : ad289 = ad291 := (by injection e291)
      replace hx291_0 := (HB.out.cell (World.block_lt_of_cell? w _ hx291_0)).trans hx291_0
      replace hx291_1 := (HB.out.cell (World.block_lt_of_cell? w _ hx291_1)).trans hx291_1
      replace hx291_2 := (HB.out.cell (World.block_lt_of_cell? w _ hx291_2)).trans hx291_2
      replace p291 := eq_true p291
      replace q291 := eq_true q291
      have hcz7_0 : wr.cell? ⟨gb288, 0, none⟩ = some (.int .i64 0) := (blk_cell BK288.out 0).trans rfl
      have hcz7_1 : wr.cell? ⟨gb288, 1, none⟩ = some (.bool false) := (blk_cell BK288.out 1).trans rfl
      have hfz7_0 := blk_frozen BK288.out 0
      have hfz7_1 := blk_frozen BK288.out 1
      go_wp2
      refine bodyPost_ret (results_cell_row rfl _ _ gb288 30 #[.int .i64 ((rd_T44 l0 x5_1).f0.f0), .bool ((rd_T44 l0 x5_1).f0.f1)] (0, 0) _ rfl (by (with_reducible repeat (first | refine blk_drewN ?_ _ | refine blk_drew ?_ | refine blk_alloc ?_ _)); refine blk_put (cs := #[.int .i64 ((rd_T44 l0 x5_1).f0.f0), .bool false]) ?_ 1 _ rfl; (with_reducible repeat (first | refine blk_drewN ?_ _ | refine blk_drew ?_ | refine blk_alloc ?_ _)); refine blk_put (cs := #[.int .i64 0, .bool false]) ?_ 0 _ rfl; (with_reducible repeat (first | refine blk_drewN ?_ _ | refine blk_drew ?_ | refine blk_alloc ?_ _)); exact BK288.out) Tryd.underlying30 rfl (by kernel_rfl)) rfl ?_
      exact ⟨by first | rfl | (simp [errW_none, errW_some] <;> rfl) | (simp [*, errW_none, errW_some] <;> rfl), bu HB.out⟩
    ·rw [if_neg c5] at H
     exact absurd H (by simp)
   ·rw [if_neg c4] at H
    exact absurd H (by simp)

/-! ### spec_DiscantConcords: function 16 -/
def spec_DiscantConcords.l0 : Nat → List (S44) → List (S44) → List Int → Int → Option (List Int)
 | 0, _, _, _, _ => none
 | k + 1, x0, x1, x5, x6 => (spec_l8Beats.f k x0).bind fun t296 => (if x6 < t296 then ((spec_l8At.f k x0 x6).bind fun bt297 => ((spec_l8At.f k x1 x6).bind fun bt299 => ((spec_l8Concord.f k bt297.1 bt297.2 bt299.1 bt299.2).bind fun t301 => (if t301 = true then (if x5.length < 17592186044416 then (spec_DiscantConcords.l0 k x0 x1 (x5 ++ [x6]) (wrap64 (x6 + 3))) else (none)) else (spec_DiscantConcords.l0 k x0 x1 x5 (wrap64 (x6 + 3))))))) else (some x5))
def spec_DiscantConcords.f (k : Nat) (l0 : List (S44)) (l1 : List (S44)) : Option (List Int) := (some (([] : List Int) : List Int)).bind fun y292 => ((spec_DiscantTogether.f k l0 l1).bind fun t295 => (if t295 = true then (spec_DiscantConcords.l0 k l0 l1 y292 0) else (some y292)))
set_option maxHeartbeats 8000000 in
set_option maxRecDepth 100000 in
theorem spec_DiscantConcords.calls (k : Nat) (A0 : Option Addr) (c0 : Nat) (l0 : List (S44)) (A1 : Option Addr) (c1 : Nat) (l1 : List (S44)) (r : List Int) (w : World) (hr0 : Kd.C k44 w A0 l0.length l0) (hc0 : l0.length ≤ c0) (hr1 : Kd.C k44 w A1 l1.length l1) (hc1 : l1.length ≤ c1) (h : spec_DiscantConcords.f k l0 l1 = some r) :
  Calls Tryd.prog 16 #[.slice A0 l0.length c0, .slice A1 l1.length c1] w fun e w' => ∃ v0_ : Value, e = .returned (v0_) ∧ Kd.R (Kd.int .i64) 3 w' w.heap.size (fun _ => True) v0_ r ∧ Below w.heap.size w w' := by
 have HR0 := am hr0
 have HC0 := am hc0
 clear hr0 hc0
 have HR1 := am hr1
 have HC1 := am hc1
 clear hr1 hc1
 have HB := am (Below.refl w.heap.size w)
 have H : ((some (([] : List Int) : List Int)).bind fun y292 => ((spec_DiscantTogether.f k l0 l1).bind fun t295 => (if t295 = true then (spec_DiscantConcords.l0 k l0 l1 y292 0) else (some y292)))) = some r := h
 clear h
 obtain ⟨y292, hy292⟩ : ∃ y_ : List Int, y_ = (([] : List Int)) := ⟨_, rfl⟩
 replace H : ((spec_DiscantTogether.f k l0 l1).bind fun t295 => (if t295 = true then (spec_DiscantConcords.l0 k l0 l1 y292 0) else (some y292))) = some r := by first | (rw [hy292]; with_reducible exact H) | (have H2_ := (Option.bind_some _ _).symm.trans H; rw [hy292]; with_reducible exact H2_) | (have H2_ := (Option.bind_some _ _).symm.trans H; with_reducible exact H2_) | with_reducible exact H | (rw [hy292]; exact H) | exact H
 have Ny292 := am hy292
 clear hy292
 replace H := Option.bind_eq_some_iff.mp H
 obtain ⟨t295, A30, H⟩ := H
 replace H : (if t295 = true then (spec_DiscantConcords.l0 k l0 l1 y292 0) else (some y292)) = some r := H
 have A3 := am A30
 clear A30
 by_cases c4 : t295 = true
 ·subst c4
  have H1 : (spec_DiscantConcords.l0 k l0 l1 y292 0) = some r := by rw [if_pos rfl] at H; exact H
  clear H
  have H := H1
  clear H1
  have H' := am H
  clear H
  go_enter Tryd.func16, Tryd.ntmps16
  go_wp2_with (first | ((with_reducible refine gate_dst (N := 7) rfl ?_); refine Kd.R_lit (Kd.int .i64) _ 3 ?hg (N := 7) ?hd (xs := ([] : List Int)) (inner := []) (ok := fun _ => True) (okp := fun _ => True) ?hr ?hp (fun _ hk => hk) trivial (Below.refl _ _) (Nat.le_refl _) (by simp) ?_; (case hd => rfl); (case hg => rfl); (case hr => first | (go_simp; done) | (go_simp; rfl)); (case hp => exact (Reps.none _ _)); intro v293 w5 ho6 hb hg_ hnew_; clear hg_ hnew_; (first | rw [← Ny292.out] at ho6 | (simp only [Int.reduceToNat] at ho6; rw [← Ny292.out] at ho6)); have n0_ := am (Kd.R_lower ho6 (below_size (bu HB.out))); have n1_ := am (below_step (bu HB.out) hb); clear HB; have HO294 := n0_; have HB := n1_; clear n0_ n1_; clear hb ho6) | ((with_reducible refine gate_callee (f := 70) rfl ?_); refine goesL_ (some 10) rfl rfl Tryd.func70 (by kernel_rfl) rfl #[.slice A0 l0.length c0, .slice A1 l1.length c1] rfl (by (try simp only [List.map_toArray, List.map_cons, List.map_nil]); first | done | rfl | (simp only [List.length_drop, List.length_take]; rfl)) ?_; (with_reducible refine (spec_DiscantTogether.calls k _ _ l0 _ _ l1 true _ ?side1 ?side2 ?side3 ?side4 A3.out).mono ?_); (case side1 => repeat (first | exact (Kd.C_below HR0.out HB.out) | (with_reducible refine Kd.C_alloc ?_ _) | (with_reducible refine Kd.C_drewN ?_ _) | (with_reducible refine Kd.C_drew ?_))); (case side2 => exact HC0.out); (case side3 => repeat (first | exact (Kd.C_below HR1.out HB.out) | (with_reducible refine Kd.C_alloc ?_ _) | (with_reducible refine Kd.C_drewN ?_ _) | (with_reducible refine Kd.C_drew ?_))); (case side4 => exact HC1.out); rintro e w7 ⟨rfl, hb⟩; refine ⟨_, rfl, ?_⟩; have n0_ := am (Kd.R_below (ru HO294.out) hb); have n1_ := am (below_step (bu HB.out) hb); clear HO294; clear HB; have HO294 := n0_; have HB := n1_; clear n0_ n1_; (try clear hb); (try clear hb2); (try clear hk); (try clear hi)))
  go_loopg [5, 6] k (fun kq v5 v6 w' => ∃ (x5_1 : List Int) (x6_1 : Int), v6 = .int .i64 x6_1 ∧ Aside0 (spec_DiscantConcords.l0 kq l0 l1 x5_1 x6_1 = some r) ∧ Aside0 (kq ≤ k) ∧ Aside0 (Kd.R (Kd.int .i64) 3 w' w.heap.size (fun _ => True) v5 x5_1) ∧ Aside0 (Below w.heap.size w w'))
  case atStart => exact ⟨(y292), (0), (by first | rfl | (simp; done) | (simp [*]; done)), H', ⟨Nat.le_refl _⟩, ⟨ru HO294.out⟩, ⟨bu HB.out⟩⟩
  case round =>
   clear H'
   try clear c1
   try clear p2
   try clear c4
   try clear c7
   obtain ⟨x5_1, x6_1, rfl, HA, HK1, HO_5, HB⟩ := hrel
   cases gk with
   | zero => exact absurd HA.out (by simp [spec_DiscantConcords.l0])
   | succ k1 =>
    have H := HA.out
    clear HA
    simp only [spec_DiscantConcords.l0] at H
    replace H := Option.bind_eq_some_iff.mp H
    obtain ⟨t296, A80, H⟩ := H
    replace H : (if x6_1 < t296 then ((spec_l8At.f k1 l0 x6_1).bind fun bt297 => ((spec_l8At.f k1 l1 x6_1).bind fun bt299 => ((spec_l8Concord.f k1 bt297.1 bt297.2 bt299.1 bt299.2).bind fun t301 => (if t301 = true then (if x5_1.length < 17592186044416 then (spec_DiscantConcords.l0 k1 l0 l1 (x5_1 ++ [x6_1]) (wrap64 (x6_1 + 3))) else (none)) else (spec_DiscantConcords.l0 k1 l0 l1 x5_1 (wrap64 (x6_1 + 3))))))) else (some x5_1)) = some r := H
    have A8 := am A80
    clear A80
    by_cases c9 : x6_1 < t296
    ·rw [if_pos c9] at H
     have c9b0 : decide (x6_1 < t296) = true := decide_eq_true c9
     clear c9
     replace H := Option.bind_eq_some_iff.mp H
     obtain ⟨⟨t297, t298⟩, A100, H⟩ := H
     replace H : ((spec_l8At.f k1 l1 x6_1).bind fun bt299 => ((spec_l8Concord.f k1 t297 t298 bt299.1 bt299.2).bind fun t301 => (if t301 = true then (if x5_1.length < 17592186044416 then (spec_DiscantConcords.l0 k1 l0 l1 (x5_1 ++ [x6_1]) (wrap64 (x6_1 + 3))) else (none)) else (spec_DiscantConcords.l0 k1 l0 l1 x5_1 (wrap64 (x6_1 + 3)))))) = some r := H
     have A10 := am A100
     clear A100
     replace H := Option.bind_eq_some_iff.mp H
     obtain ⟨⟨t299, t300⟩, A110, H⟩ := H
     replace H : ((spec_l8Concord.f k1 t297 t298 t299 t300).bind fun t301 => (if t301 = true then (if x5_1.length < 17592186044416 then (spec_DiscantConcords.l0 k1 l0 l1 (x5_1 ++ [x6_1]) (wrap64 (x6_1 + 3))) else (none)) else (spec_DiscantConcords.l0 k1 l0 l1 x5_1 (wrap64 (x6_1 + 3))))) = some r := H
     have A11 := am A110
     clear A110
     replace H := Option.bind_eq_some_iff.mp H
     obtain ⟨t301, A120, H⟩ := H
     replace H : (if t301 = true then (if x5_1.length < 17592186044416 then (spec_DiscantConcords.l0 k1 l0 l1 (x5_1 ++ [x6_1]) (wrap64 (x6_1 + 3))) else (none)) else (spec_DiscantConcords.l0 k1 l0 l1 x5_1 (wrap64 (x6_1 + 3)))) = some r := H
     have A12 := am A120
     clear A120
     by_cases c13 : t301 = true
     ·subst c13
      have H1 : (if x5_1.length < 17592186044416 then (spec_DiscantConcords.l0 k1 l0 l1 (x5_1 ++ [x6_1]) (wrap64 (x6_1 + 3))) else (none)) = some r := by rw [if_pos rfl] at H; exact H
      clear H
      have H := H1
      clear H1
      by_cases c14 : x5_1.length < 17592186044416
      ·rw [if_pos c14] at H
       have LMc14 := am c14
       clear c14
       obtain ⟨y302, hy302⟩ : ∃ y_ : List Int, y_ = (x5_1 ++ [x6_1]) := ⟨_, rfl⟩
       replace H : (spec_DiscantConcords.l0 k1 l0 l1 y302 (wrap64 (x6_1 + 3))) = some r := by first | (rw [hy302]; with_reducible exact H) | (have H2_ := (Option.bind_some _ _).symm.trans H; rw [hy302]; with_reducible exact H2_) | (have H2_ := (Option.bind_some _ _).symm.trans H; with_reducible exact H2_) | with_reducible exact H | (rw [hy302]; exact H) | exact H
       have Ny302 := am hy302
       clear hy302
       have H' := am H
       clear H
       go_wp2_with (first | ((with_reducible refine gate_callee (f := 71) rfl ?_); refine goesL_ (some 15) rfl rfl Tryd.func71 (by kernel_rfl) rfl #[.slice A0 l0.length c0] rfl (by (try simp only [List.map_toArray, List.map_cons, List.map_nil]); first | done | rfl | (simp only [List.length_drop, List.length_take]; rfl)) ?_; (with_reducible refine (spec_l8Beats.calls k1 _ _ l0 t296 _ ?side1 ?side2 A8.out).mono ?_); (case side1 => repeat (first | exact (Kd.C_below HR0.out HB.out) | (with_reducible refine Kd.C_alloc ?_ _) | (with_reducible refine Kd.C_drewN ?_ _) | (with_reducible refine Kd.C_drew ?_))); (case side2 => exact HC0.out); rintro e w' ⟨rfl, ⟨nd, rfl⟩⟩; refine ⟨_, rfl, ?_⟩) | ((with_reducible refine gate_callee (f := 73) rfl ?_); refine goesL_ (some 21) rfl rfl Tryd.func73 (by kernel_rfl) rfl #[.slice A0 l0.length c0, .int .i64 x6_1] rfl (by (try simp only [List.map_toArray, List.map_cons, List.map_nil]); first | done | rfl | (simp only [List.length_drop, List.length_take]; rfl)) ?_; (with_reducible refine (spec_l8At.calls k1 _ _ l0 x6_1 t297 t298 _ ?side1 ?side2 A10.out).mono ?_); (case side1 => repeat (first | exact (Kd.C_below HR0.out (bu HB.out)) | (with_reducible refine Kd.C_alloc ?_ _) | (with_reducible refine Kd.C_drewN ?_ _) | (with_reducible refine Kd.C_drew ?_))); (case side2 => exact HC0.out); rintro e w15 ⟨rfl, hb⟩; refine ⟨_, rfl, ?_⟩; have n0_ := am (Kd.R_below (ru HO_5.out) hb); have n1_ := am (below_step (bu HB.out) hb); clear HO_5; clear HB; have HO_5 := n0_; have HB := n1_; clear n0_ n1_; (try clear hb); (try clear hb2); (try clear hk); (try clear hi)) | ((with_reducible refine gate_callee (f := 73) rfl ?_); refine goesL_ (some 24) rfl rfl Tryd.func73 (by kernel_rfl) rfl #[.slice A1 l1.length c1, .int .i64 x6_1] rfl (by (try simp only [List.map_toArray, List.map_cons, List.map_nil]); first | done | rfl | (simp only [List.length_drop, List.length_take]; rfl)) ?_; (with_reducible refine (spec_l8At.calls k1 _ _ l1 x6_1 t299 t300 _ ?side1 ?side2 A11.out).mono ?_); (case side1 => repeat (first | exact (Kd.C_below HR1.out HB.out) | (with_reducible refine Kd.C_alloc ?_ _) | (with_reducible refine Kd.C_drewN ?_ _) | (with_reducible refine Kd.C_drew ?_))); (case side2 => exact HC1.out); rintro e w16 ⟨rfl, hb⟩; refine ⟨_, rfl, ?_⟩; have n0_ := am (Kd.R_below (ru HO_5.out) hb); have n1_ := am (below_step (bu HB.out) hb); clear HO_5; clear HB; have HO_5 := n0_; have HB := n1_; clear n0_ n1_; (try clear hb); (try clear hb2); (try clear hk); (try clear hi)) | ((with_reducible refine gate_callee (f := 72) rfl ?_); refine goesL_ (some 25) rfl rfl Tryd.func72 (by kernel_rfl) rfl #[.agg #[.int .i64 t297, .bool t298], .agg #[.int .i64 t299, .bool t300]] rfl (by (try simp only [List.map_toArray, List.map_cons, List.map_nil]); first | done | rfl | (simp only [List.length_drop, List.length_take]; rfl)) ?_; (with_reducible refine (spec_l8Concord.calls k1 t297 t298 t299 t300 true _ A12.out).mono ?_); rintro e w17 ⟨rfl, hb⟩; refine ⟨_, rfl, ?_⟩; have n0_ := am (Kd.R_below (ru HO_5.out) hb); have n1_ := am (below_step (bu HB.out) hb); clear HO_5; clear HB; have HO_5 := n0_; have HB := n1_; clear n0_ n1_; (try clear hb); (try clear hb2); (try clear hk); (try clear hi)) | ((with_reducible refine gate_builtin (b := .append) (xs := #[.tmp 26, .tmp 28]) rfl ?_); at_builtin; refine Kd.R_append (Kd.int .i64) (w0 := w) w.heap.size rfl (.tmp 26) (.tmp 28) 26 3 (.int .i64 0) 8 rfl Tryd.underlying26 info3 rfl (by decide) (by omega) u5 x5_1 x6_1 [.int .i64 x6_1] (fun _ => True) (fun _ => False) rfl rfl ?aP (fun _ hk => hk.elim) ?aF ?aO ?aB ?aS ?aL ?_; (case aP => exact rfl); (case aB => exact (bu HB.out)); (case aF => exact (fun _ _ => trivial)); (case aO => exact (ru HO_5.out)); (case aS => exact (below_size (bu HB.out))); (case aL => have := LMc14.out; omega); intro v303 w18 ho hb hg hat; rw [← Ny302.out] at ho; have n0_ := am (hb); have n1_ := am (ho); clear HB; clear HO_5; have HB := n0_; have HO304 := n1_; clear n0_ n1_; clear ho hb hg hat))
       go_roundg k1
       case measure => have := HK1.out; omega
       case rel => exact ⟨(y302), (wrap64 (x6_1 + 3)), (by first | rfl | (simp; done) | (simp [*]; done)), H', ⟨by have := HK1.out; omega⟩, ⟨ru HO304.out⟩, ⟨bu HB.out⟩⟩
      ·rw [if_neg c14] at H
       exact absurd H (by simp)
     ·replace c13 := Bool.eq_false_iff.mpr c13
      subst c13
      have H1 : (spec_DiscantConcords.l0 k1 l0 l1 x5_1 (wrap64 (x6_1 + 3))) = some r := by rw [if_neg (show ¬ (false = true) by decide)] at H; exact H
      clear H
      have H := H1
      clear H1
      have H' := am H
      clear H
      go_wp2_with (first | ((with_reducible refine gate_callee (f := 71) rfl ?_); refine goesL_ (some 15) rfl rfl Tryd.func71 (by kernel_rfl) rfl #[.slice A0 l0.length c0] rfl (by (try simp only [List.map_toArray, List.map_cons, List.map_nil]); first | done | rfl | (simp only [List.length_drop, List.length_take]; rfl)) ?_; (with_reducible refine (spec_l8Beats.calls k1 _ _ l0 t296 _ ?side1 ?side2 A8.out).mono ?_); (case side1 => repeat (first | exact (Kd.C_below HR0.out HB.out) | (with_reducible refine Kd.C_alloc ?_ _) | (with_reducible refine Kd.C_drewN ?_ _) | (with_reducible refine Kd.C_drew ?_))); (case side2 => exact HC0.out); rintro e w' ⟨rfl, ⟨nd, rfl⟩⟩; refine ⟨_, rfl, ?_⟩) | ((with_reducible refine gate_callee (f := 73) rfl ?_); refine goesL_ (some 21) rfl rfl Tryd.func73 (by kernel_rfl) rfl #[.slice A0 l0.length c0, .int .i64 x6_1] rfl (by (try simp only [List.map_toArray, List.map_cons, List.map_nil]); first | done | rfl | (simp only [List.length_drop, List.length_take]; rfl)) ?_; (with_reducible refine (spec_l8At.calls k1 _ _ l0 x6_1 t297 t298 _ ?side1 ?side2 A10.out).mono ?_); (case side1 => repeat (first | exact (Kd.C_below HR0.out (bu HB.out)) | (with_reducible refine Kd.C_alloc ?_ _) | (with_reducible refine Kd.C_drewN ?_ _) | (with_reducible refine Kd.C_drew ?_))); (case side2 => exact HC0.out); rintro e w19 ⟨rfl, hb⟩; refine ⟨_, rfl, ?_⟩; have n0_ := am (Kd.R_below (ru HO_5.out) hb); have n1_ := am (below_step (bu HB.out) hb); clear HO_5; clear HB; have HO_5 := n0_; have HB := n1_; clear n0_ n1_; (try clear hb); (try clear hb2); (try clear hk); (try clear hi)) | ((with_reducible refine gate_callee (f := 73) rfl ?_); refine goesL_ (some 24) rfl rfl Tryd.func73 (by kernel_rfl) rfl #[.slice A1 l1.length c1, .int .i64 x6_1] rfl (by (try simp only [List.map_toArray, List.map_cons, List.map_nil]); first | done | rfl | (simp only [List.length_drop, List.length_take]; rfl)) ?_; (with_reducible refine (spec_l8At.calls k1 _ _ l1 x6_1 t299 t300 _ ?side1 ?side2 A11.out).mono ?_); (case side1 => repeat (first | exact (Kd.C_below HR1.out HB.out) | (with_reducible refine Kd.C_alloc ?_ _) | (with_reducible refine Kd.C_drewN ?_ _) | (with_reducible refine Kd.C_drew ?_))); (case side2 => exact HC1.out); rintro e w20 ⟨rfl, hb⟩; refine ⟨_, rfl, ?_⟩; have n0_ := am (Kd.R_below (ru HO_5.out) hb); have n1_ := am (below_step (bu HB.out) hb); clear HO_5; clear HB; have HO_5 := n0_; have HB := n1_; clear n0_ n1_; (try clear hb); (try clear hb2); (try clear hk); (try clear hi)) | ((with_reducible refine gate_callee (f := 72) rfl ?_); refine goesL_ (some 25) rfl rfl Tryd.func72 (by kernel_rfl) rfl #[.agg #[.int .i64 t297, .bool t298], .agg #[.int .i64 t299, .bool t300]] rfl (by (try simp only [List.map_toArray, List.map_cons, List.map_nil]); first | done | rfl | (simp only [List.length_drop, List.length_take]; rfl)) ?_; (with_reducible refine (spec_l8Concord.calls k1 t297 t298 t299 t300 false _ A12.out).mono ?_); rintro e w21 ⟨rfl, hb⟩; refine ⟨_, rfl, ?_⟩; have n0_ := am (Kd.R_below (ru HO_5.out) hb); have n1_ := am (below_step (bu HB.out) hb); clear HO_5; clear HB; have HO_5 := n0_; have HB := n1_; clear n0_ n1_; (try clear hb); (try clear hb2); (try clear hk); (try clear hi)))
      go_roundg k1
      case measure => have := HK1.out; omega
      case rel => exact ⟨(x5_1), (wrap64 (x6_1 + 3)), (by first | rfl | (simp; done) | (simp [*]; done)), H', ⟨by have := HK1.out; omega⟩, ⟨ru HO_5.out⟩, ⟨bu HB.out⟩⟩
    ·rw [if_neg c9] at H
     have c9b0 : decide (x6_1 < t296) = false := decide_eq_false c9
     clear c9
     obtain rfl := Option.some.inj H
     go_wp2_with (first | ((with_reducible refine gate_callee (f := 71) rfl ?_); refine goesL_ (some 15) rfl rfl Tryd.func71 (by kernel_rfl) rfl #[.slice A0 l0.length c0] rfl (by (try simp only [List.map_toArray, List.map_cons, List.map_nil]); first | done | rfl | (simp only [List.length_drop, List.length_take]; rfl)) ?_; (with_reducible refine (spec_l8Beats.calls k1 _ _ l0 t296 _ ?side1 ?side2 A8.out).mono ?_); (case side1 => repeat (first | exact (Kd.C_below HR0.out HB.out) | (with_reducible refine Kd.C_alloc ?_ _) | (with_reducible refine Kd.C_drewN ?_ _) | (with_reducible refine Kd.C_drew ?_))); (case side2 => exact HC0.out); rintro e w' ⟨rfl, ⟨nd, rfl⟩⟩; refine ⟨_, rfl, ?_⟩))
     go_ret
     exact ⟨_, by first | rfl | (simp [errW_none, errW_some] <;> rfl) | (simp [*, errW_none, errW_some] <;> rfl), ru HO_5.out, bu HB.out⟩
 ·replace c4 := Bool.eq_false_iff.mpr c4
  subst c4
  have H1 : (some y292) = some r := by rw [if_neg (show ¬ (false = true) by decide)] at H; exact H
  clear H
  have H := H1
  clear H1
  obtain rfl := Option.some.inj H
  go_enter Tryd.func16, Tryd.ntmps16
  go_wp2_with (first | ((with_reducible refine gate_dst (N := 7) rfl ?_); refine Kd.R_lit (Kd.int .i64) _ 3 ?hg (N := 7) ?hd (xs := ([] : List Int)) (inner := []) (ok := fun _ => True) (okp := fun _ => True) ?hr ?hp (fun _ hk => hk) trivial (Below.refl _ _) (Nat.le_refl _) (by simp) ?_; (case hd => rfl); (case hg => rfl); (case hr => first | (go_simp; done) | (go_simp; rfl)); (case hp => exact (Reps.none _ _)); intro v293 w22 ho23 hb hg_ hnew_; clear hg_ hnew_; (first | rw [← Ny292.out] at ho23 | (simp only [Int.reduceToNat] at ho23; rw [← Ny292.out] at ho23)); have n0_ := am (Kd.R_lower ho23 (below_size (bu HB.out))); have n1_ := am (below_step (bu HB.out) hb); clear HB; have HO294 := n0_; have HB := n1_; clear n0_ n1_; clear hb ho23) | ((with_reducible refine gate_callee (f := 70) rfl ?_); refine goesL_ (some 10) rfl rfl Tryd.func70 (by kernel_rfl) rfl #[.slice A0 l0.length c0, .slice A1 l1.length c1] rfl (by (try simp only [List.map_toArray, List.map_cons, List.map_nil]); first | done | rfl | (simp only [List.length_drop, List.length_take]; rfl)) ?_; (with_reducible refine (spec_DiscantTogether.calls k _ _ l0 _ _ l1 false _ ?side1 ?side2 ?side3 ?side4 A3.out).mono ?_); (case side1 => repeat (first | exact (Kd.C_below HR0.out HB.out) | (with_reducible refine Kd.C_alloc ?_ _) | (with_reducible refine Kd.C_drewN ?_ _) | (with_reducible refine Kd.C_drew ?_))); (case side2 => exact HC0.out); (case side3 => repeat (first | exact (Kd.C_below HR1.out HB.out) | (with_reducible refine Kd.C_alloc ?_ _) | (with_reducible refine Kd.C_drewN ?_ _) | (with_reducible refine Kd.C_drew ?_))); (case side4 => exact HC1.out); rintro e w24 ⟨rfl, hb⟩; refine ⟨_, rfl, ?_⟩; have n0_ := am (Kd.R_below (ru HO294.out) hb); have n1_ := am (below_step (bu HB.out) hb); clear HO294; clear HB; have HO294 := n0_; have HB := n1_; clear n0_ n1_; (try clear hb); (try clear hb2); (try clear hk); (try clear hi)))
  go_ret
  exact ⟨_, by first | rfl | (simp [errW_none, errW_some] <;> rfl) | (simp [*, errW_none, errW_some] <;> rfl), ru HO294.out, bu HB.out⟩

/-! ### spec_DiscantOk: function 34 -/
def spec_DiscantOk.f (k : Nat) (l0 : List (S44)) (l1 : List (S44)) : Option (Bool) := (spec_DiscantTogether.f k l0 l1).bind fun t305 => (if t305 = true then ((spec_l8Beats.f k l0).bind fun t306 => (if t306 = 0 then (some true) else ((spec_DiscantConcords.f k l0 l1).bind fun t307 => (if (t307.length : Int) = (wrap64 (Int.tdiv (wrap64 (t306 + 2)) 3)) then ((spec_l8At.f k l0 (wrap64 (t306 - 1))).bind fun bt310 => ((spec_l8At.f k l1 (wrap64 (t306 - 1))).bind fun bt312 => ((spec_l8Concord.f k bt310.1 bt310.2 bt312.1 bt312.2).bind fun t314 => (some t314)))) else (some false))))) else (some false))
set_option maxHeartbeats 8000000 in
set_option maxRecDepth 100000 in
theorem spec_DiscantOk.calls (k : Nat) (A0 : Option Addr) (c0 : Nat) (l0 : List (S44)) (A1 : Option Addr) (c1 : Nat) (l1 : List (S44)) (r : Bool) (w : World) (hr0 : Kd.C k44 w A0 l0.length l0) (hc0 : l0.length ≤ c0) (hr1 : Kd.C k44 w A1 l1.length l1) (hc1 : l1.length ≤ c1) (h : spec_DiscantOk.f k l0 l1 = some r) :
  Calls Tryd.prog 34 #[.slice A0 l0.length c0, .slice A1 l1.length c1] w fun e w' => e = .returned (.bool r) ∧ Below w.heap.size w w' := by
 have HR0 := am hr0
 have HC0 := am hc0
 clear hr0 hc0
 have HR1 := am hr1
 have HC1 := am hc1
 clear hr1 hc1
 have HB := am (Below.refl w.heap.size w)
 have H : ((spec_DiscantTogether.f k l0 l1).bind fun t305 => (if t305 = true then ((spec_l8Beats.f k l0).bind fun t306 => (if t306 = 0 then (some true) else ((spec_DiscantConcords.f k l0 l1).bind fun t307 => (if (t307.length : Int) = (wrap64 (Int.tdiv (wrap64 (t306 + 2)) 3)) then ((spec_l8At.f k l0 (wrap64 (t306 - 1))).bind fun bt310 => ((spec_l8At.f k l1 (wrap64 (t306 - 1))).bind fun bt312 => ((spec_l8Concord.f k bt310.1 bt310.2 bt312.1 bt312.2).bind fun t314 => (some t314)))) else (some false))))) else (some false))) = some r := h
 clear h
 replace H := Option.bind_eq_some_iff.mp H
 obtain ⟨t305, A30, H⟩ := H
 replace H : (if t305 = true then ((spec_l8Beats.f k l0).bind fun t306 => (if t306 = 0 then (some true) else ((spec_DiscantConcords.f k l0 l1).bind fun t307 => (if (t307.length : Int) = (wrap64 (Int.tdiv (wrap64 (t306 + 2)) 3)) then ((spec_l8At.f k l0 (wrap64 (t306 - 1))).bind fun bt310 => ((spec_l8At.f k l1 (wrap64 (t306 - 1))).bind fun bt312 => ((spec_l8Concord.f k bt310.1 bt310.2 bt312.1 bt312.2).bind fun t314 => (some t314)))) else (some false))))) else (some false)) = some r := H
 have A3 := am A30
 clear A30
 by_cases c4 : t305 = true
 ·subst c4
  have H1 : ((spec_l8Beats.f k l0).bind fun t306 => (if t306 = 0 then (some true) else ((spec_DiscantConcords.f k l0 l1).bind fun t307 => (if (t307.length : Int) = (wrap64 (Int.tdiv (wrap64 (t306 + 2)) 3)) then ((spec_l8At.f k l0 (wrap64 (t306 - 1))).bind fun bt310 => ((spec_l8At.f k l1 (wrap64 (t306 - 1))).bind fun bt312 => ((spec_l8Concord.f k bt310.1 bt310.2 bt312.1 bt312.2).bind fun t314 => (some t314)))) else (some false))))) = some r := by rw [if_pos rfl] at H; exact H
  clear H
  have H := H1
  clear H1
  replace H := Option.bind_eq_some_iff.mp H
  obtain ⟨t306, A50, H⟩ := H
  replace H : (if t306 = 0 then (some true) else ((spec_DiscantConcords.f k l0 l1).bind fun t307 => (if (t307.length : Int) = (wrap64 (Int.tdiv (wrap64 (t306 + 2)) 3)) then ((spec_l8At.f k l0 (wrap64 (t306 - 1))).bind fun bt310 => ((spec_l8At.f k l1 (wrap64 (t306 - 1))).bind fun bt312 => ((spec_l8Concord.f k bt310.1 bt310.2 bt312.1 bt312.2).bind fun t314 => (some t314)))) else (some false)))) = some r := H
  have A5 := am A50
  clear A50
  by_cases c6 : t306 = 0
  ·rw [if_pos c6] at H
   have c6b0 : (t306 == 0) = true := beq_iff_eq.mpr c6
   have c6b1 : (t306 != 0) = false := bne_eq_false_iff_eq.mpr c6
   clear c6
   obtain rfl := Option.some.inj H
   go_enter Tryd.func34, Tryd.ntmps34
   go_wp2_with (first | ((with_reducible refine gate_callee (f := 70) rfl ?_); refine goesL_ (some 8) rfl rfl Tryd.func70 (by kernel_rfl) rfl #[.slice A0 l0.length c0, .slice A1 l1.length c1] rfl (by (try simp only [List.map_toArray, List.map_cons, List.map_nil]); first | done | rfl | (simp only [List.length_drop, List.length_take]; rfl)) ?_; (with_reducible refine (spec_DiscantTogether.calls k _ _ l0 _ _ l1 true _ ?side1 ?side2 ?side3 ?side4 A3.out).mono ?_); (case side1 => exact cu HR0.out); (case side2 => exact HC0.out); (case side3 => exact cu HR1.out); (case side4 => exact HC1.out); rintro e w7 ⟨rfl, hb⟩; refine ⟨_, rfl, ?_⟩; have n0_ := am (below_step (bu HB.out) hb); clear HB; have HB := n0_; clear n0_; (try clear hb); (try clear hb2); (try clear hk); (try clear hi)) | ((with_reducible refine gate_callee (f := 71) rfl ?_); refine goesL_ (some 11) rfl rfl Tryd.func71 (by kernel_rfl) rfl #[.slice A0 l0.length c0] rfl (by (try simp only [List.map_toArray, List.map_cons, List.map_nil]); first | done | rfl | (simp only [List.length_drop, List.length_take]; rfl)) ?_; (with_reducible refine (spec_l8Beats.calls k _ _ l0 t306 _ ?side1 ?side2 A5.out).mono ?_); (case side1 => repeat (first | exact (Kd.C_below HR0.out HB.out) | (with_reducible refine Kd.C_alloc ?_ _) | (with_reducible refine Kd.C_drewN ?_ _) | (with_reducible refine Kd.C_drew ?_))); (case side2 => exact HC0.out); rintro e w' ⟨rfl, ⟨nd, rfl⟩⟩; refine ⟨_, rfl, ?_⟩))
   go_ret
   exact ⟨by first | rfl | (simp [errW_none, errW_some] <;> rfl) | (simp [*, errW_none, errW_some] <;> rfl), bu HB.out⟩
  ·rw [if_neg c6] at H
   have c6b0 : (t306 == 0) = false := beq_eq_false_iff_ne.mpr c6
   have c6b1 : (t306 != 0) = true := bne_iff_ne.mpr c6
   replace H := Option.bind_eq_some_iff.mp H
   obtain ⟨t307, A80, H⟩ := H
   replace H : (if (t307.length : Int) = (wrap64 (Int.tdiv (wrap64 (t306 + 2)) 3)) then ((spec_l8At.f k l0 (wrap64 (t306 - 1))).bind fun bt310 => ((spec_l8At.f k l1 (wrap64 (t306 - 1))).bind fun bt312 => ((spec_l8Concord.f k bt310.1 bt310.2 bt312.1 bt312.2).bind fun t314 => (some t314)))) else (some false)) = some r := H
   have A8 := am A80
   clear A80
   by_cases c9 : (t307.length : Int) = (wrap64 (Int.tdiv (wrap64 (t306 + 2)) 3))
   ·rw [if_pos c9] at H
    have c9b0 : ((t307.length : Int) == (wrap64 (Int.tdiv (wrap64 (t306 + 2)) 3))) = true := beq_iff_eq.mpr c9
    have c9b1 : ((t307.length : Int) != (wrap64 (Int.tdiv (wrap64 (t306 + 2)) 3))) = false := bne_eq_false_iff_eq.mpr c9
    clear c9
    replace H := Option.bind_eq_some_iff.mp H
    obtain ⟨⟨t310, t311⟩, A100, H⟩ := H
    replace H : ((spec_l8At.f k l1 (wrap64 (t306 - 1))).bind fun bt312 => ((spec_l8Concord.f k t310 t311 bt312.1 bt312.2).bind fun t314 => (some t314))) = some r := H
    have A10 := am A100
    clear A100
    replace H := Option.bind_eq_some_iff.mp H
    obtain ⟨⟨t312, t313⟩, A110, H⟩ := H
    replace H : ((spec_l8Concord.f k t310 t311 t312 t313).bind fun t314 => (some t314)) = some r := H
    have A11 := am A110
    clear A110
    replace H := Option.bind_eq_some_iff.mp H
    obtain ⟨t314, A120, H⟩ := H
    replace H : (some t314) = some r := H
    have A12 := am A120
    clear A120
    obtain rfl := Option.some.inj H
    go_enter Tryd.func34, Tryd.ntmps34
    go_wp2_with (first | ((with_reducible refine gate_callee (f := 70) rfl ?_); refine goesL_ (some 8) rfl rfl Tryd.func70 (by kernel_rfl) rfl #[.slice A0 l0.length c0, .slice A1 l1.length c1] rfl (by (try simp only [List.map_toArray, List.map_cons, List.map_nil]); first | done | rfl | (simp only [List.length_drop, List.length_take]; rfl)) ?_; (with_reducible refine (spec_DiscantTogether.calls k _ _ l0 _ _ l1 true _ ?side1 ?side2 ?side3 ?side4 A3.out).mono ?_); (case side1 => exact cu HR0.out); (case side2 => exact HC0.out); (case side3 => exact cu HR1.out); (case side4 => exact HC1.out); rintro e w13 ⟨rfl, hb⟩; refine ⟨_, rfl, ?_⟩; have n0_ := am (below_step (bu HB.out) hb); clear HB; have HB := n0_; clear n0_; (try clear hb); (try clear hb2); (try clear hk); (try clear hi)) | ((with_reducible refine gate_callee (f := 71) rfl ?_); refine goesL_ (some 11) rfl rfl Tryd.func71 (by kernel_rfl) rfl #[.slice A0 l0.length c0] rfl (by (try simp only [List.map_toArray, List.map_cons, List.map_nil]); first | done | rfl | (simp only [List.length_drop, List.length_take]; rfl)) ?_; (with_reducible refine (spec_l8Beats.calls k _ _ l0 t306 _ ?side1 ?side2 A5.out).mono ?_); (case side1 => repeat (first | exact (Kd.C_below HR0.out HB.out) | (with_reducible refine Kd.C_alloc ?_ _) | (with_reducible refine Kd.C_drewN ?_ _) | (with_reducible refine Kd.C_drew ?_))); (case side2 => exact HC0.out); rintro e w' ⟨rfl, ⟨nd, rfl⟩⟩; refine ⟨_, rfl, ?_⟩) | ((with_reducible refine gate_callee (f := 16) rfl ?_); refine goesL_ (some 16) rfl rfl Tryd.func16 (by kernel_rfl) rfl #[.slice A0 l0.length c0, .slice A1 l1.length c1] rfl (by (try simp only [List.map_toArray, List.map_cons, List.map_nil]); first | done | rfl | (simp only [List.length_drop, List.length_take]; rfl)) ?_; (with_reducible refine (spec_DiscantConcords.calls k _ _ l0 _ _ l1 t307 _ ?side1 ?side2 ?side3 ?side4 A8.out).mono ?_); (case side1 => repeat (first | exact (Kd.C_below HR0.out (bu HB.out)) | (with_reducible refine Kd.C_alloc ?_ _) | (with_reducible refine Kd.C_drewN ?_ _) | (with_reducible refine Kd.C_drew ?_))); (case side2 => exact HC0.out); (case side3 => repeat (first | exact (Kd.C_below HR1.out (bu HB.out)) | (with_reducible refine Kd.C_alloc ?_ _) | (with_reducible refine Kd.C_drewN ?_ _) | (with_reducible refine Kd.C_drew ?_))); (case side4 => exact HC1.out); rintro e w14 ⟨v308, rfl, ho0, hb⟩; refine ⟨_, rfl, ?_⟩; have n0_ := am (Kd.R_lower ho0 (below_size (bu HB.out))); have n1_ := am (below_step (bu HB.out) hb); clear HB; have HO309 := n0_; have HB := n1_; clear n0_ n1_; (try clear hb); (try clear hb2); (try clear hk); (try clear hi); (try clear ho0); obtain ⟨Ao15, co15, eo15⟩ := Kd.R_slice HO309.out; subst eo15) | (go_at_call 73; (with_reducible refine (spec_l8At.calls k _ _ l0 (wrap64 (t306 - 1)) t310 t311 _ ?side1 ?side2 A10.out).mono ?_); (case side1 => repeat (first | exact (Kd.C_below HR0.out HB.out) | (with_reducible refine Kd.C_alloc ?_ _) | (with_reducible refine Kd.C_drewN ?_ _) | (with_reducible refine Kd.C_drew ?_))); (case side2 => exact HC0.out); rintro e w16 ⟨rfl, hb⟩; have n0_ := am (Kd.R_below (ru HO309.out) hb); have n1_ := am (below_step (bu HB.out) hb); clear HO309; clear HB; have HO309 := n0_; have HB := n1_; clear n0_ n1_; (try clear hb); (try clear hb2); (try clear hk); (try clear hi)) | (go_at_call 73; (with_reducible refine (spec_l8At.calls k _ _ l1 (wrap64 (t306 - 1)) t312 t313 _ ?side1 ?side2 A11.out).mono ?_); (case side1 => repeat (first | exact (Kd.C_below HR1.out HB.out) | (with_reducible refine Kd.C_alloc ?_ _) | (with_reducible refine Kd.C_drewN ?_ _) | (with_reducible refine Kd.C_drew ?_))); (case side2 => exact HC1.out); rintro e w17 ⟨rfl, hb⟩; have n0_ := am (Kd.R_below (ru HO309.out) hb); have n1_ := am (below_step (bu HB.out) hb); clear HO309; clear HB; have HO309 := n0_; have HB := n1_; clear n0_ n1_; (try clear hb); (try clear hb2); (try clear hk); (try clear hi)) | (go_at_call 72; (with_reducible refine (spec_l8Concord.calls k t310 t311 t312 t313 t314 _ A12.out).mono ?_); rintro e w18 ⟨rfl, hb⟩; have n0_ := am (Kd.R_below (ru HO309.out) hb); have n1_ := am (below_step (bu HB.out) hb); clear HO309; clear HB; have HO309 := n0_; have HB := n1_; clear n0_ n1_; (try clear hb); (try clear hb2); (try clear hk); (try clear hi)))
    go_ret
    exact ⟨by first | rfl | (simp [errW_none, errW_some] <;> rfl) | (simp [*, errW_none, errW_some] <;> rfl), bu HB.out⟩
   ·rw [if_neg c9] at H
    have c9b0 : ((t307.length : Int) == (wrap64 (Int.tdiv (wrap64 (t306 + 2)) 3))) = false := beq_eq_false_iff_ne.mpr c9
    have c9b1 : ((t307.length : Int) != (wrap64 (Int.tdiv (wrap64 (t306 + 2)) 3))) = true := bne_iff_ne.mpr c9
    obtain rfl := Option.some.inj H
    go_enter Tryd.func34, Tryd.ntmps34
    go_wp2_with (first | ((with_reducible refine gate_callee (f := 70) rfl ?_); refine goesL_ (some 8) rfl rfl Tryd.func70 (by kernel_rfl) rfl #[.slice A0 l0.length c0, .slice A1 l1.length c1] rfl (by (try simp only [List.map_toArray, List.map_cons, List.map_nil]); first | done | rfl | (simp only [List.length_drop, List.length_take]; rfl)) ?_; (with_reducible refine (spec_DiscantTogether.calls k _ _ l0 _ _ l1 true _ ?side1 ?side2 ?side3 ?side4 A3.out).mono ?_); (case side1 => exact cu HR0.out); (case side2 => exact HC0.out); (case side3 => exact cu HR1.out); (case side4 => exact HC1.out); rintro e w19 ⟨rfl, hb⟩; refine ⟨_, rfl, ?_⟩; have n0_ := am (below_step (bu HB.out) hb); clear HB; have HB := n0_; clear n0_; (try clear hb); (try clear hb2); (try clear hk); (try clear hi)) | ((with_reducible refine gate_callee (f := 71) rfl ?_); refine goesL_ (some 11) rfl rfl Tryd.func71 (by kernel_rfl) rfl #[.slice A0 l0.length c0] rfl (by (try simp only [List.map_toArray, List.map_cons, List.map_nil]); first | done | rfl | (simp only [List.length_drop, List.length_take]; rfl)) ?_; (with_reducible refine (spec_l8Beats.calls k _ _ l0 t306 _ ?side1 ?side2 A5.out).mono ?_); (case side1 => repeat (first | exact (Kd.C_below HR0.out HB.out) | (with_reducible refine Kd.C_alloc ?_ _) | (with_reducible refine Kd.C_drewN ?_ _) | (with_reducible refine Kd.C_drew ?_))); (case side2 => exact HC0.out); rintro e w' ⟨rfl, ⟨nd, rfl⟩⟩; refine ⟨_, rfl, ?_⟩) | ((with_reducible refine gate_callee (f := 16) rfl ?_); refine goesL_ (some 16) rfl rfl Tryd.func16 (by kernel_rfl) rfl #[.slice A0 l0.length c0, .slice A1 l1.length c1] rfl (by (try simp only [List.map_toArray, List.map_cons, List.map_nil]); first | done | rfl | (simp only [List.length_drop, List.length_take]; rfl)) ?_; (with_reducible refine (spec_DiscantConcords.calls k _ _ l0 _ _ l1 t307 _ ?side1 ?side2 ?side3 ?side4 A8.out).mono ?_); (case side1 => repeat (first | exact (Kd.C_below HR0.out (bu HB.out)) | (with_reducible refine Kd.C_alloc ?_ _) | (with_reducible refine Kd.C_drewN ?_ _) | (with_reducible refine Kd.C_drew ?_))); (case side2 => exact HC0.out); (case side3 => repeat (first | exact (Kd.C_below HR1.out (bu HB.out)) | (with_reducible refine Kd.C_alloc ?_ _) | (with_reducible refine Kd.C_drewN ?_ _) | (with_reducible refine Kd.C_drew ?_))); (case side4 => exact HC1.out); rintro e w20 ⟨v308, rfl, ho0, hb⟩; refine ⟨_, rfl, ?_⟩; have n0_ := am (Kd.R_lower ho0 (below_size (bu HB.out))); have n1_ := am (below_step (bu HB.out) hb); clear HB; have HO309 := n0_; have HB := n1_; clear n0_ n1_; (try clear hb); (try clear hb2); (try clear hk); (try clear hi); (try clear ho0); obtain ⟨Ao21, co21, eo21⟩ := Kd.R_slice HO309.out; subst eo21))
    go_ret
    exact ⟨by first | rfl | (simp [errW_none, errW_some] <;> rfl) | (simp [*, errW_none, errW_some] <;> rfl), bu HB.out⟩
 ·replace c4 := Bool.eq_false_iff.mpr c4
  subst c4
  have H1 : (some false) = some r := by rw [if_neg (show ¬ (false = true) by decide)] at H; exact H
  clear H
  have H := H1
  clear H1
  obtain rfl := Option.some.inj H
  go_enter Tryd.func34, Tryd.ntmps34
  go_wp2_with (first | ((with_reducible refine gate_callee (f := 70) rfl ?_); refine goesL_ (some 8) rfl rfl Tryd.func70 (by kernel_rfl) rfl #[.slice A0 l0.length c0, .slice A1 l1.length c1] rfl (by (try simp only [List.map_toArray, List.map_cons, List.map_nil]); first | done | rfl | (simp only [List.length_drop, List.length_take]; rfl)) ?_; (with_reducible refine (spec_DiscantTogether.calls k _ _ l0 _ _ l1 false _ ?side1 ?side2 ?side3 ?side4 A3.out).mono ?_); (case side1 => exact cu HR0.out); (case side2 => exact HC0.out); (case side3 => exact cu HR1.out); (case side4 => exact HC1.out); rintro e w22 ⟨rfl, hb⟩; refine ⟨_, rfl, ?_⟩; have n0_ := am (below_step (bu HB.out) hb); clear HB; have HB := n0_; clear n0_; (try clear hb); (try clear hb2); (try clear hk); (try clear hi)))
  go_ret
  exact ⟨by first | rfl | (simp [errW_none, errW_some] <;> rfl) | (simp [*, errW_none, errW_some] <;> rfl), bu HB.out⟩

end Go.Proofs.YtcndojoghmblaaaDoor.GE
