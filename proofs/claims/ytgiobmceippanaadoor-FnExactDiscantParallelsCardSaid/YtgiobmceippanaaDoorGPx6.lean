-- Made by this session's gprint.py out of the translation. Not trusted: Lean checks it.
import Derived.Test.YtgiobmceippanaaDoorGPx0
import Derived.Test.YtgiobmceippanaaDoorGPx4
import Derived.Test.YtgiobmceippanaaDoorGPx5
namespace Go.Proofs.YtgiobmceippanaaDoor.GP
open Go.RowKit Go.Proofs.YtgiobmceippanaaDoorW.PrintWords Go.Proofs.YtgiobmceippanaaDoorW.PrintLast Go.Proofs.YtgiobmceippanaaDoorW.PrintMore
attribute [local go_sem] max2_int min2_int max_two min_two max_three min_three max_four min_four   -- for this text's walks alone
set_option linter.unusedVariables false
set_option linter.unusedSimpArgs false

/-! ### impl_soundPair_concord: function 45 -/
def impl_soundPair_concord.j0 : Nat → Bool → Int → Bool → Int → Bool → Option (Bool)
  | 0, _, _, _, _, _ => none
  | k + 1, x25, x221000, x221001, x221002, x221003 => if x25 = true then (some false) else ((impl_ToneInterval.f k x221000 x221001 x221002 x221003).bind fun t221 => ((strings_HasSuffix.f t221 (⟨#[112]⟩ : ByteArray)).bind fun t222 => (some t222)))
def impl_soundPair_concord.f (k : Nat) (a0_0 : Int) (a0_1 : Bool) (a0_2 : Int) (a0_3 : Bool) : Option (Bool) := if (Int.tmod (mx (wrap64 (a0_0 - a0_2)) (wrap64 (-(wrap64 (a0_0 - a0_2))))) 7) = 0 then (impl_soundPair_concord.j0 k false a0_0 a0_1 a0_2 a0_3) else (if (Int.tmod (mx (wrap64 (a0_0 - a0_2)) (wrap64 (-(wrap64 (a0_0 - a0_2))))) 7) = 3 then (impl_soundPair_concord.j0 k false a0_0 a0_1 a0_2 a0_3) else (impl_soundPair_concord.j0 k ((Int.tmod (mx (wrap64 (a0_0 - a0_2)) (wrap64 (-(wrap64 (a0_0 - a0_2))))) 7) != 4) a0_0 a0_1 a0_2 a0_3))
theorem impl_soundPair_concord.mono_l : ∀ k, (∀ y0 y1 y2 y3 y4, LeO (impl_soundPair_concord.j0 k y0 y1 y2 y3 y4) (impl_soundPair_concord.j0 (k + 1) y0 y1 y2 y3 y4))
  | 0 => fun _ _ _ _ _ r h => by simp [impl_soundPair_concord.j0] at h
  | k + 1 => by
    have ih0 := impl_soundPair_concord.mono_l k
    · intro y0 y1 y2 y3 y4
      unfold impl_soundPair_concord.j0
      repeat' first
      | (with_reducible exact ih0 _ _ _ _ _)
      | (with_reducible exact impl_ToneInterval.mono _ _ _ _ _)
      | (with_reducible exact LeO.refl _)
      | (with_reducible exact LeO.none _)
      | (with_reducible refine LeO.ite ?_ ?_)
      | (with_reducible refine LeO.bind ?_ (fun _ => ?_))
      | exact ih0 _ _ _ _ _
      | exact impl_ToneInterval.mono _ _ _ _ _
      | exact LeO.none _
      | refine LeO.ite ?_ ?_
      | refine LeO.bind ?_ (fun _ => ?_)
theorem impl_soundPair_concord.mono : ∀ a0 a1 a2 a3 k, LeO (impl_soundPair_concord.f k a0 a1 a2 a3) (impl_soundPair_concord.f (k + 1) a0 a1 a2 a3) := by
  intro a0 a1 a2 a3 k
  have ih0 := impl_soundPair_concord.mono_l k
  unfold impl_soundPair_concord.f
  repeat' first
      | (with_reducible exact ih0 _ _ _ _ _)
      | (with_reducible exact impl_ToneInterval.mono _ _ _ _ _)
      | (with_reducible exact LeO.refl _)
      | (with_reducible exact LeO.none _)
      | (with_reducible refine LeO.ite ?_ ?_)
      | (with_reducible refine LeO.bind ?_ (fun _ => ?_))
      | exact ih0 _ _ _ _ _
      | exact impl_ToneInterval.mono _ _ _ _ _
      | exact LeO.none _
      | refine LeO.ite ?_ ?_
      | refine LeO.bind ?_ (fun _ => ?_)
set_option maxHeartbeats 8000000 in
set_option maxRecDepth 100000 in
theorem impl_soundPair_concord.calls (k : Nat) (a0_0 : Int) (a0_1 : Bool) (a0_2 : Int) (a0_3 : Bool) (r : Bool) (w : World) (hTH : TabH w) (hTI : TabI w) (h : impl_soundPair_concord.f k a0_0 a0_1 a0_2 a0_3 = some r) :
    Calls Tryd.prog 45 #[.agg #[.int .i64 a0_0, .bool a0_1, .int .i64 a0_2, .bool a0_3]] w fun e w' => e = .returned (.bool r) ∧ Below w.heap.size w w' := by
  have hu51 := Tryd.underlying51
  have hu49 := Tryd.underlying49
  have HTH := Aside0.mk hTH
  clear hTH
  have HTI := Aside0.mk hTI
  clear hTI
  have HB := Aside0.mk (Below.refl w.heap.size w)
  have H : (if (Int.tmod (mx (wrap64 (a0_0 - a0_2)) (wrap64 (-(wrap64 (a0_0 - a0_2))))) 7) = 0 then (impl_soundPair_concord.j0 k false a0_0 a0_1 a0_2 a0_3) else (if (Int.tmod (mx (wrap64 (a0_0 - a0_2)) (wrap64 (-(wrap64 (a0_0 - a0_2))))) 7) = 3 then (impl_soundPair_concord.j0 k false a0_0 a0_1 a0_2 a0_3) else (impl_soundPair_concord.j0 k ((Int.tmod (mx (wrap64 (a0_0 - a0_2)) (wrap64 (-(wrap64 (a0_0 - a0_2))))) 7) != 4) a0_0 a0_1 a0_2 a0_3))) = some r := h
  clear h
  obtain ⟨ji2, hji2⟩ : ∃ j_ : Int, (mx (wrap64 (a0_0 - a0_2)) (wrap64 (-(wrap64 (a0_0 - a0_2))))) = j_ := ⟨_, rfl⟩
  replace H : (if (Int.tmod (ji2) 7) = 0 then (impl_soundPair_concord.j0 k false a0_0 a0_1 a0_2 a0_3) else (if (Int.tmod (ji2) 7) = 3 then (impl_soundPair_concord.j0 k false a0_0 a0_1 a0_2 a0_3) else (impl_soundPair_concord.j0 k ((Int.tmod (ji2) 7) != 4) a0_0 a0_1 a0_2 a0_3))) = some r := by first | (rw [hji2] at H; exact H) | (simp only [hji2] at H ⊢; exact H)
  have hji2_ : (if (wrap64 (a0_0 - a0_2)) < (wrap64 (-(wrap64 (a0_0 - a0_2)))) then (wrap64 (-(wrap64 (a0_0 - a0_2)))) else (wrap64 (a0_0 - a0_2))) = ji2 := hji2
  have HC3 := Aside0.mk H
  clear H
  go_enter Tryd.func45, Tryd.ntmps45
  go_upto_region 3 with (first | ((with_reducible refine gate_dst (N := 1) rfl ?_); refine box_event ?hg (N := 1) ?hd (cs := #[.int .i64 a0_0, .bool a0_1, .int .i64 a0_2, .bool a0_3]) (t := 51) ?hr ?_; (case hd => rfl); (case hg => rfl); (case hr => first | (go_simp; done) | (go_simp; rfl)); intro gb220 hg w4 hbox hb; have n0_ := Aside0.mk (below_step (by repeat (first | (with_reducible first | exact HB.out | apply below_alloc | apply pw_below_drewN | apply below_drew1) | exact HB.out)) hb); have n1_ := Aside0.mk (hbox); have n2_ := Aside0.mk ((by rw [hg]; exact (below_size (by repeat (first | (with_reducible first | exact HB.out | apply below_alloc | apply pw_below_drewN | apply below_drew1) | exact HB.out))) : w.heap.size ≤ gb220)); have n3_ := Aside0.mk ((by rw [hg]; exact (below_size (by repeat (first | (with_reducible first | exact HB.out | apply below_alloc | apply pw_below_drewN | apply below_drew1) | exact HB.out))) : w.heap.size ≤ gb220)); clear HB; have HB := n0_; have BK220 := n1_; have GW220 := n2_; have GE220 := n3_; clear n0_ n1_ n2_ n3_; clear hb hbox hg; have hcz5_0 : w4.cell? ⟨gb220, 0, none⟩ = some (.int .i64 a0_0) := (blk_cell BK220.out 0).trans rfl; have hcz5_1 : w4.cell? ⟨gb220, 1, none⟩ = some (.bool a0_1) := (blk_cell BK220.out 1).trans rfl; have hcz5_2 : w4.cell? ⟨gb220, 2, none⟩ = some (.int .i64 a0_2) := (blk_cell BK220.out 2).trans rfl; have hcz5_3 : w4.cell? ⟨gb220, 3, none⟩ = some (.bool a0_3) := (blk_cell BK220.out 3).trans rfl; have hfz5_0 := blk_frozen BK220.out 0; have hfz5_1 := blk_frozen BK220.out 1; have hfz5_2 := blk_frozen BK220.out 2; have hfz5_3 := blk_frozen BK220.out 3))
  (try simp only [Act.put, List.setIfInBounds_toArray, List.set_cons_zero, List.set_cons_succ])
  go_cut [25] (fun v25 wc => ∃ (kq : Nat) (x25_2 : Bool), v25 = .bool x25_2 ∧ Aside0 (impl_soundPair_concord.j0 kq x25_2 a0_0 a0_1 a0_2 a0_3 = some r) ∧ Aside0 (kq ≤ k) ∧ Aside0 (wc.heap[gb220]? = some (.cells #[.int .i64 a0_0, .bool a0_1, .int .i64 a0_2, .bool a0_3] 51 (0, 0))) ∧ Aside0 (Below w.heap.size w wc))
  case first =>
    have H := HC3.out
    clear HC3
    by_cases c6 : (Int.tmod (ji2) 7) = 0
    · rw [if_pos c6] at H
      have c6b0 : ((Int.tmod (ji2) 7) == 0) = true := beq_iff_eq.mpr c6
      have c6b1 : ((Int.tmod (ji2) 7) != 0) = false := bne_eq_false_iff_eq.mpr c6
      clear c6
      (first | rw [c6b0] | (simp only [i64_w, i32_w]; rw [c6b0]) | skip)
      have H' := Aside0.mk H
      clear H
      go_wp2
      go_meet
      case rel => exact ⟨_, (false), (by first | rfl | (simp; done) | (simp [*]; done)), H', ⟨by first | omega | exact Nat.le_refl _⟩, ⟨by (with_reducible repeat (first | refine blk_drewN ?_ _ | refine blk_drew ?_ | refine blk_alloc ?_ _)); exact BK220.out⟩, ⟨by repeat (first | (with_reducible first | exact HB.out | apply below_alloc | apply pw_below_drewN | apply below_drew1 | refine below_set ?_ GE220.out) | exact HB.out)⟩⟩
    · rw [if_neg c6] at H
      have c6b0 : ((Int.tmod (ji2) 7) == 0) = false := beq_eq_false_iff_ne.mpr c6
      have c6b1 : ((Int.tmod (ji2) 7) != 0) = true := bne_iff_ne.mpr c6
      (first | rw [c6b0] | (simp only [i64_w, i32_w]; rw [c6b0]) | skip)
      by_cases c7 : (Int.tmod (ji2) 7) = 3
      · rw [if_pos c7] at H
        have c7b0 : ((Int.tmod (ji2) 7) == 3) = true := beq_iff_eq.mpr c7
        have c7b1 : ((Int.tmod (ji2) 7) != 3) = false := bne_eq_false_iff_eq.mpr c7
        clear c7
        have H' := Aside0.mk H
        clear H
        go_wp2
        go_meet
        case rel => exact ⟨_, (false), (by first | rfl | (simp; done) | (simp [*]; done)), H', ⟨by first | omega | exact Nat.le_refl _⟩, ⟨by (with_reducible repeat (first | refine blk_drewN ?_ _ | refine blk_drew ?_ | refine blk_alloc ?_ _)); exact BK220.out⟩, ⟨by repeat (first | (with_reducible first | exact HB.out | apply below_alloc | apply pw_below_drewN | apply below_drew1 | refine below_set ?_ GE220.out) | exact HB.out)⟩⟩
      · rw [if_neg c7] at H
        have c7b0 : ((Int.tmod (ji2) 7) == 3) = false := beq_eq_false_iff_ne.mpr c7
        have c7b1 : ((Int.tmod (ji2) 7) != 3) = true := bne_iff_ne.mpr c7
        have H' := Aside0.mk H
        clear H
        go_wp2
        go_meet
        case rel => exact ⟨_, (((Int.tmod (ji2) 7) != 4)), (by first | rfl | (simp; done) | (simp only [← hji2] <;> (first | rfl | simp)) | (simp [*]; done)), H', ⟨by first | omega | exact Nat.le_refl _⟩, ⟨by (with_reducible repeat (first | refine blk_drewN ?_ _ | refine blk_drew ?_ | refine blk_alloc ?_ _)); exact BK220.out⟩, ⟨by repeat (first | (with_reducible first | exact HB.out | apply below_alloc | apply pw_below_drewN | apply below_drew1 | refine below_set ?_ GE220.out) | exact HB.out)⟩⟩
  case rest =>
    clear HC3
    try clear p2
    try clear c4
    try clear c6
    try clear c6b0
    try clear c6b1
    try clear p6
    try clear c7
    try clear c7b0
    try clear c7b1
    try clear hcz5_0
    try clear hcz5_1
    try clear hcz5_2
    try clear hcz5_3
    try clear hfz5_0
    try clear hfz5_1
    try clear hfz5_2
    try clear hfz5_3
    obtain ⟨kq, x25_2, rfl, HA, HJ2, BK220, HB⟩ := hcut
    cases kq with
    | zero => exact absurd HA.out (by simp [impl_soundPair_concord.j0])
    | succ kj2 =>
      have H := HA.out
      clear HA
      simp only [impl_soundPair_concord.j0] at H
      by_cases c8 : x25_2 = true
      · subst c8
        have H1 : (some false) = some r := by rw [if_pos rfl] at H; exact H
        clear H
        have H := H1
        clear H1
        obtain rfl := Option.some.inj H
        go_wp2
        go_ret
        exact ⟨by first | rfl | (simp [errW_none, errW_some] <;> rfl) | (simp only [← hji2]; first | rfl | (simp [errW_none, errW_some] <;> rfl)) | (simp [*, errW_none, errW_some] <;> rfl), by repeat (first | (with_reducible first | exact HB.out | apply below_alloc | apply pw_below_drewN | apply below_drew1 | refine below_set ?_ GE220.out) | exact HB.out)⟩
      · replace c8 := Bool.eq_false_iff.mpr c8
        subst c8
        have H1 : ((impl_ToneInterval.f kj2 a0_0 a0_1 a0_2 a0_3).bind fun t221 => ((strings_HasSuffix.f t221 (⟨#[112]⟩ : ByteArray)).bind fun t222 => (some t222))) = some r := by rw [if_neg (show ¬ (false = true) by decide)] at H; exact H
        clear H
        have H := H1
        clear H1
        replace H := Option.bind_eq_some_iff.mp H
        obtain ⟨t221, A90, H⟩ := H
        replace H : ((strings_HasSuffix.f t221 (⟨#[112]⟩ : ByteArray)).bind fun t222 => (some t222)) = some r := H
        have A9 := Aside0.mk A90
        clear A90
        replace H := Option.bind_eq_some_iff.mp H
        obtain ⟨t222, A100, H⟩ := H
        replace H : (some t222) = some r := H
        have A10 := Aside0.mk A100
        clear A100
        obtain rfl := Option.some.inj H
        have hcz11_0 : wc.cell? ⟨gb220, 0, none⟩ = some (.int .i64 a0_0) := (blk_cell BK220.out 0).trans rfl
        have hcz11_1 : wc.cell? ⟨gb220, 1, none⟩ = some (.bool a0_1) := (blk_cell BK220.out 1).trans rfl
        have hcz11_2 : wc.cell? ⟨gb220, 2, none⟩ = some (.int .i64 a0_2) := (blk_cell BK220.out 2).trans rfl
        have hcz11_3 : wc.cell? ⟨gb220, 3, none⟩ = some (.bool a0_3) := (blk_cell BK220.out 3).trans rfl
        have hfz11_0 := blk_frozen BK220.out 0
        have hfz11_1 := blk_frozen BK220.out 1
        have hfz11_2 := blk_frozen BK220.out 2
        have hfz11_3 := blk_frozen BK220.out 3
        go_wp2_with (first | ((with_reducible refine gate_callee (f := 65) rfl ?_); refine goesL_ (some 30) rfl rfl Tryd.func65 (by kernel_rfl) rfl #[.agg #[.int .i64 a0_0, .bool a0_1], .agg #[.int .i64 a0_2, .bool a0_3]] rfl (by (try simp only [List.map_toArray, List.map_cons, List.map_nil]); first | done | rfl | (simp only [List.length_drop, List.length_take]; rfl)) ?_; (with_reducible refine (impl_ToneInterval.calls kj2 a0_0 a0_1 a0_2 a0_3 t221 _ ?side1 ?side2 A9.out).mono ?_); (case side1 => first | exact HTH.out | exact TabAt.below HTH.out (by repeat (first | (with_reducible first | exact HB.out | apply below_alloc | apply pw_below_drewN | apply below_drew1 | refine below_set ?_ GE220.out) | exact HB.out)) | (repeat (first | exact HTH.out | (with_reducible refine TabAt.drewN ?_ _) | (with_reducible refine TabAt.drew ?_) | (with_reducible refine TabAt.alloc ?_ _)))); (case side2 => first | exact HTI.out | exact TabAt.below HTI.out (by repeat (first | (with_reducible first | exact HB.out | apply below_alloc | apply pw_below_drewN | apply below_drew1 | refine below_set ?_ GE220.out) | exact HB.out)) | (repeat (first | exact HTI.out | (with_reducible refine TabAt.drewN ?_ _) | (with_reducible refine TabAt.drew ?_) | (with_reducible refine TabAt.alloc ?_ _)))); rintro e w12 ⟨rfl, hb⟩; refine ⟨_, rfl, ?_⟩; have n0_ := Aside0.mk (blk_below (g := gb220) (o := .cells #[.int .i64 a0_0, .bool a0_1, .int .i64 a0_2, .bool a0_3] 51 (0, 0)) (by (with_reducible repeat (first | refine blk_drewN ?_ _ | refine blk_drew ?_ | refine blk_alloc ?_ _)); exact BK220.out) hb); have n1_ := Aside0.mk (below_step (by repeat (first | (with_reducible first | exact HB.out | apply below_alloc | apply pw_below_drewN | apply below_drew1 | refine below_set ?_ GE220.out) | exact HB.out)) hb); clear BK220; clear HB; have BK220 := n0_; have HB := n1_; clear n0_ n1_; (try clear hb); (try clear hb2); (try clear hk); (try clear hi)) | ((with_reducible refine gate_callee (f := 64) rfl ?_); refine goesL_ (some 31) rfl rfl Tryd.func64 (by kernel_rfl) rfl #[.string t221, .string (⟨#[112]⟩ : ByteArray)] rfl (by (try simp only [List.map_toArray, List.map_cons, List.map_nil]); first | done | rfl | (simp only [List.length_drop, List.length_take]; rfl)) ?_; (with_reducible refine (strings_HasSuffix.calls t221 (⟨#[112]⟩ : ByteArray) t222 _ A10.out).mono ?_); rintro e w' ⟨rfl, ⟨nd, rfl⟩⟩; refine ⟨_, rfl, ?_⟩))
        go_ret
        exact ⟨by first | rfl | (simp [errW_none, errW_some] <;> rfl) | (simp only [← hji2]; first | rfl | (simp [errW_none, errW_some] <;> rfl)) | (simp [*, errW_none, errW_some] <;> rfl), by repeat (first | (with_reducible first | exact HB.out | apply below_alloc | apply pw_below_drewN | apply below_drew1 | refine below_set ?_ GE220.out) | exact HB.out)⟩

end Go.Proofs.YtgiobmceippanaaDoor.GP
