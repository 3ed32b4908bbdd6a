-- Made by this session's gprint.py out of the translation. Not trusted: Lean checks it.
import Derived.Test.YtjnkmckklmabcaaGreatDoorXMx0
import Derived.Test.YtjnkmckklmabcaaGreatDoorXMx2
namespace Go.Proofs.YtjnkmckklmabcaaGreatDoor.XM
open Go.RowKit Go.Proofs.YtjnkmckklmabcaaGreatDoorW.PrintWords Go.Proofs.YtjnkmckklmabcaaGreatDoorW.PrintLast Go.Proofs.YtjnkmckklmabcaaGreatDoorW.PrintMore
attribute [local go_sem] max2_int min2_int max_two min_two max_three min_three max_four min_four   -- for this text's walks alone
set_option linter.unusedVariables false
set_option linter.unusedSimpArgs false

/-! ### impl_MelodyValid: function 53 -/
def impl_MelodyValid.l0 : Nat → List (S74) → Int → Int → Option (Bool)
 | 0, _, _, _ => none
 | k + 1, x8, x9, x10 => if x10 < x9 then (if 0 ≤ x10 then (if x10 < (x8.length : Int) then ((impl_Tone_valid.f ((rd_T74 x8 x10).f0) ((rd_T74 x8 x10).f1)).bind fun t110 => (if t110 = true then (impl_MelodyValid.l0 k x8 x9 (wrap64 (x10 + 1))) else (some false))) else (none)) else (none)) else (some true)
def impl_MelodyValid.f (k : Nat) (l0 : List (S74)) : Option (Bool) := if (l0.length : Int) > 24 then (some false) else (impl_MelodyValid.l0 k l0 (l0.length : Int) 0)
theorem impl_MelodyValid.mono_l : ∀ k, (∀ y0 y1 y2, LeO (impl_MelodyValid.l0 k y0 y1 y2) (impl_MelodyValid.l0 (k + 1) y0 y1 y2))
 | 0 => fun _ _ _ r h => by simp [impl_MelodyValid.l0] at h
 | k + 1 => by
  have ih0 := impl_MelodyValid.mono_l k
  ·intro y0 y1 y2
   unfold impl_MelodyValid.l0
   repeat' first
   | (with_reducible exact ih0 _ _ _)
   | (with_reducible exact LeO.refl _)
   | (with_reducible exact LeO.none _)
   | (with_reducible refine LeO.ite ?_ ?_)
   | (with_reducible refine LeO.bind ?_ (fun _ => ?_))
   | exact ih0 _ _ _
   | exact LeO.none _
   | refine LeO.ite ?_ ?_
   | refine LeO.bind ?_ (fun _ => ?_)
theorem impl_MelodyValid.mono : ∀ a0 k, LeO (impl_MelodyValid.f k a0) (impl_MelodyValid.f (k + 1) a0) := by
 intro a0 k
 have ih0 := impl_MelodyValid.mono_l k
 unfold impl_MelodyValid.f
 repeat' first
   | (with_reducible exact ih0 _ _ _)
   | (with_reducible exact LeO.refl _)
   | (with_reducible exact LeO.none _)
   | (with_reducible refine LeO.ite ?_ ?_)
   | (with_reducible refine LeO.bind ?_ (fun _ => ?_))
   | exact ih0 _ _ _
   | exact LeO.none _
   | refine LeO.ite ?_ ?_
   | refine LeO.bind ?_ (fun _ => ?_)
set_option maxHeartbeats 8000000 in
set_option maxRecDepth 100000 in
theorem impl_MelodyValid.calls (k : Nat) (A0 : Option Addr) (c0 : Nat) (l0 : List (S74)) (r : Bool) (w : World) (hr0 : Kd.C k74 w A0 l0.length l0) (hc0 : l0.length ≤ c0) (h : impl_MelodyValid.f k l0 = some r) :
  Calls Tryz.prog 53 #[.slice A0 l0.length c0] w fun e w' => e = .returned (.bool r) ∧ Below w.heap.size w w' := by
 have hu74 := Tryz.underlying74
 have HR0 := am hr0
 have HC0 := am hc0
 clear hr0 hc0
 have HB := am (Below.refl w.heap.size w)
 have H : (if (l0.length : Int) > 24 then (some false) else (impl_MelodyValid.l0 k l0 (l0.length : Int) 0)) = some r := h
 clear h
 by_cases c2 : (l0.length : Int) > 24
 ·rw [if_pos c2] at H
  have c2b0 : decide (24 < (l0.length : Int)) = true := decide_eq_true c2
  have c2b1 : decide (24 < l0.length) = true := decide_eq_true (by omega)
  clear c2
  obtain rfl := Option.some.inj H
  go_enter Tryz.func53, Tryz.ntmps53
  go_wp2
  go_ret
  exact ⟨by first | rfl | (simp [errW_none, errW_some] <;> rfl) | (simp [*, errW_none, errW_some] <;> rfl), bu HB.out⟩
 ·rw [if_neg c2] at H
  have c2b0 : decide (24 < (l0.length : Int)) = false := decide_eq_false c2
  have c2b1 : decide (24 < l0.length) = false := decide_eq_false (by omega)
  clear c2
  have H' := am H
  clear H
  go_enter Tryz.func53, Tryz.ntmps53
  go_wp2
  go_loopg [10] k (fun kq v10 w' => ∃ (x10_1 : Int), v10 = .int .i64 x10_1 ∧ Aside0 (impl_MelodyValid.l0 kq l0 (l0.length : Int) x10_1 = some r) ∧ Aside0 (kq ≤ k) ∧ Aside0 (Below w.heap.size w w'))
  case atStart => exact ⟨(0), (by first | rfl | (simp; done) | (simp [*]; done)), H', ⟨Nat.le_refl _⟩, ⟨bu HB.out⟩⟩
  case round =>
   clear H'
   try clear c2
   try clear c2b0
   try clear c2b1
   try clear p2
   obtain ⟨x10_1, rfl, HA, HK1, HB⟩ := hrel
   cases gk with
   | zero => exact absurd HA.out (by simp [impl_MelodyValid.l0])
   | succ k1 =>
    have H := HA.out
    clear HA
    simp only [impl_MelodyValid.l0] at H
    by_cases c3 : x10_1 < (l0.length : Int)
    ·rw [if_pos c3] at H
     have c3b0 : decide (x10_1 < (l0.length : Int)) = true := decide_eq_true c3
     clear c3
     by_cases c4 : 0 ≤ x10_1
     ·rw [if_pos c4] at H
      have c4b0 : decide (0 ≤ x10_1) = true := decide_eq_true c4
      clear c4
      by_cases c5 : x10_1 < (l0.length : Int)
      ·rw [if_pos c5] at H
       have c5b0 : decide (x10_1 < (l0.length : Int)) = true := decide_eq_true c5
       clear c5
       replace H := Option.bind_eq_some_iff.mp H
       obtain ⟨t110, A60, H⟩ := H
       replace H : (if t110 = true then (impl_MelodyValid.l0 k1 l0 (l0.length : Int) (wrap64 (x10_1 + 1))) else (some false)) = some r := H
       have A6 := am A60
       clear A60
       by_cases c7 : t110 = true
       ·subst c7
        have H1 : (impl_MelodyValid.l0 k1 l0 (l0.length : Int) (wrap64 (x10_1 + 1))) = some r := by rw [if_pos rfl] at H; exact H
        clear H
        have H := H1
        clear H1
        have H' := am H
        clear H
        have p108 : 0 ≤ (x10_1 : Int) := od
        have q108 : x10_1 < (l0.length : Int) := od
        obtain ⟨ad108, e108, hx108_0, hx108_1⟩ := at_T74 HR0.out x10_1 p108 q108
        cases e108
        replace hx108_0 := (HB.out.cell (World.block_lt_of_cell? w _ hx108_0)).trans hx108_0
        replace hx108_1 := (HB.out.cell (World.block_lt_of_cell? w _ hx108_1)).trans hx108_1
        replace p108 := eq_true p108
        replace q108 := eq_true q108
        go_wp2_with (first | ((with_reducible refine gate_dst (N := 4) rfl ?_); refine box_event ?hg (N := 4) ?hd (cs := #[.int .i64 0, .bool false]) (t := 74) ?hr ?_; (case hd => rfl); (case hg => rfl); (case hr => first | (go_simp; done) | (go_simp; rfl)); intro gb109 hg w8 hbox hb; have n0_ := am (below_step (bu HB.out) hb); have n1_ := am (hbox); have n2_ := am ((by rw [hg]; exact (below_size (bu HB.out)) : w.heap.size ≤ gb109)); have n3_ := am ((by rw [hg]; exact (below_size (bu HB.out)) : w.heap.size ≤ gb109)); clear HB; have HB := n0_; have BK109 := n1_; have GW109 := n2_; have GE109 := n3_; clear n0_ n1_ n2_ n3_; clear hb hbox hg; have hcz9_0 : w8.cell? ⟨gb109, 0, none⟩ = some (.int .i64 0) := (blk_cell BK109.out 0).trans rfl; have hcz9_1 : w8.cell? ⟨gb109, 1, none⟩ = some (.bool false) := (blk_cell BK109.out 1).trans rfl; have hfz9_0 := blk_frozen BK109.out 0; have hfz9_1 := blk_frozen BK109.out 1) | ((with_reducible refine gate_callee (f := 91) rfl ?_); refine goesL_ (some 15) rfl rfl Tryz.func91 (by kernel_rfl) rfl #[.agg #[.int .i64 ((rd_T74 l0 x10_1).f0), .bool ((rd_T74 l0 x10_1).f1)]] rfl (by (try simp only [List.map_toArray, List.map_cons, List.map_nil]); first | done | rfl | (simp only [List.length_drop, List.length_take]; rfl)) ?_; (with_reducible refine (impl_Tone_valid.calls ((rd_T74 l0 x10_1).f0) ((rd_T74 l0 x10_1).f1) true _ A6.out).mono ?_); rintro e w10 ⟨rfl, hb⟩; refine ⟨_, rfl, ?_⟩; have n0_ := am (blk_below (g := gb109) (o := .cells #[.int .i64 ((rd_T74 l0 x10_1).f0), .bool ((rd_T74 l0 x10_1).f1)] 74 (0, 0)) (by (with_reducible repeat (first | refine blk_drewN ?_ _ | refine blk_drew ?_ | refine blk_alloc ?_ _)); refine blk_put (cs := #[.int .i64 ((rd_T74 l0 x10_1).f0), .bool false]) ?_ 1 _ rfl; (with_reducible repeat (first | refine blk_drewN ?_ _ | refine blk_drew ?_ | refine blk_alloc ?_ _)); refine blk_put (cs := #[.int .i64 0, .bool false]) ?_ 0 _ rfl; (with_reducible repeat (first | refine blk_drewN ?_ _ | refine blk_drew ?_ | refine blk_alloc ?_ _)); exact BK109.out) hb); have n1_ := am (below_step (bu HB.out) hb); clear BK109; clear HB; have BK109 := n0_; have HB := n1_; clear n0_ n1_; (try clear hb); (try clear hb2); (try clear hk); (try clear hi)))
        go_roundg k1
        case measure => have := HK1.out; omega
        case rel => exact ⟨(wrap64 (x10_1 + 1)), (by first | rfl | (simp; done) | (simp [*]; done)), H', ⟨by have := HK1.out; omega⟩, ⟨bu HB.out⟩⟩
       ·replace c7 := Bool.eq_false_iff.mpr c7
        subst c7
        have H1 : (some false) = some r := by rw [if_neg (show ¬ (false = true) by decide)] at H; exact H
        clear H
        have H := H1
        clear H1
        obtain rfl := Option.some.inj H
        have p108 : 0 ≤ (x10_1 : Int) := od
        have q108 : x10_1 < (l0.length : Int) := od
        obtain ⟨ad108, e108, hx108_0, hx108_1⟩ := at_T74 HR0.out x10_1 p108 q108
        cases e108
        replace hx108_0 := (HB.out.cell (World.block_lt_of_cell? w _ hx108_0)).trans hx108_0
        replace hx108_1 := (HB.out.cell (World.block_lt_of_cell? w _ hx108_1)).trans hx108_1
        replace p108 := eq_true p108
        replace q108 := eq_true q108
        go_wp2_with (first | ((with_reducible refine gate_dst (N := 4) rfl ?_); refine box_event ?hg (N := 4) ?hd (cs := #[.int .i64 0, .bool false]) (t := 74) ?hr ?_; (case hd => rfl); (case hg => rfl); (case hr => first | (go_simp; done) | (go_simp; rfl)); intro gb109 hg w11 hbox hb; have n0_ := am (below_step (bu HB.out) hb); have n1_ := am (hbox); have n2_ := am ((by rw [hg]; exact (below_size (bu HB.out)) : w.heap.size ≤ gb109)); have n3_ := am ((by rw [hg]; exact (below_size (bu HB.out)) : w.heap.size ≤ gb109)); clear HB; have HB := n0_; have BK109 := n1_; have GW109 := n2_; have GE109 := n3_; clear n0_ n1_ n2_ n3_; clear hb hbox hg; have hcz12_0 : w11.cell? ⟨gb109, 0, none⟩ = some (.int .i64 0) := (blk_cell BK109.out 0).trans rfl; have hcz12_1 : w11.cell? ⟨gb109, 1, none⟩ = some (.bool false) := (blk_cell BK109.out 1).trans rfl; have hfz12_0 := blk_frozen BK109.out 0; have hfz12_1 := blk_frozen BK109.out 1) | ((with_reducible refine gate_callee (f := 91) rfl ?_); refine goesL_ (some 15) rfl rfl Tryz.func91 (by kernel_rfl) rfl #[.agg #[.int .i64 ((rd_T74 l0 x10_1).f0), .bool ((rd_T74 l0 x10_1).f1)]] rfl (by (try simp only [List.map_toArray, List.map_cons, List.map_nil]); first | done | rfl | (simp only [List.length_drop, List.length_take]; rfl)) ?_; (with_reducible refine (impl_Tone_valid.calls ((rd_T74 l0 x10_1).f0) ((rd_T74 l0 x10_1).f1) false _ A6.out).mono ?_); rintro e w13 ⟨rfl, hb⟩; refine ⟨_, rfl, ?_⟩; have n0_ := am (blk_below (g := gb109) (o := .cells #[.int .i64 ((rd_T74 l0 x10_1).f0), .bool ((rd_T74 l0 x10_1).f1)] 74 (0, 0)) (by (with_reducible repeat (first | refine blk_drewN ?_ _ | refine blk_drew ?_ | refine blk_alloc ?_ _)); refine blk_put (cs := #[.int .i64 ((rd_T74 l0 x10_1).f0), .bool false]) ?_ 1 _ rfl; (with_reducible repeat (first | refine blk_drewN ?_ _ | refine blk_drew ?_ | refine blk_alloc ?_ _)); refine blk_put (cs := #[.int .i64 0, .bool false]) ?_ 0 _ rfl; (with_reducible repeat (first | refine blk_drewN ?_ _ | refine blk_drew ?_ | refine blk_alloc ?_ _)); exact BK109.out) hb); have n1_ := am (below_step (bu HB.out) hb); clear BK109; clear HB; have BK109 := n0_; have HB := n1_; clear n0_ n1_; (try clear hb); (try clear hb2); (try clear hk); (try clear hi)))
        go_ret
        exact ⟨by first | rfl | (simp [errW_none, errW_some] <;> rfl) | (simp [*, errW_none, errW_some] <;> rfl), bu HB.out⟩
      ·rw [if_neg c5] at H
       exact absurd H (by simp)
     ·rw [if_neg c4] at H
      exact absurd H (by simp)
    ·rw [if_neg c3] at H
     have c3b0 : decide (x10_1 < (l0.length : Int)) = false := decide_eq_false c3
     clear c3
     obtain rfl := Option.some.inj H
     go_wp2
     go_ret
     exact ⟨by first | rfl | (simp [errW_none, errW_some] <;> rfl) | (simp [*, errW_none, errW_some] <;> rfl), bu HB.out⟩

/-! ### impl_ToneAbove: function 54 -/
def impl_ToneAbove.j0 : Nat → Int → Bool → Bool → Int → Bool → Option (Int × Bool × Bool)
 | 0, _, _, _, _, _ => none
 | k + 1, x1, x2, x19, x112000, x112001 => if x19 = true then (some (0, false, false)) else ((impl_Tone_valid.f (wrap64 (x112000 + x1)) x2).bind fun t115 => (if t115 = true then (some (wrap64 (x112000 + x1), x2, true)) else (some (0, false, false))))
def impl_ToneAbove.f (k : Nat) (a0_0 : Int) (a0_1 : Bool) (a1 : Int) (a2 : Bool) : Option (Int × Bool × Bool) := (impl_Tone_valid.f a0_0 a0_1).bind fun t113 => (if t113 = true then (if a1 < (-20) then (impl_ToneAbove.j0 k a1 a2 true a0_0 a0_1) else (impl_ToneAbove.j0 k a1 a2 (decide (a1 > 20)) a0_0 a0_1)) else (impl_ToneAbove.j0 k a1 a2 true a0_0 a0_1))
set_option maxHeartbeats 8000000 in
set_option maxRecDepth 100000 in
theorem impl_ToneAbove.calls (k : Nat) (a0_0 : Int) (a0_1 : Bool) (a1 : Int) (a2 : Bool) (r1 : Int) (r2 : Bool) (r3 : Bool) (w : World) (h : impl_ToneAbove.f k a0_0 a0_1 a1 a2 = some (r1, r2, r3)) :
  Calls Tryz.prog 54 #[.agg #[.int .i64 a0_0, .bool a0_1], .int .i64 a1, .bool a2] w fun e w' => e = .returned (.tuple #[.agg #[.int .i64 r1, .bool r2], .bool r3]) ∧ Below w.heap.size w w' := by
 have hu74 := Tryz.underlying74
 have HB := am (Below.refl w.heap.size w)
 have H : ((impl_Tone_valid.f a0_0 a0_1).bind fun t113 => (if t113 = true then (if a1 < (-20) then (impl_ToneAbove.j0 k a1 a2 true a0_0 a0_1) else (impl_ToneAbove.j0 k a1 a2 (decide (a1 > 20)) a0_0 a0_1)) else (impl_ToneAbove.j0 k a1 a2 true a0_0 a0_1))) = some (r1, r2, r3) := h
 clear h
 have HC4 := am H
 clear H
 go_enter Tryz.func54, Tryz.ntmps54
 go_upto_region 1 with (first | ((with_reducible refine gate_dst (N := 3) rfl ?_); refine box_event ?hg (N := 3) ?hd (cs := #[.int .i64 a0_0, .bool a0_1]) (t := 74) ?hr ?_; (case hd => rfl); (case hg => rfl); (case hr => first | (go_simp; done) | (go_simp; rfl)); intro gb111 hg w5 hbox hb; have n0_ := am (below_step (bu HB.out) hb); have n1_ := am (hbox); have n2_ := am ((by rw [hg]; exact (below_size (bu HB.out)) : w.heap.size ≤ gb111)); have n3_ := am ((by rw [hg]; exact (below_size (bu HB.out)) : w.heap.size ≤ gb111)); clear HB; have HB := n0_; have BK111 := n1_; have GW111 := n2_; have GE111 := n3_; clear n0_ n1_ n2_ n3_; clear hb hbox hg) | ((with_reducible refine gate_dst (N := 6) rfl ?_); refine box_event ?hg (N := 6) ?hd (cs := #[.int .i64 0, .bool false]) (t := 74) ?hr ?_; (case hd => rfl); (case hg => rfl); (case hr => first | (go_simp; done) | (go_simp; rfl)); intro gb112 hg w6 hbox hb; have n0_ := am (blk_below (g := gb111) (o := .cells #[.int .i64 a0_0, .bool a0_1] 74 (0, 0)) (gu BK111.out) hb); have n1_ := am (below_step (bu HB.out) hb); have n2_ := am (hbox); have n3_ := am ((by rw [hg]; exact (below_size (bu HB.out)) : w.heap.size ≤ gb112)); have n4_ := am ((by rw [hg]; exact (below_size (bu HB.out)) : w.heap.size ≤ gb112)); have n5_ := am ((by rw [hg]; exact Nat.ne_of_lt (blk_lt (g := gb111) (o := .cells #[.int .i64 a0_0, .bool a0_1] 74 (0, 0)) (gu BK111.out)) : gb111 ≠ gb112)); have n6_ := am ((by rw [hg]; exact Nat.ne_of_gt (blk_lt (g := gb111) (o := .cells #[.int .i64 a0_0, .bool a0_1] 74 (0, 0)) (gu BK111.out)) : gb112 ≠ gb111)); clear BK111; clear HB; have BK111 := n0_; have HB := n1_; have BK112 := n2_; have GW112 := n3_; have GE112 := n4_; have NB111_112 := n5_; have NB112_111 := n6_; clear n0_ n1_ n2_ n3_ n4_ n5_ n6_; clear hb hbox hg))
 (try simp only [Act.put, sA, sZ, sS])
 go_cut [19] (fun v19 wc => ∃ (kq : Nat) (x19_3 : Bool), v19 = .bool x19_3 ∧ Aside0 (impl_ToneAbove.j0 kq a1 a2 x19_3 a0_0 a0_1 = some (r1, r2, r3)) ∧ Aside0 (kq ≤ k) ∧ Aside0 (wc.heap[gb111]? = some (.cells #[.int .i64 a0_0, .bool a0_1] 74 (0, 0))) ∧ Aside0 (wc.heap[gb112]? = some (.cells #[.int .i64 0, .bool false] 74 (0, 0))) ∧ Aside0 (Below w.heap.size w wc))
 case first =>
  have H := HC4.out
  clear HC4
  replace H := Option.bind_eq_some_iff.mp H
  obtain ⟨t113, A70, H⟩ := H
  replace H : (if t113 = true then (if a1 < (-20) then (impl_ToneAbove.j0 k a1 a2 true a0_0 a0_1) else (impl_ToneAbove.j0 k a1 a2 (decide (a1 > 20)) a0_0 a0_1)) else (impl_ToneAbove.j0 k a1 a2 true a0_0 a0_1)) = some (r1, r2, r3) := H
  have A7 := am A70
  clear A70
  by_cases c8 : t113 = true
  ·subst c8
   have H1 : (if a1 < (-20) then (impl_ToneAbove.j0 k a1 a2 true a0_0 a0_1) else (impl_ToneAbove.j0 k a1 a2 (decide (a1 > 20)) a0_0 a0_1)) = some (r1, r2, r3) := by rw [if_pos rfl] at H; exact H
   clear H
   have H := H1
   clear H1
   by_cases c9 : a1 < (-20)
   ·rw [if_pos c9] at H
    have c9b0 : decide (a1 < (-20)) = true := decide_eq_true c9
    clear c9
    (first | rw [c9b0] | (simp only [i64_w, i32_w]; rw [c9b0]) | skip)
    have H' := am H
    clear H
    have hnb10 := NB111_112.out
    have hnc10 := NB112_111.out
    have hcz11_0 : w6.cell? ⟨gb111, 0, none⟩ = some (.int .i64 a0_0) := (blk_cell BK111.out 0).trans rfl
    have hcz11_1 : w6.cell? ⟨gb111, 1, none⟩ = some (.bool a0_1) := (blk_cell BK111.out 1).trans rfl
    have hfz11_0 := blk_frozen BK111.out 0
    have hfz11_1 := blk_frozen BK111.out 1
    go_wp2_with (first | ((with_reducible refine gate_callee (f := 91) rfl ?_); refine goesL_ (some 10) rfl rfl Tryz.func91 (by kernel_rfl) rfl #[.agg #[.int .i64 a0_0, .bool a0_1]] rfl (by (try simp only [List.map_toArray, List.map_cons, List.map_nil]); first | done | rfl | (simp only [List.length_drop, List.length_take]; rfl)) ?_; (with_reducible refine (impl_Tone_valid.calls a0_0 a0_1 true _ A7.out).mono ?_); rintro e w12 ⟨rfl, hb⟩; refine ⟨_, rfl, ?_⟩; have n0_ := am (blk_below (g := gb111) (o := .cells #[.int .i64 a0_0, .bool a0_1] 74 (0, 0)) (gu BK111.out) hb); have n1_ := am (blk_below (g := gb112) (o := .cells #[.int .i64 0, .bool false] 74 (0, 0)) (gu BK112.out) hb); have n2_ := am (below_step (bu HB.out) hb); clear BK111; clear BK112; clear HB; have BK111 := n0_; have BK112 := n1_; have HB := n2_; clear n0_ n1_ n2_; (try clear hb); (try clear hb2); (try clear hk); (try clear hi)))
    go_meet
    case rel => exact ⟨_, (true), (by first | rfl | (simp; done) | (simp [*]; done)), H', ⟨by first | omega | exact Nat.le_refl _⟩, ⟨gu BK111.out⟩, ⟨gu BK112.out⟩, ⟨bu HB.out⟩⟩
   ·rw [if_neg c9] at H
    have c9b0 : decide (a1 < (-20)) = false := decide_eq_false c9
    clear c9
    (first | rw [c9b0] | (simp only [i64_w, i32_w]; rw [c9b0]) | skip)
    have H' := am H
    clear H
    have hnb13 := NB111_112.out
    have hnc13 := NB112_111.out
    have hcz14_0 : w6.cell? ⟨gb111, 0, none⟩ = some (.int .i64 a0_0) := (blk_cell BK111.out 0).trans rfl
    have hcz14_1 : w6.cell? ⟨gb111, 1, none⟩ = some (.bool a0_1) := (blk_cell BK111.out 1).trans rfl
    have hfz14_0 := blk_frozen BK111.out 0
    have hfz14_1 := blk_frozen BK111.out 1
    go_wp2_with (first | ((with_reducible refine gate_callee (f := 91) rfl ?_); refine goesL_ (some 10) rfl rfl Tryz.func91 (by kernel_rfl) rfl #[.agg #[.int .i64 a0_0, .bool a0_1]] rfl (by (try simp only [List.map_toArray, List.map_cons, List.map_nil]); first | done | rfl | (simp only [List.length_drop, List.length_take]; rfl)) ?_; (with_reducible refine (impl_Tone_valid.calls a0_0 a0_1 true _ A7.out).mono ?_); rintro e w15 ⟨rfl, hb⟩; refine ⟨_, rfl, ?_⟩; have n0_ := am (blk_below (g := gb111) (o := .cells #[.int .i64 a0_0, .bool a0_1] 74 (0, 0)) (gu BK111.out) hb); have n1_ := am (blk_below (g := gb112) (o := .cells #[.int .i64 0, .bool false] 74 (0, 0)) (gu BK112.out) hb); have n2_ := am (below_step (bu HB.out) hb); clear BK111; clear BK112; clear HB; have BK111 := n0_; have BK112 := n1_; have HB := n2_; clear n0_ n1_ n2_; (try clear hb); (try clear hb2); (try clear hk); (try clear hi)))
    go_meet
    case rel => exact ⟨_, (decide (a1 > 20)), (by first | rfl | (simp; done) | (simp [*]; done)), H', ⟨by first | omega | exact Nat.le_refl _⟩, ⟨gu BK111.out⟩, ⟨gu BK112.out⟩, ⟨bu HB.out⟩⟩
  ·replace c8 := Bool.eq_false_iff.mpr c8
   subst c8
   have H1 : (impl_ToneAbove.j0 k a1 a2 true a0_0 a0_1) = some (r1, r2, r3) := by rw [if_neg (show ¬ (false = true) by decide)] at H; exact H
   clear H
   have H := H1
   clear H1
   have H' := am H
   clear H
   have hnb16 := NB111_112.out
   have hnc16 := NB112_111.out
   have hcz17_0 : w6.cell? ⟨gb111, 0, none⟩ = some (.int .i64 a0_0) := (blk_cell BK111.out 0).trans rfl
   have hcz17_1 : w6.cell? ⟨gb111, 1, none⟩ = some (.bool a0_1) := (blk_cell BK111.out 1).trans rfl
   have hfz17_0 := blk_frozen BK111.out 0
   have hfz17_1 := blk_frozen BK111.out 1
   go_wp2_with (first | ((with_reducible refine gate_callee (f := 91) rfl ?_); refine goesL_ (some 10) rfl rfl Tryz.func91 (by kernel_rfl) rfl #[.agg #[.int .i64 a0_0, .bool a0_1]] rfl (by (try simp only [List.map_toArray, List.map_cons, List.map_nil]); first | done | rfl | (simp only [List.length_drop, List.length_take]; rfl)) ?_; (with_reducible refine (impl_Tone_valid.calls a0_0 a0_1 false _ A7.out).mono ?_); rintro e w18 ⟨rfl, hb⟩; refine ⟨_, rfl, ?_⟩; have n0_ := am (blk_below (g := gb111) (o := .cells #[.int .i64 a0_0, .bool a0_1] 74 (0, 0)) (gu BK111.out) hb); have n1_ := am (blk_below (g := gb112) (o := .cells #[.int .i64 0, .bool false] 74 (0, 0)) (gu BK112.out) hb); have n2_ := am (below_step (bu HB.out) hb); clear BK111; clear BK112; clear HB; have BK111 := n0_; have BK112 := n1_; have HB := n2_; clear n0_ n1_ n2_; (try clear hb); (try clear hb2); (try clear hk); (try clear hi)))
   go_meet
   case rel => exact ⟨_, (true), (by first | rfl | (simp; done) | (simp [*]; done)), H', ⟨by first | omega | exact Nat.le_refl _⟩, ⟨gu BK111.out⟩, ⟨gu BK112.out⟩, ⟨bu HB.out⟩⟩
 case rest =>
  clear HC4
  try clear c1
  try clear p2
  try clear c5
  try clear c8
  try clear c9
  try clear c9b0
  try clear c10
  try clear c13
  try clear c16
  try clear hcz11_0
  try clear hcz11_1
  try clear hcz14_0
  try clear hcz14_1
  try clear hcz17_0
  try clear hcz17_1
  try clear hfz11_0
  try clear hfz11_1
  try clear hfz14_0
  try clear hfz14_1
  try clear hfz17_0
  try clear hfz17_1
  obtain ⟨kq, x19_3, rfl, HA, HJ3, BK111, BK112, HB⟩ := hcut
  cases kq with
  | zero => exact absurd HA.out (by simp [impl_ToneAbove.j0])
  | succ kj3 =>
   have H := HA.out
   clear HA
   simp only [impl_ToneAbove.j0] at H
   by_cases c19 : x19_3 = true
   ·subst c19
    have H1 : (some (0, false, false)) = some (r1, r2, r3) := by rw [if_pos rfl] at H; exact H
    clear H
    have H := H1
    clear H1
    simp only [Option.some.injEq, Prod.mk.injEq] at H
    obtain ⟨rfl, rfl, rfl⟩ := H
    have hnb20 := NB112_111.out
    have hnc20 := NB111_112.out
    have hcz21_0 : wc.cell? ⟨gb112, 0, none⟩ = some (.int .i64 0) := (blk_cell BK112.out 0).trans rfl
    have hcz21_1 : wc.cell? ⟨gb112, 1, none⟩ = some (.bool false) := (blk_cell BK112.out 1).trans rfl
    have hfz21_0 := blk_frozen BK112.out 0
    have hfz21_1 := blk_frozen BK112.out 1
    go_wp2
    refine bodyPost_ret (results_ct rfl _ _ gb112 74 #[.int .i64 0, .bool false] (0, 0) _ rfl (by (with_reducible repeat (first | refine blk_drewN ?_ _ | refine blk_drew ?_ | refine blk_alloc ?_ _)); refine blk_put (cs := #[.int .i64 0, .bool false]) ?_ 1 _ rfl; (with_reducible repeat (first | refine blk_drewN ?_ _ | refine blk_drew ?_ | refine blk_alloc ?_ _)); refine blk_put (cs := #[.int .i64 0, .bool false]) ?_ 0 _ rfl; (with_reducible repeat (first | refine blk_drewN ?_ _ | refine blk_drew ?_ | refine blk_alloc ?_ _)); exact BK112.out) Tryz.underlying74 rfl (by kernel_rfl)) rfl ?_
    exact ⟨by first | rfl | (simp [errW_none, errW_some] <;> rfl) | (simp [*, errW_none, errW_some] <;> rfl), bu HB.out⟩
   ·replace c19 := Bool.eq_false_iff.mpr c19
    subst c19
    have H1 : ((impl_Tone_valid.f (wrap64 (a0_0 + a1)) a2).bind fun t115 => (if t115 = true then (some (wrap64 (a0_0 + a1), a2, true)) else (some (0, false, false)))) = some (r1, r2, r3) := by rw [if_neg (show ¬ (false = true) by decide)] at H; exact H
    clear H
    have H := H1
    clear H1
    replace H := Option.bind_eq_some_iff.mp H
    obtain ⟨t115, A220, H⟩ := H
    replace H : (if t115 = true then (some (wrap64 (a0_0 + a1), a2, true)) else (some (0, false, false))) = some (r1, r2, r3) := H
    have A22 := am A220
    clear A220
    by_cases c23 : t115 = true
    ·subst c23
     have H1 : (some (wrap64 (a0_0 + a1), a2, true)) = some (r1, r2, r3) := by rw [if_pos rfl] at H; exact H
     clear H
     have H := H1
     clear H1
     simp only [Option.some.injEq, Prod.mk.injEq] at H
     obtain ⟨rfl, rfl, rfl⟩ := H
     have hnb24 := NB111_112.out
     have hnc24 := NB112_111.out
     have hcz25_0 : wc.cell? ⟨gb111, 0, none⟩ = some (.int .i64 a0_0) := (blk_cell BK111.out 0).trans rfl
     have hcz25_1 : wc.cell? ⟨gb111, 1, none⟩ = some (.bool a0_1) := (blk_cell BK111.out 1).trans rfl
     have hfz25_0 := blk_frozen BK111.out 0
     have hfz25_1 := blk_frozen BK111.out 1
     go_wp2_with (first | ((with_reducible refine gate_dst (N := 8) rfl ?_); refine box_event ?hg (N := 8) ?hd (cs := #[.int .i64 0, .bool false]) (t := 74) ?hr ?_; (case hd => rfl); (case hg => rfl); (case hr => first | (go_simp; done) | (go_simp; rfl)); intro gb114 hg w26 hbox hb; have n0_ := am (blk_below (g := gb111) (o := .cells #[.int .i64 a0_0, .bool a0_1] 74 (0, 0)) (gu BK111.out) hb); have n1_ := am (blk_below (g := gb112) (o := .cells #[.int .i64 0, .bool false] 74 (0, 0)) (gu BK112.out) hb); have n2_ := am (below_step (bu HB.out) hb); have n3_ := am (hbox); have n4_ := am ((by rw [hg]; exact (below_size (bu HB.out)) : w.heap.size ≤ gb114)); have n5_ := am ((by rw [hg]; exact (below_size (bu HB.out)) : w.heap.size ≤ gb114)); have n6_ := am ((by rw [hg]; exact Nat.ne_of_lt (blk_lt (g := gb111) (o := .cells #[.int .i64 a0_0, .bool a0_1] 74 (0, 0)) (gu BK111.out)) : gb111 ≠ gb114)); have n7_ := am ((by rw [hg]; exact Nat.ne_of_gt (blk_lt (g := gb111) (o := .cells #[.int .i64 a0_0, .bool a0_1] 74 (0, 0)) (gu BK111.out)) : gb114 ≠ gb111)); have n8_ := am ((by rw [hg]; exact Nat.ne_of_lt (blk_lt (g := gb112) (o := .cells #[.int .i64 0, .bool false] 74 (0, 0)) (gu BK112.out)) : gb112 ≠ gb114)); have n9_ := am ((by rw [hg]; exact Nat.ne_of_gt (blk_lt (g := gb112) (o := .cells #[.int .i64 0, .bool false] 74 (0, 0)) (gu BK112.out)) : gb114 ≠ gb112)); clear BK111; clear BK112; clear HB; have BK111 := n0_; have BK112 := n1_; have HB := n2_; have BK114 := n3_; have GW114 := n4_; have GE114 := n5_; have NB111_114 := n6_; have NB114_111 := n7_; have NB112_114 := n8_; have NB114_112 := n9_; clear n0_ n1_ n2_ n3_ n4_ n5_ n6_ n7_ n8_ n9_; clear hb hbox hg; have hnb27 := NB114_111.out; have hnc27 := NB111_114.out; have hnb28 := NB114_112.out; have hnc28 := NB112_114.out; have hcz29_0 : w26.cell? ⟨gb114, 0, none⟩ = some (.int .i64 0) := (blk_cell BK114.out 0).trans rfl; have hcz29_1 : w26.cell? ⟨gb114, 1, none⟩ = some (.bool false) := (blk_cell BK114.out 1).trans rfl; have hfz29_0 := blk_frozen BK114.out 0; have hfz29_1 := blk_frozen BK114.out 1) | ((with_reducible refine gate_callee (f := 91) rfl ?_); refine goesL_ (some 28) rfl rfl Tryz.func91 (by kernel_rfl) rfl #[.agg #[.int .i64 (wrap64 (a0_0 + a1)), .bool a2]] rfl (by (try simp only [List.map_toArray, List.map_cons, List.map_nil]); first | done | rfl | (simp only [List.length_drop, List.length_take]; rfl)) ?_; (with_reducible refine (impl_Tone_valid.calls (wrap64 (a0_0 + a1)) a2 true _ A22.out).mono ?_); rintro e w30 ⟨rfl, hb⟩; refine ⟨_, rfl, ?_⟩; have n0_ := am (blk_below (g := gb111) (o := .cells #[.int .i64 a0_0, .bool a0_1] 74 (0, 0)) (by (with_reducible repeat (first | refine blk_drewN ?_ _ | refine blk_drew ?_ | refine blk_alloc ?_ _)); refine blk_far ?_ NB111_114.out _; (with_reducible repeat (first | refine blk_drewN ?_ _ | refine blk_drew ?_ | refine blk_alloc ?_ _)); refine blk_far ?_ NB111_114.out _; (with_reducible repeat (first | refine blk_drewN ?_ _ | refine blk_drew ?_ | refine blk_alloc ?_ _)); exact BK111.out) hb); have n1_ := am (blk_below (g := gb112) (o := .cells #[.int .i64 0, .bool false] 74 (0, 0)) (by (with_reducible repeat (first | refine blk_drewN ?_ _ | refine blk_drew ?_ | refine blk_alloc ?_ _)); refine blk_far ?_ NB112_114.out _; (with_reducible repeat (first | refine blk_drewN ?_ _ | refine blk_drew ?_ | refine blk_alloc ?_ _)); refine blk_far ?_ NB112_114.out _; (with_reducible repeat (first | refine blk_drewN ?_ _ | refine blk_drew ?_ | refine blk_alloc ?_ _)); exact BK112.out) hb); have n2_ := am (blk_below (g := gb114) (o := .cells #[.int .i64 (wrap64 (a0_0 + a1)), .bool a2] 74 (0, 0)) (by (with_reducible repeat (first | refine blk_drewN ?_ _ | refine blk_drew ?_ | refine blk_alloc ?_ _)); refine blk_put (cs := #[.int .i64 (wrap64 (a0_0 + a1)), .bool false]) ?_ 1 _ rfl; (with_reducible repeat (first | refine blk_drewN ?_ _ | refine blk_drew ?_ | refine blk_alloc ?_ _)); refine blk_put (cs := #[.int .i64 0, .bool false]) ?_ 0 _ rfl; (with_reducible repeat (first | refine blk_drewN ?_ _ | refine blk_drew ?_ | refine blk_alloc ?_ _)); exact BK114.out) hb); have n3_ := am (below_step (bu HB.out) hb); clear BK111; clear BK112; clear BK114; clear HB; have BK111 := n0_; have BK112 := n1_; have BK114 := n2_; have HB := n3_; clear n0_ n1_ n2_ n3_; (try clear hb); (try clear hb2); (try clear hk); (try clear hi); have hcz31_0 : w30.cell? ⟨gb114, 0, none⟩ = some (.int .i64 (wrap64 (a0_0 + a1))) := (blk_cell BK114.out 0).trans rfl; have hcz31_1 : w30.cell? ⟨gb114, 1, none⟩ = some (.bool a2) := (blk_cell BK114.out 1).trans rfl; have hfz31_0 := blk_frozen BK114.out 0; have hfz31_1 := blk_frozen BK114.out 1; have hcz32_0 : w30.cell? ⟨gb112, 0, none⟩ = some (.int .i64 0) := (blk_cell BK112.out 0).trans rfl; have hcz32_1 : w30.cell? ⟨gb112, 1, none⟩ = some (.bool false) := (blk_cell BK112.out 1).trans rfl; have hfz32_0 := blk_frozen BK112.out 0; have hfz32_1 := blk_frozen BK112.out 1))
     refine bodyPost_ret (results_ct rfl _ _ gb112 74 #[.int .i64 (wrap64 (a0_0 + a1)), .bool a2] (0, 0) _ rfl (by (with_reducible repeat (first | refine blk_drewN ?_ _ | refine blk_drew ?_ | refine blk_alloc ?_ _)); refine blk_put (cs := #[.int .i64 (wrap64 (a0_0 + a1)), .bool false]) ?_ 1 _ rfl; (with_reducible repeat (first | refine blk_drewN ?_ _ | refine blk_drew ?_ | refine blk_alloc ?_ _)); refine blk_put (cs := #[.int .i64 0, .bool false]) ?_ 0 _ rfl; (with_reducible repeat (first | refine blk_drewN ?_ _ | refine blk_drew ?_ | refine blk_alloc ?_ _)); exact BK112.out) Tryz.underlying74 rfl (by kernel_rfl)) rfl ?_
     exact ⟨by first | rfl | (simp [errW_none, errW_some] <;> rfl) | (simp [*, errW_none, errW_some] <;> rfl), bu HB.out⟩
    ·replace c23 := Bool.eq_false_iff.mpr c23
     subst c23
     have H1 : (some (0, false, false)) = some (r1, r2, r3) := by rw [if_neg (show ¬ (false = true) by decide)] at H; exact H
     clear H
     have H := H1
     clear H1
     simp only [Option.some.injEq, Prod.mk.injEq] at H
     obtain ⟨rfl, rfl, rfl⟩ := H
     have hnb33 := NB111_112.out
     have hnc33 := NB112_111.out
     have hcz34_0 : wc.cell? ⟨gb111, 0, none⟩ = some (.int .i64 a0_0) := (blk_cell BK111.out 0).trans rfl
     have hcz34_1 : wc.cell? ⟨gb111, 1, none⟩ = some (.bool a0_1) := (blk_cell BK111.out 1).trans rfl
     have hfz34_0 := blk_frozen BK111.out 0
     have hfz34_1 := blk_frozen BK111.out 1
     go_wp2_with (first | ((with_reducible refine gate_dst (N := 8) rfl ?_); refine box_event ?hg (N := 8) ?hd (cs := #[.int .i64 0, .bool false]) (t := 74) ?hr ?_; (case hd => rfl); (case hg => rfl); (case hr => first | (go_simp; done) | (go_simp; rfl)); intro gb114 hg w35 hbox hb; have n0_ := am (blk_below (g := gb111) (o := .cells #[.int .i64 a0_0, .bool a0_1] 74 (0, 0)) (gu BK111.out) hb); have n1_ := am (blk_below (g := gb112) (o := .cells #[.int .i64 0, .bool false] 74 (0, 0)) (gu BK112.out) hb); have n2_ := am (below_step (bu HB.out) hb); have n3_ := am (hbox); have n4_ := am ((by rw [hg]; exact (below_size (bu HB.out)) : w.heap.size ≤ gb114)); have n5_ := am ((by rw [hg]; exact (below_size (bu HB.out)) : w.heap.size ≤ gb114)); have n6_ := am ((by rw [hg]; exact Nat.ne_of_lt (blk_lt (g := gb111) (o := .cells #[.int .i64 a0_0, .bool a0_1] 74 (0, 0)) (gu BK111.out)) : gb111 ≠ gb114)); have n7_ := am ((by rw [hg]; exact Nat.ne_of_gt (blk_lt (g := gb111) (o := .cells #[.int .i64 a0_0, .bool a0_1] 74 (0, 0)) (gu BK111.out)) : gb114 ≠ gb111)); have n8_ := am ((by rw [hg]; exact Nat.ne_of_lt (blk_lt (g := gb112) (o := .cells #[.int .i64 0, .bool false] 74 (0, 0)) (gu BK112.out)) : gb112 ≠ gb114)); have n9_ := am ((by rw [hg]; exact Nat.ne_of_gt (blk_lt (g := gb112) (o := .cells #[.int .i64 0, .bool false] 74 (0, 0)) (gu BK112.out)) : gb114 ≠ gb112)); clear BK111; clear BK112; clear HB; have BK111 := n0_; have BK112 := n1_; have HB := n2_; have BK114 := n3_; have GW114 := n4_; have GE114 := n5_; have NB111_114 := n6_; have NB114_111 := n7_; have NB112_114 := n8_; have NB114_112 := n9_; clear n0_ n1_ n2_ n3_ n4_ n5_ n6_ n7_ n8_ n9_; clear hb hbox hg; have hnb36 := NB114_111.out; have hnc36 := NB111_114.out; have hnb37 := NB114_112.out; have hnc37 := NB112_114.out; have hcz38_0 : w35.cell? ⟨gb114, 0, none⟩ = some (.int .i64 0) := (blk_cell BK114.out 0).trans rfl; have hcz38_1 : w35.cell? ⟨gb114, 1, none⟩ = some (.bool false) := (blk_cell BK114.out 1).trans rfl; have hfz38_0 := blk_frozen BK114.out 0; have hfz38_1 := blk_frozen BK114.out 1) | ((with_reducible refine gate_callee (f := 91) rfl ?_); refine goesL_ (some 28) rfl rfl Tryz.func91 (by kernel_rfl) rfl #[.agg #[.int .i64 (wrap64 (a0_0 + a1)), .bool a2]] rfl (by (try simp only [List.map_toArray, List.map_cons, List.map_nil]); first | done | rfl | (simp only [List.length_drop, List.length_take]; rfl)) ?_; (with_reducible refine (impl_Tone_valid.calls (wrap64 (a0_0 + a1)) a2 false _ A22.out).mono ?_); rintro e w39 ⟨rfl, hb⟩; refine ⟨_, rfl, ?_⟩; have n0_ := am (blk_below (g := gb111) (o := .cells #[.int .i64 a0_0, .bool a0_1] 74 (0, 0)) (by (with_reducible repeat (first | refine blk_drewN ?_ _ | refine blk_drew ?_ | refine blk_alloc ?_ _)); refine blk_far ?_ NB111_114.out _; (with_reducible repeat (first | refine blk_drewN ?_ _ | refine blk_drew ?_ | refine blk_alloc ?_ _)); refine blk_far ?_ NB111_114.out _; (with_reducible repeat (first | refine blk_drewN ?_ _ | refine blk_drew ?_ | refine blk_alloc ?_ _)); exact BK111.out) hb); have n1_ := am (blk_below (g := gb112) (o := .cells #[.int .i64 0, .bool false] 74 (0, 0)) (by (with_reducible repeat (first | refine blk_drewN ?_ _ | refine blk_drew ?_ | refine blk_alloc ?_ _)); refine blk_far ?_ NB112_114.out _; (with_reducible repeat (first | refine blk_drewN ?_ _ | refine blk_drew ?_ | refine blk_alloc ?_ _)); refine blk_far ?_ NB112_114.out _; (with_reducible repeat (first | refine blk_drewN ?_ _ | refine blk_drew ?_ | refine blk_alloc ?_ _)); exact BK112.out) hb); have n2_ := am (blk_below (g := gb114) (o := .cells #[.int .i64 (wrap64 (a0_0 + a1)), .bool a2] 74 (0, 0)) (by (with_reducible repeat (first | refine blk_drewN ?_ _ | refine blk_drew ?_ | refine blk_alloc ?_ _)); refine blk_put (cs := #[.int .i64 (wrap64 (a0_0 + a1)), .bool false]) ?_ 1 _ rfl; (with_reducible repeat (first | refine blk_drewN ?_ _ | refine blk_drew ?_ | refine blk_alloc ?_ _)); refine blk_put (cs := #[.int .i64 0, .bool false]) ?_ 0 _ rfl; (with_reducible repeat (first | refine blk_drewN ?_ _ | refine blk_drew ?_ | refine blk_alloc ?_ _)); exact BK114.out) hb); have n3_ := am (below_step (bu HB.out) hb); clear BK111; clear BK112; clear BK114; clear HB; have BK111 := n0_; have BK112 := n1_; have BK114 := n2_; have HB := n3_; clear n0_ n1_ n2_ n3_; (try clear hb); (try clear hb2); (try clear hk); (try clear hi); have hcz40_0 : w39.cell? ⟨gb112, 0, none⟩ = some (.int .i64 0) := (blk_cell BK112.out 0).trans rfl; have hcz40_1 : w39.cell? ⟨gb112, 1, none⟩ = some (.bool false) := (blk_cell BK112.out 1).trans rfl; have hfz40_0 := blk_frozen BK112.out 0; have hfz40_1 := blk_frozen BK112.out 1))
     refine bodyPost_ret (results_ct rfl _ _ gb112 74 #[.int .i64 0, .bool false] (0, 0) _ rfl (by (with_reducible repeat (first | refine blk_drewN ?_ _ | refine blk_drew ?_ | refine blk_alloc ?_ _)); refine blk_put (cs := #[.int .i64 0, .bool false]) ?_ 1 _ rfl; (with_reducible repeat (first | refine blk_drewN ?_ _ | refine blk_drew ?_ | refine blk_alloc ?_ _)); refine blk_put (cs := #[.int .i64 0, .bool false]) ?_ 0 _ rfl; (with_reducible repeat (first | refine blk_drewN ?_ _ | refine blk_drew ?_ | refine blk_alloc ?_ _)); exact BK112.out) Tryz.underlying74 rfl (by kernel_rfl)) rfl ?_
     exact ⟨by first | rfl | (simp [errW_none, errW_some] <;> rfl) | (simp [*, errW_none, errW_some] <;> rfl), bu HB.out⟩

def letHt (r : Nat) : Int := if r = 0 then 0 else if r = 1 then 2 else if r = 2 then 4 else if r = 3 then 5 else if r = 4 then 7 else if r = 5 then 9 else 10
def impl_Tone_height.f (a0 : Int) (b0 : Bool) : Option Int := if 0 ≤ a0 then (if a0 < 1000 then some (letHt (a0 % 7).toNat + 12 * (a0 / 7) - (if b0 = true then 1 else 0)) else none) else none
set_option maxHeartbeats 2000000 in
set_option maxRecDepth 100000 in
theorem impl_Tone_height.calls (a0 : Int) (b0 : Bool) (r : Int) (w : World) (hTH : TabH w) (h : impl_Tone_height.f a0 b0 = some r) :
  Calls Tryz.prog 56 #[.agg #[.int .i64 a0, .bool b0]] w fun e w' => e = .returned (.int .i64 r) ∧ Below w.heap.size w w' := by
 have hu2 := Tryz.underlying74
 have hT := hTH.alloc (.cells #[.int .i64 a0, .bool b0] 74)
 have HB0 := am (below_alloc (Below.refl w.heap.size w) (.cells #[.int .i64 a0, .bool b0] 74))
 unfold impl_Tone_height.f at h
 by_cases h0 : 0 ≤ a0
 ·by_cases h1 : a0 < 1000
  ·rw [if_pos h0, if_pos h1] at h
   have e1 := Option.some.inj h
   subst e1
   have hx : a0 % 7 = 0 ∨ a0 % 7 = 1 ∨ a0 % 7 = 2 ∨ a0 % 7 = 3 ∨ a0 % 7 = 4 ∨ a0 % 7 = 5 ∨ a0 % 7 = 6 := by omega
   have c0 : (w.alloc (.cells #[.int .i64 a0, .bool b0] 74)).cell? ⟨1, 0, none⟩ = some (.int .i64 0) := hT 0 _ rfl
   have c1 : (w.alloc (.cells #[.int .i64 a0, .bool b0] 74)).cell? ⟨1, 1, none⟩ = some (.int .i64 2) := hT 1 _ rfl
   have c2 : (w.alloc (.cells #[.int .i64 a0, .bool b0] 74)).cell? ⟨1, 2, none⟩ = some (.int .i64 4) := hT 2 _ rfl
   have c3 : (w.alloc (.cells #[.int .i64 a0, .bool b0] 74)).cell? ⟨1, 3, none⟩ = some (.int .i64 5) := hT 3 _ rfl
   have c4 : (w.alloc (.cells #[.int .i64 a0, .bool b0] 74)).cell? ⟨1, 4, none⟩ = some (.int .i64 7) := hT 4 _ rfl
   have c5 : (w.alloc (.cells #[.int .i64 a0, .bool b0] 74)).cell? ⟨1, 5, none⟩ = some (.int .i64 9) := hT 5 _ rfl
   have c6 : (w.alloc (.cells #[.int .i64 a0, .bool b0] 74)).cell? ⟨1, 6, none⟩ = some (.int .i64 10) := hT 6 _ rfl
   clear hT hTH h
   have k0 : (w.alloc (.cells #[.int .i64 a0, .bool b0] 74)).cell? ⟨w.heap.size, 0, none⟩ = some (.int .i64 a0) := blk_cell (blk_new w _) 0
   have k1 : (w.alloc (.cells #[.int .i64 a0, .bool b0] 74)).cell? ⟨w.heap.size, 1, none⟩ = some (.bool b0) := blk_cell (blk_new w _) 1
   have htm : a0.tmod 7 = a0 % 7 := Int.tmod_eq_emod_of_nonneg h0
   have htd : a0.tdiv 7 = a0 / 7 := Int.tdiv_eq_ediv_of_nonneg h0
   obtain ⟨q, hq⟩ : ∃ q, q = a0 / 7 := ⟨_, rfl⟩
   have hq0 : 0 ≤ q := by omega
   have hq1 : q < 200 := by omega
   rw [← hq] at htd
   rw [← hq]
   rcases hx with hx | hx | hx | hx | hx | hx | hx
   all_goals
    rw [hx]
    rw [hx] at htm
    have w1 : IntKind.i64.wrap (12 * q) = 12 * q := IntWalk.i64_in _ (by omega)
    have w2 : IntKind.i64.wrap (letHt (Int.toNat (a0 % 7)) + 12 * q) = letHt (Int.toNat (a0 % 7)) + 12 * q := by
     rw [hx]
     exact IntWalk.i64_in _ (by simp [letHt]; omega)
    have w3 : -9223372036854775808 ≤ letHt (Int.toNat (a0 % 7)) + 12 * q - 1 := by
     rw [hx]
     simp [letHt]
     omega
    rw [hx] at w2 w3
    obtain ⟨S, hS⟩ : ∃ S, S = letHt (Int.toNat (a0 % 7)) + 12 * q := ⟨_, rfl⟩
    rw [hx] at hS
    rw [← hS] at w2 w3
    rw [← hS]
    have w4 : S ≤ 100000 := by
     rw [hS]
     simp [letHt]
     omega
    cases b0
    all_goals
     go_enter Tryz.func56, Tryz.ntmps56
     go_wp2_with fail
     go_quiet (fail)
     go_wp2
     all_goals first
      | (exact absurd ‹false = true› (by decide))
      | (exact absurd rfl ‹¬ true = true›)
      | (go_ret; refine ⟨?_, pw_below_drewN HB0.out _⟩; refine congrArg Ending.returned (congrArg (Value.int IntKind.i64) ?_); first | rfl | (simp [letHt]; done) | (simp [letHt]; omega))
  ·rw [if_pos h0, if_neg h1] at h
   exact absurd h (by simp)
 ·rw [if_neg h0] at h
  exact absurd h (by simp)


/-- A linked melody. -/
def IsList (w : World) : Option Addr → List S74 → Prop
 | p, [] => p = none
 | p, t :: ts => ∃ (g : Nat) (q : Option Addr), p = some ⟨g, 0, none⟩ ∧ w.heap[g]? = some (.cells #[.int .i64 t.f0, .bool t.f1, .pointer q] 84 (0, 0)) ∧ IsList w q ts
theorem IsList.below {w w1 : World} (hb : Below w.heap.size w w1) : ∀ {ts : List S74} {p : Option Addr}, IsList w p ts → IsList w1 p ts
 | [], _, h => h
 | t :: ts, p, h => by
  obtain ⟨g, q, rfl, hg, hr⟩ := h
  refine ⟨g, q, rfl, ?_, IsList.below hb hr⟩
  have hlt : g < w.heap.size := (Array.getElem?_eq_some_iff.1 hg).1
  rw [hb.block g hlt]
  exact hg
theorem rdLk_at (l : List S74) (i : Nat) (h : i < l.length) : rd_T74 l (i : Int) = l[i] := by
 simp [rd_T74, List.getD_eq_getElem?_getD, h]
set_option maxHeartbeats 2000000 in
set_option maxRecDepth 100000 in
theorem linked_any (A0 : Option Addr) (c0 : Nat) (l0 : List S74) (w : World) (hr0 : Kd.C k74 w A0 l0.length l0) (hc0 : l0.length ≤ c0) (hl : l0.length ≤ 100) :
  Calls Tryz.prog 61 #[.slice A0 l0.length c0] w fun e w' => ∃ p, e = .returned (.pointer p) ∧ IsList w' p l0 ∧ Below w.heap.size w w' := by
 have hu1 := Tryz.underlying84
 have hu2 := Tryz.underlying74
 have HR0 := am hr0
 have HC0 := am hc0
 clear hr0 hc0
 go_enter Tryz.func61, Tryz.ntmps61
 go_wp2_with fail
 go_loopg [3, 4] l0.length (fun kq v3 v4 w' => ∃ (i : Nat) (p : Option Addr), v4 = .int .i64 ((i : Int) - 1) ∧ v3 = .pointer p ∧ Aside0 (i ≤ l0.length ∧ kq = i) ∧ Aside0 (IsList w' p (l0.drop i)) ∧ Aside0 (Below w.heap.size w w'))
 case atStart => exact ⟨l0.length, none, rfl, rfl, ⟨Nat.le_refl _, rfl⟩, ⟨by rw [List.drop_eq_nil_of_le (Nat.le_refl _)]; rfl⟩, ⟨Below.refl _ _⟩⟩
 case round =>
  obtain ⟨i, p, rfl, rfl, HI, HL, HB⟩ := hrel
  by_cases h0 : i = 0
  ·subst h0
   go_wp2
   go_ret
   exact ⟨p, rfl, HL.out, HB.out⟩
  ·obtain ⟨j, rfl⟩ : ∃ j, i = j + 1 := ⟨i - 1, by omega⟩
   have hlt : j < l0.length := by have := HI.out.1; omega
   have ej : ((j + 1 : Nat) : Int) - 1 = (j : Int) := by omega
   rw [ej]
   obtain ⟨ad, e1, hx0, hx1⟩ := at_T74 (Kd.C_below HR0.out HB.out) (j : Int) (by omega) (by omega)
   cases e1
   simp only [Int.toNat_natCast] at hx0 hx1
   rw [rdLk_at l0 j hlt] at hx0 hx1
   go_wp2
   go_roundg j
   case measure => have := HI.out; omega
   case rel =>
    refine ⟨j, some ⟨wr.heap.size, 0, none⟩, rfl, rfl, ⟨by have := HI.out.1; omega, rfl⟩, ⟨?_⟩, ⟨below_alloc HB.out _⟩⟩
    rw [List.drop_eq_getElem_cons hlt]
    exact ⟨wr.heap.size, p, rfl, blk_new _ _, IsList.below (below_alloc (Below.refl _ _) _) HL.out⟩


-- INNER impl_linked
/-! ### tones, by hand -/
def toneOk (s : Int) (b : Bool) : Bool := decide (0 ≤ s) && (decide (s ≤ 20) && (!b || decide (s % 7 = 2)))
def htI (s : Int) (b : Bool) : Int := letHt (s % 7).toNat + 12 * (s / 7) - (if b = true then 1 else 0)
theorem toneOk_bd {s : Int} {b : Bool} (h : toneOk s b = true) : 0 ≤ s ∧ s ≤ 20 := by
 unfold toneOk at h
 simp only [Bool.and_eq_true, decide_eq_true_eq] at h
 exact ⟨h.1, h.2.1⟩
theorem valid_tone (s : Int) (b : Bool) : impl_Tone_valid.f s b = some (toneOk s b) := by
 unfold impl_Tone_valid.f toneOk
 by_cases h0 : 0 ≤ s
 ·by_cases h1 : s ≤ 20
  ·rw [if_pos h0, if_pos h1, Int.tmod_eq_emod_of_nonneg h0]
   cases b
   ·simp [h0, h1]
   ·simp only [if_true, h0, h1, decide_true, Bool.true_and, Bool.not_true, Bool.false_or]
    rfl
  ·rw [if_pos h0, if_neg h1]
   simp [h1]
 ·rw [if_neg h0]
  simp [h0]
theorem TabH.below {w w1 : World} (h : TabH w) (hb : Below w.heap.size w w1) : TabH w1 := TabAt.below h hb
theorem height_any (s : Int) (b : Bool) (w : World) (hTH : TabH w) (h : toneOk s b = true) :
  Calls Tryz.prog 56 #[.agg #[.int .i64 s, .bool b]] w fun e w' => e = .returned (.int .i64 (htI s b)) ∧ Below w.heap.size w w' := by
 have := toneOk_bd h
 refine impl_Tone_height.calls s b (htI s b) w hTH ?_
 unfold impl_Tone_height.f htI
 rw [if_pos (by omega), if_pos (by omega)]
theorem letHt_bd (r : Nat) : 0 ≤ letHt r ∧ letHt r ≤ 10 := by
 unfold letHt
 repeat' split
 all_goals omega
theorem htI_bd {s : Int} {b : Bool} (h : toneOk s b = true) : -1 ≤ htI s b ∧ htI s b ≤ 60 := by
 have h1 := toneOk_bd h
 have h2 := letHt_bd (s % 7).toNat
 unfold htI
 split <;> omega


end Go.Proofs.YtjnkmckklmabcaaGreatDoor.XM
