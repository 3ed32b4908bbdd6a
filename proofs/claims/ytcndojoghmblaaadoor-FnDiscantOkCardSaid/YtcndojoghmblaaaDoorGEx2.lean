-- Made by this session's gprint.py out of the translation. Not trusted: Lean checks it.
import Derived.Test.YtcndojoghmblaaaDoorGEx0
namespace Go.Proofs.YtcndojoghmblaaaDoor.GE
open Go.RowKit Go.Proofs.YtcndojoghmblaaaDoorW.PrintWords Go.Proofs.YtcndojoghmblaaaDoorW.PrintLast Go.Proofs.YtcndojoghmblaaaDoorW.PrintMore
attribute [local go_sem] max2_int min2_int max_two min_two max_three min_three max_four min_four   -- for this text's walks alone
set_option linter.unusedVariables false
set_option linter.unusedSimpArgs false

/-! ### impl_Tone_valid: function 76 -/
def impl_Tone_valid.f (a0_0 : Int) (a0_1 : Bool) : Option (Bool) := if a0_0 ≥ 0 then (if a0_0 ≤ 20 then (if a0_1 = true then (some ((Int.tmod a0_0 7) == 2)) else (some true)) else (some false)) else (some false)
set_option maxHeartbeats 8000000 in
set_option maxRecDepth 100000 in
theorem impl_Tone_valid.calls (a0_0 : Int) (a0_1 : Bool) (r : Bool) (w : World) (h : impl_Tone_valid.f a0_0 a0_1 = some r) :
  Calls Tryd.prog 76 #[.agg #[.int .i64 a0_0, .bool a0_1]] w fun e w' => e = .returned (.bool r) ∧ Below w.heap.size w w' := by
 have hu30 := Tryd.underlying30
 have HB := am (Below.refl w.heap.size w)
 have H : (if a0_0 ≥ 0 then (if a0_0 ≤ 20 then (if a0_1 = true then (some ((Int.tmod a0_0 7) == 2)) else (some true)) else (some false)) else (some false)) = some r := h
 clear h
 by_cases c2 : a0_0 ≥ 0
 ·rw [if_pos c2] at H
  have c2b0 : decide (0 ≤ a0_0) = true := decide_eq_true c2
  clear c2
  by_cases c3 : a0_0 ≤ 20
  ·rw [if_pos c3] at H
   have c3b0 : decide (a0_0 ≤ 20) = true := decide_eq_true c3
   clear c3
   by_cases c4 : a0_1 = true
   ·subst c4
    have H1 : (some ((Int.tmod a0_0 7) == 2)) = some r := by rw [if_pos rfl] at H; exact H
    clear H
    have H := H1
    clear H1
    obtain rfl := Option.some.inj H
    go_enter Tryd.func76, Tryd.ntmps76
    go_wp2_with (first | ((with_reducible refine gate_dst (N := 1) rfl ?_); refine box_event ?hg (N := 1) ?hd (cs := #[.int .i64 a0_0, .bool true]) (t := 30) ?hr ?_; (case hd => rfl); (case hg => rfl); (case hr => first | (go_simp; done) | (go_simp; rfl)); intro gb101 hg w5 hbox hb; have n0_ := am (below_step (bu HB.out) hb); have n1_ := am (hbox); have n2_ := am ((by rw [hg]; exact (below_size (bu HB.out)) : w.heap.size ≤ gb101)); have n3_ := am ((by rw [hg]; exact (below_size (bu HB.out)) : w.heap.size ≤ gb101)); clear HB; have HB := n0_; have BK101 := n1_; have GW101 := n2_; have GE101 := n3_; clear n0_ n1_ n2_ n3_; clear hb hbox hg; have hcz6_0 : w5.cell? ⟨gb101, 0, none⟩ = some (.int .i64 a0_0) := (blk_cell BK101.out 0).trans rfl; have hcz6_1 : w5.cell? ⟨gb101, 1, none⟩ = some (.bool true) := (blk_cell BK101.out 1).trans rfl; have hfz6_0 := blk_frozen BK101.out 0; have hfz6_1 := blk_frozen BK101.out 1))
    go_ret
    exact ⟨by first | rfl | (simp [errW_none, errW_some] <;> rfl) | (simp [*, errW_none, errW_some] <;> rfl), bu HB.out⟩
   ·replace c4 := Bool.eq_false_iff.mpr c4
    subst c4
    have H1 : (some true) = some r := by rw [if_neg (show ¬ (false = true) by decide)] at H; exact H
    clear H
    have H := H1
    clear H1
    obtain rfl := Option.some.inj H
    go_enter Tryd.func76, Tryd.ntmps76
    go_wp2_with (first | ((with_reducible refine gate_dst (N := 1) rfl ?_); refine box_event ?hg (N := 1) ?hd (cs := #[.int .i64 a0_0, .bool false]) (t := 30) ?hr ?_; (case hd => rfl); (case hg => rfl); (case hr => first | (go_simp; done) | (go_simp; rfl)); intro gb101 hg w7 hbox hb; have n0_ := am (below_step (bu HB.out) hb); have n1_ := am (hbox); have n2_ := am ((by rw [hg]; exact (below_size (bu HB.out)) : w.heap.size ≤ gb101)); have n3_ := am ((by rw [hg]; exact (below_size (bu HB.out)) : w.heap.size ≤ gb101)); clear HB; have HB := n0_; have BK101 := n1_; have GW101 := n2_; have GE101 := n3_; clear n0_ n1_ n2_ n3_; clear hb hbox hg; have hcz8_0 : w7.cell? ⟨gb101, 0, none⟩ = some (.int .i64 a0_0) := (blk_cell BK101.out 0).trans rfl; have hcz8_1 : w7.cell? ⟨gb101, 1, none⟩ = some (.bool false) := (blk_cell BK101.out 1).trans rfl; have hfz8_0 := blk_frozen BK101.out 0; have hfz8_1 := blk_frozen BK101.out 1))
    go_ret
    exact ⟨by first | rfl | (simp [errW_none, errW_some] <;> rfl) | (simp [*, errW_none, errW_some] <;> rfl), bu HB.out⟩
  ·rw [if_neg c3] at H
   have c3b0 : decide (a0_0 ≤ 20) = false := decide_eq_false c3
   clear c3
   obtain rfl := Option.some.inj H
   go_enter Tryd.func76, Tryd.ntmps76
   go_wp2_with (first | ((with_reducible refine gate_dst (N := 1) rfl ?_); refine box_event ?hg (N := 1) ?hd (cs := #[.int .i64 a0_0, .bool a0_1]) (t := 30) ?hr ?_; (case hd => rfl); (case hg => rfl); (case hr => first | (go_simp; done) | (go_simp; rfl)); intro gb101 hg w9 hbox hb; have n0_ := am (below_step (bu HB.out) hb); have n1_ := am (hbox); have n2_ := am ((by rw [hg]; exact (below_size (bu HB.out)) : w.heap.size ≤ gb101)); have n3_ := am ((by rw [hg]; exact (below_size (bu HB.out)) : w.heap.size ≤ gb101)); clear HB; have HB := n0_; have BK101 := n1_; have GW101 := n2_; have GE101 := n3_; clear n0_ n1_ n2_ n3_; clear hb hbox hg; have hcz10_0 : w9.cell? ⟨gb101, 0, none⟩ = some (.int .i64 a0_0) := (blk_cell BK101.out 0).trans rfl; have hcz10_1 : w9.cell? ⟨gb101, 1, none⟩ = some (.bool a0_1) := (blk_cell BK101.out 1).trans rfl; have hfz10_0 := blk_frozen BK101.out 0; have hfz10_1 := blk_frozen BK101.out 1))
   go_ret
   exact ⟨by first | rfl | (simp [errW_none, errW_some] <;> rfl) | (simp [*, errW_none, errW_some] <;> rfl), bu HB.out⟩
 ·rw [if_neg c2] at H
  have c2b0 : decide (0 ≤ a0_0) = false := decide_eq_false c2
  clear c2
  obtain rfl := Option.some.inj H
  go_enter Tryd.func76, Tryd.ntmps76
  go_wp2_with (first | ((with_reducible refine gate_dst (N := 1) rfl ?_); refine box_event ?hg (N := 1) ?hd (cs := #[.int .i64 a0_0, .bool a0_1]) (t := 30) ?hr ?_; (case hd => rfl); (case hg => rfl); (case hr => first | (go_simp; done) | (go_simp; rfl)); intro gb101 hg w11 hbox hb; have n0_ := am (below_step (bu HB.out) hb); have n1_ := am (hbox); have n2_ := am ((by rw [hg]; exact (below_size (bu HB.out)) : w.heap.size ≤ gb101)); have n3_ := am ((by rw [hg]; exact (below_size (bu HB.out)) : w.heap.size ≤ gb101)); clear HB; have HB := n0_; have BK101 := n1_; have GW101 := n2_; have GE101 := n3_; clear n0_ n1_ n2_ n3_; clear hb hbox hg; have hcz12_0 : w11.cell? ⟨gb101, 0, none⟩ = some (.int .i64 a0_0) := (blk_cell BK101.out 0).trans rfl; have hcz12_1 : w11.cell? ⟨gb101, 1, none⟩ = some (.bool a0_1) := (blk_cell BK101.out 1).trans rfl; have hfz12_0 := blk_frozen BK101.out 0; have hfz12_1 := blk_frozen BK101.out 1))
  go_ret
  exact ⟨by first | rfl | (simp [errW_none, errW_some] <;> rfl) | (simp [*, errW_none, errW_some] <;> rfl), bu HB.out⟩

/-! ### impl_PartValid: function 84 -/
def impl_PartValid.l0 : Nat → Int → List (S44) → Int → Int → Option (Bool)
 | 0, _, _, _, _ => none
 | k + 1, x3, x9, x10, x11 => if x11 < x10 then (if 0 ≤ x11 then (if x11 < (x9.length : Int) then ((impl_Tone_valid.f ((rd_T44 x9 x11).f0.f0) ((rd_T44 x9 x11).f0.f1)).bind fun t104 => (if t104 = true then (if ((rd_T44 x9 x11).f1) < 1 then (some false) else (if ((rd_T44 x9 x11).f1) > 3 then (some false) else (impl_PartValid.l0 k (wrap64 (x3 + ((rd_T44 x9 x11).f1))) x9 x10 (wrap64 (x11 + 1))))) else (some false))) else (none)) else (none)) else (some (decide (x3 ≤ 24)))
def impl_PartValid.f (k : Nat) (l0 : List (S44)) : Option (Bool) := if (l0.length : Int) > 12 then (some false) else (impl_PartValid.l0 k 0 l0 (l0.length : Int) 0)
set_option maxHeartbeats 8000000 in
set_option maxRecDepth 100000 in
theorem impl_PartValid.calls (k : Nat) (A0 : Option Addr) (c0 : Nat) (l0 : List (S44)) (r : Bool) (w : World) (hr0 : Kd.C k44 w A0 l0.length l0) (hc0 : l0.length ≤ c0) (h : impl_PartValid.f k l0 = some r) :
  Calls Tryd.prog 84 #[.slice A0 l0.length c0] w fun e w' => e = .returned (.bool r) ∧ Below w.heap.size w w' := by
 have hu44 := Tryd.underlying44
 have hu30 := Tryd.underlying30
 have HR0 := am hr0
 have HC0 := am hc0
 clear hr0 hc0
 have HB := am (Below.refl w.heap.size w)
 have H : (if (l0.length : Int) > 12 then (some false) else (impl_PartValid.l0 k 0 l0 (l0.length : Int) 0)) = some r := h
 clear h
 by_cases c2 : (l0.length : Int) > 12
 ·rw [if_pos c2] at H
  have c2b0 : decide (12 < (l0.length : Int)) = true := decide_eq_true c2
  have c2b1 : decide (12 < l0.length) = true := decide_eq_true (by omega)
  clear c2
  obtain rfl := Option.some.inj H
  go_enter Tryd.func84, Tryd.ntmps84
  go_wp2
  go_ret
  exact ⟨by first | rfl | (simp [errW_none, errW_some] <;> rfl) | (simp [*, errW_none, errW_some] <;> rfl), bu HB.out⟩
 ·rw [if_neg c2] at H
  have c2b0 : decide (12 < (l0.length : Int)) = false := decide_eq_false c2
  have c2b1 : decide (12 < l0.length) = false := decide_eq_false (by omega)
  clear c2
  have H' := am H
  clear H
  go_enter Tryd.func84, Tryd.ntmps84
  go_wp2
  go_loopg [3, 11] k (fun kq v3 v11 w' => ∃ (x3_1 : Int) (x11_1 : Int), v3 = .int .i64 x3_1 ∧ v11 = .int .i64 x11_1 ∧ Aside0 (impl_PartValid.l0 kq x3_1 l0 (l0.length : Int) x11_1 = some r) ∧ Aside0 (kq ≤ k) ∧ Aside0 (Below w.heap.size w w'))
  case atStart => exact ⟨(0), (0), (by first | rfl | (simp; done) | (simp [*]; done)), (by first | rfl | (simp; done) | (simp [*]; done)), H', ⟨Nat.le_refl _⟩, ⟨bu HB.out⟩⟩
  case round =>
   clear H'
   try clear c2
   try clear c2b0
   try clear c2b1
   try clear p2
   obtain ⟨x3_1, x11_1, rfl, rfl, HA, HK1, HB⟩ := hrel
   cases gk with
   | zero => exact absurd HA.out (by simp [impl_PartValid.l0])
   | succ k1 =>
    have H := HA.out
    clear HA
    simp only [impl_PartValid.l0] at H
    by_cases c3 : x11_1 < (l0.length : Int)
    ·rw [if_pos c3] at H
     have c3b0 : decide (x11_1 < (l0.length : Int)) = true := decide_eq_true c3
     clear c3
     by_cases c4 : 0 ≤ x11_1
     ·rw [if_pos c4] at H
      have c4b0 : decide (0 ≤ x11_1) = true := decide_eq_true c4
      clear c4
      by_cases c5 : x11_1 < (l0.length : Int)
      ·rw [if_pos c5] at H
       have c5b0 : decide (x11_1 < (l0.length : Int)) = true := decide_eq_true c5
       clear c5
       replace H := Option.bind_eq_some_iff.mp H
       obtain ⟨t104, A60, H⟩ := H
       replace H : (if t104 = true then (if ((rd_T44 l0 x11_1).f1) < 1 then (some false) else (if ((rd_T44 l0 x11_1).f1) > 3 then (some false) else (impl_PartValid.l0 k1 (wrap64 (x3_1 + ((rd_T44 l0 x11_1).f1))) l0 (l0.length : Int) (wrap64 (x11_1 + 1))))) else (some false)) = some r := H
       have A6 := am A60
       clear A60
       by_cases c7 : t104 = true
       ·subst c7
        have H1 : (if ((rd_T44 l0 x11_1).f1) < 1 then (some false) else (if ((rd_T44 l0 x11_1).f1) > 3 then (some false) else (impl_PartValid.l0 k1 (wrap64 (x3_1 + ((rd_T44 l0 x11_1).f1))) l0 (l0.length : Int) (wrap64 (x11_1 + 1))))) = some r := by rw [if_pos rfl] at H; exact H
        clear H
        have H := H1
        clear H1
        by_cases c8 : ((rd_T44 l0 x11_1).f1) < 1
        ·rw [if_pos c8] at H
         have c8b0 : decide (((rd_T44 l0 x11_1).f1) < 1) = true := decide_eq_true c8
         clear c8
         obtain rfl := Option.some.inj H
         have p102 : 0 ≤ (x11_1 : Int) := od
         have q102 : x11_1 < (l0.length : Int) := od
         obtain ⟨ad102, e102, hx102_0, hx102_1, hx102_2⟩ := at_T44 HR0.out x11_1 p102 q102
         cases e102
         replace hx102_0 := (HB.out.cell (World.block_lt_of_cell? w _ hx102_0)).trans hx102_0
         replace hx102_1 := (HB.out.cell (World.block_lt_of_cell? w _ hx102_1)).trans hx102_1
         replace hx102_2 := (HB.out.cell (World.block_lt_of_cell? w _ hx102_2)).trans hx102_2
         replace p102 := eq_true p102
         replace q102 := eq_true q102
         go_wp2_with (first | ((with_reducible refine gate_dst (N := 5) rfl ?_); refine box_event ?hg (N := 5) ?hd (cs := #[.int .i64 0, .bool false, .int .i64 0]) (t := 44) ?hr ?_; (case hd => rfl); (case hg => rfl); (case hr => first | (go_simp; done) | (go_simp; rfl)); intro gb103 hg w9 hbox hb; have n0_ := am (below_step (bu HB.out) hb); have n1_ := am (hbox); have n2_ := am ((by rw [hg]; exact (below_size (bu HB.out)) : w.heap.size ≤ gb103)); have n3_ := am ((by rw [hg]; exact (below_size (bu HB.out)) : w.heap.size ≤ gb103)); clear HB; have HB := n0_; have BK103 := n1_; have GW103 := n2_; have GE103 := n3_; clear n0_ n1_ n2_ n3_; clear hb hbox hg; have hcz10_0 : w9.cell? ⟨gb103, 0, none⟩ = some (.int .i64 0) := (blk_cell BK103.out 0).trans rfl; have hcz10_1 : w9.cell? ⟨gb103, 1, none⟩ = some (.bool false) := (blk_cell BK103.out 1).trans rfl; have hcz10_2 : w9.cell? ⟨gb103, 2, none⟩ = some (.int .i64 0) := (blk_cell BK103.out 2).trans rfl; have hfz10_0 := blk_frozen BK103.out 0; have hfz10_1 := blk_frozen BK103.out 1; have hfz10_2 := blk_frozen BK103.out 2) | ((with_reducible refine gate_callee (f := 76) rfl ?_); refine goesL_ (some 17) rfl rfl Tryd.func76 (by kernel_rfl) rfl #[.agg #[.int .i64 ((rd_T44 l0 x11_1).f0.f0), .bool ((rd_T44 l0 x11_1).f0.f1)]] rfl (by (try simp only [List.map_toArray, List.map_cons, List.map_nil]); first | done | rfl | (simp only [List.length_drop, List.length_take]; rfl)) ?_; (with_reducible refine (impl_Tone_valid.calls ((rd_T44 l0 x11_1).f0.f0) ((rd_T44 l0 x11_1).f0.f1) true _ A6.out).mono ?_); rintro e w11 ⟨rfl, hb⟩; refine ⟨_, rfl, ?_⟩; have n0_ := am (blk_below (g := gb103) (o := .cells #[.int .i64 ((rd_T44 l0 x11_1).f0.f0), .bool ((rd_T44 l0 x11_1).f0.f1), .int .i64 ((rd_T44 l0 x11_1).f1)] 44 (0, 0)) (by (with_reducible repeat (first | refine blk_drewN ?_ _ | refine blk_drew ?_ | refine blk_alloc ?_ _)); refine blk_put (cs := #[.int .i64 ((rd_T44 l0 x11_1).f0.f0), .bool ((rd_T44 l0 x11_1).f0.f1), .int .i64 0]) ?_ 2 _ rfl; (with_reducible repeat (first | refine blk_drewN ?_ _ | refine blk_drew ?_ | refine blk_alloc ?_ _)); refine blk_put (cs := #[.int .i64 ((rd_T44 l0 x11_1).f0.f0), .bool false, .int .i64 0]) ?_ 1 _ rfl; (with_reducible repeat (first | refine blk_drewN ?_ _ | refine blk_drew ?_ | refine blk_alloc ?_ _)); refine blk_put (cs := #[.int .i64 0, .bool false, .int .i64 0]) ?_ 0 _ rfl; (with_reducible repeat (first | refine blk_drewN ?_ _ | refine blk_drew ?_ | refine blk_alloc ?_ _)); exact BK103.out) hb); have n1_ := am (below_step (bu HB.out) hb); clear BK103; clear HB; have BK103 := n0_; have HB := n1_; clear n0_ n1_; (try clear hb); (try clear hb2); (try clear hk); (try clear hi); have hcz12_0 : w11.cell? ⟨gb103, 0, none⟩ = some (.int .i64 ((rd_T44 l0 x11_1).f0.f0)) := (blk_cell BK103.out 0).trans rfl; have hcz12_1 : w11.cell? ⟨gb103, 1, none⟩ = some (.bool ((rd_T44 l0 x11_1).f0.f1)) := (blk_cell BK103.out 1).trans rfl; have hcz12_2 : w11.cell? ⟨gb103, 2, none⟩ = some (.int .i64 ((rd_T44 l0 x11_1).f1)) := (blk_cell BK103.out 2).trans rfl; have hfz12_0 := blk_frozen BK103.out 0; have hfz12_1 := blk_frozen BK103.out 1; have hfz12_2 := blk_frozen BK103.out 2))
         go_ret
         exact ⟨by first | rfl | (simp [errW_none, errW_some] <;> rfl) | (simp [*, errW_none, errW_some] <;> rfl), bu HB.out⟩
        ·rw [if_neg c8] at H
         have c8b0 : decide (((rd_T44 l0 x11_1).f1) < 1) = false := decide_eq_false c8
         clear c8
         by_cases c13 : ((rd_T44 l0 x11_1).f1) > 3
         ·rw [if_pos c13] at H
          have c13b0 : decide (3 < ((rd_T44 l0 x11_1).f1)) = true := decide_eq_true c13
          clear c13
          obtain rfl := Option.some.inj H
          have p102 : 0 ≤ (x11_1 : Int) := od
          have q102 : x11_1 < (l0.length : Int) := od
          obtain ⟨ad102, e102, hx102_0, hx102_1, hx102_2⟩ := at_T44 HR0.out x11_1 p102 q102
          cases e102
          replace hx102_0 := (HB.out.cell (World.block_lt_of_cell? w _ hx102_0)).trans hx102_0
          replace hx102_1 := (HB.out.cell (World.block_lt_of_cell? w _ hx102_1)).trans hx102_1
          replace hx102_2 := (HB.out.cell (World.block_lt_of_cell? w _ hx102_2)).trans hx102_2
          replace p102 := eq_true p102
          replace q102 := eq_true q102
          go_wp2_with (first | ((with_reducible refine gate_dst (N := 5) rfl ?_); refine box_event ?hg (N := 5) ?hd (cs := #[.int .i64 0, .bool false, .int .i64 0]) (t := 44) ?hr ?_; (case hd => rfl); (case hg => rfl); (case hr => first | (go_simp; done) | (go_simp; rfl)); intro gb103 hg w14 hbox hb; have n0_ := am (below_step (bu HB.out) hb); have n1_ := am (hbox); have n2_ := am ((by rw [hg]; exact (below_size (bu HB.out)) : w.heap.size ≤ gb103)); have n3_ := am ((by rw [hg]; exact (below_size (bu HB.out)) : w.heap.size ≤ gb103)); clear HB; have HB := n0_; have BK103 := n1_; have GW103 := n2_; have GE103 := n3_; clear n0_ n1_ n2_ n3_; clear hb hbox hg; have hcz15_0 : w14.cell? ⟨gb103, 0, none⟩ = some (.int .i64 0) := (blk_cell BK103.out 0).trans rfl; have hcz15_1 : w14.cell? ⟨gb103, 1, none⟩ = some (.bool false) := (blk_cell BK103.out 1).trans rfl; have hcz15_2 : w14.cell? ⟨gb103, 2, none⟩ = some (.int .i64 0) := (blk_cell BK103.out 2).trans rfl; have hfz15_0 := blk_frozen BK103.out 0; have hfz15_1 := blk_frozen BK103.out 1; have hfz15_2 := blk_frozen BK103.out 2) | ((with_reducible refine gate_callee (f := 76) rfl ?_); refine goesL_ (some 17) rfl rfl Tryd.func76 (by kernel_rfl) rfl #[.agg #[.int .i64 ((rd_T44 l0 x11_1).f0.f0), .bool ((rd_T44 l0 x11_1).f0.f1)]] rfl (by (try simp only [List.map_toArray, List.map_cons, List.map_nil]); first | done | rfl | (simp only [List.length_drop, List.length_take]; rfl)) ?_; (with_reducible refine (impl_Tone_valid.calls ((rd_T44 l0 x11_1).f0.f0) ((rd_T44 l0 x11_1).f0.f1) true _ A6.out).mono ?_); rintro e w16 ⟨rfl, hb⟩; refine ⟨_, rfl, ?_⟩; have n0_ := am (blk_below (g := gb103) (o := .cells #[.int .i64 ((rd_T44 l0 x11_1).f0.f0), .bool ((rd_T44 l0 x11_1).f0.f1), .int .i64 ((rd_T44 l0 x11_1).f1)] 44 (0, 0)) (by (with_reducible repeat (first | refine blk_drewN ?_ _ | refine blk_drew ?_ | refine blk_alloc ?_ _)); refine blk_put (cs := #[.int .i64 ((rd_T44 l0 x11_1).f0.f0), .bool ((rd_T44 l0 x11_1).f0.f1), .int .i64 0]) ?_ 2 _ rfl; (with_reducible repeat (first | refine blk_drewN ?_ _ | refine blk_drew ?_ | refine blk_alloc ?_ _)); refine blk_put (cs := #[.int .i64 ((rd_T44 l0 x11_1).f0.f0), .bool false, .int .i64 0]) ?_ 1 _ rfl; (with_reducible repeat (first | refine blk_drewN ?_ _ | refine blk_drew ?_ | refine blk_alloc ?_ _)); refine blk_put (cs := #[.int .i64 0, .bool false, .int .i64 0]) ?_ 0 _ rfl; (with_reducible repeat (first | refine blk_drewN ?_ _ | refine blk_drew ?_ | refine blk_alloc ?_ _)); exact BK103.out) hb); have n1_ := am (below_step (bu HB.out) hb); clear BK103; clear HB; have BK103 := n0_; have HB := n1_; clear n0_ n1_; (try clear hb); (try clear hb2); (try clear hk); (try clear hi); have hcz17_0 : w16.cell? ⟨gb103, 0, none⟩ = some (.int .i64 ((rd_T44 l0 x11_1).f0.f0)) := (blk_cell BK103.out 0).trans rfl; have hcz17_1 : w16.cell? ⟨gb103, 1, none⟩ = some (.bool ((rd_T44 l0 x11_1).f0.f1)) := (blk_cell BK103.out 1).trans rfl; have hcz17_2 : w16.cell? ⟨gb103, 2, none⟩ = some (.int .i64 ((rd_T44 l0 x11_1).f1)) := (blk_cell BK103.out 2).trans rfl; have hfz17_0 := blk_frozen BK103.out 0; have hfz17_1 := blk_frozen BK103.out 1; have hfz17_2 := blk_frozen BK103.out 2))
          go_ret
          exact ⟨by first | rfl | (simp [errW_none, errW_some] <;> rfl) | (simp [*, errW_none, errW_some] <;> rfl), bu HB.out⟩
         ·rw [if_neg c13] at H
          have c13b0 : decide (3 < ((rd_T44 l0 x11_1).f1)) = false := decide_eq_false c13
          clear c13
          have H' := am H
          clear H
          have p102 : 0 ≤ (x11_1 : Int) := od
          have q102 : x11_1 < (l0.length : Int) := od
          obtain ⟨ad102, e102, hx102_0, hx102_1, hx102_2⟩ := at_T44 HR0.out x11_1 p102 q102
          cases e102
          replace hx102_0 := (HB.out.cell (World.block_lt_of_cell? w _ hx102_0)).trans hx102_0
          replace hx102_1 := (HB.out.cell (World.block_lt_of_cell? w _ hx102_1)).trans hx102_1
          replace hx102_2 := (HB.out.cell (World.block_lt_of_cell? w _ hx102_2)).trans hx102_2
          replace p102 := eq_true p102
          replace q102 := eq_true q102
          go_wp2_with (first | ((with_reducible refine gate_dst (N := 5) rfl ?_); refine box_event ?hg (N := 5) ?hd (cs := #[.int .i64 0, .bool false, .int .i64 0]) (t := 44) ?hr ?_; (case hd => rfl); (case hg => rfl); (case hr => first | (go_simp; done) | (go_simp; rfl)); intro gb103 hg w18 hbox hb; have n0_ := am (below_step (bu HB.out) hb); have n1_ := am (hbox); have n2_ := am ((by rw [hg]; exact (below_size (bu HB.out)) : w.heap.size ≤ gb103)); have n3_ := am ((by rw [hg]; exact (below_size (bu HB.out)) : w.heap.size ≤ gb103)); clear HB; have HB := n0_; have BK103 := n1_; have GW103 := n2_; have GE103 := n3_; clear n0_ n1_ n2_ n3_; clear hb hbox hg; have hcz19_0 : w18.cell? ⟨gb103, 0, none⟩ = some (.int .i64 0) := (blk_cell BK103.out 0).trans rfl; have hcz19_1 : w18.cell? ⟨gb103, 1, none⟩ = some (.bool false) := (blk_cell BK103.out 1).trans rfl; have hcz19_2 : w18.cell? ⟨gb103, 2, none⟩ = some (.int .i64 0) := (blk_cell BK103.out 2).trans rfl; have hfz19_0 := blk_frozen BK103.out 0; have hfz19_1 := blk_frozen BK103.out 1; have hfz19_2 := blk_frozen BK103.out 2) | ((with_reducible refine gate_callee (f := 76) rfl ?_); refine goesL_ (some 17) rfl rfl Tryd.func76 (by kernel_rfl) rfl #[.agg #[.int .i64 ((rd_T44 l0 x11_1).f0.f0), .bool ((rd_T44 l0 x11_1).f0.f1)]] rfl (by (try simp only [List.map_toArray, List.map_cons, List.map_nil]); first | done | rfl | (simp only [List.length_drop, List.length_take]; rfl)) ?_; (with_reducible refine (impl_Tone_valid.calls ((rd_T44 l0 x11_1).f0.f0) ((rd_T44 l0 x11_1).f0.f1) true _ A6.out).mono ?_); rintro e w20 ⟨rfl, hb⟩; refine ⟨_, rfl, ?_⟩; have n0_ := am (blk_below (g := gb103) (o := .cells #[.int .i64 ((rd_T44 l0 x11_1).f0.f0), .bool ((rd_T44 l0 x11_1).f0.f1), .int .i64 ((rd_T44 l0 x11_1).f1)] 44 (0, 0)) (by (with_reducible repeat (first | refine blk_drewN ?_ _ | refine blk_drew ?_ | refine blk_alloc ?_ _)); refine blk_put (cs := #[.int .i64 ((rd_T44 l0 x11_1).f0.f0), .bool ((rd_T44 l0 x11_1).f0.f1), .int .i64 0]) ?_ 2 _ rfl; (with_reducible repeat (first | refine blk_drewN ?_ _ | refine blk_drew ?_ | refine blk_alloc ?_ _)); refine blk_put (cs := #[.int .i64 ((rd_T44 l0 x11_1).f0.f0), .bool false, .int .i64 0]) ?_ 1 _ rfl; (with_reducible repeat (first | refine blk_drewN ?_ _ | refine blk_drew ?_ | refine blk_alloc ?_ _)); refine blk_put (cs := #[.int .i64 0, .bool false, .int .i64 0]) ?_ 0 _ rfl; (with_reducible repeat (first | refine blk_drewN ?_ _ | refine blk_drew ?_ | refine blk_alloc ?_ _)); exact BK103.out) hb); have n1_ := am (below_step (bu HB.out) hb); clear BK103; clear HB; have BK103 := n0_; have HB := n1_; clear n0_ n1_; (try clear hb); (try clear hb2); (try clear hk); (try clear hi); have hcz21_0 : w20.cell? ⟨gb103, 0, none⟩ = some (.int .i64 ((rd_T44 l0 x11_1).f0.f0)) := (blk_cell BK103.out 0).trans rfl; have hcz21_1 : w20.cell? ⟨gb103, 1, none⟩ = some (.bool ((rd_T44 l0 x11_1).f0.f1)) := (blk_cell BK103.out 1).trans rfl; have hcz21_2 : w20.cell? ⟨gb103, 2, none⟩ = some (.int .i64 ((rd_T44 l0 x11_1).f1)) := (blk_cell BK103.out 2).trans rfl; have hfz21_0 := blk_frozen BK103.out 0; have hfz21_1 := blk_frozen BK103.out 1; have hfz21_2 := blk_frozen BK103.out 2))
          go_roundg k1
          case measure => have := HK1.out; omega
          case rel => exact ⟨(wrap64 (x3_1 + ((rd_T44 l0 x11_1).f1))), (wrap64 (x11_1 + 1)), (by first | rfl | (simp; done) | (simp [*]; done)), (by first | rfl | (simp; done) | (simp [*]; done)), H', ⟨by have := HK1.out; omega⟩, ⟨bu HB.out⟩⟩
       ·replace c7 := Bool.eq_false_iff.mpr c7
        subst c7
        have H1 : (some false) = some r := by rw [if_neg (show ¬ (false = true) by decide)] at H; exact H
        clear H
        have H := H1
        clear H1
        obtain rfl := Option.some.inj H
        have p102 : 0 ≤ (x11_1 : Int) := od
        have q102 : x11_1 < (l0.length : Int) := od
        obtain ⟨ad102, e102, hx102_0, hx102_1, hx102_2⟩ := at_T44 HR0.out x11_1 p102 q102
        cases e102
        replace hx102_0 := (HB.out.cell (World.block_lt_of_cell? w _ hx102_0)).trans hx102_0
        replace hx102_1 := (HB.out.cell (World.block_lt_of_cell? w _ hx102_1)).trans hx102_1
        replace hx102_2 := (HB.out.cell (World.block_lt_of_cell? w _ hx102_2)).trans hx102_2
        replace p102 := eq_true p102
        replace q102 := eq_true q102
        go_wp2_with (first | ((with_reducible refine gate_dst (N := 5) rfl ?_); refine box_event ?hg (N := 5) ?hd (cs := #[.int .i64 0, .bool false, .int .i64 0]) (t := 44) ?hr ?_; (case hd => rfl); (case hg => rfl); (case hr => first | (go_simp; done) | (go_simp; rfl)); intro gb103 hg w22 hbox hb; have n0_ := am (below_step (bu HB.out) hb); have n1_ := am (hbox); have n2_ := am ((by rw [hg]; exact (below_size (bu HB.out)) : w.heap.size ≤ gb103)); have n3_ := am ((by rw [hg]; exact (below_size (bu HB.out)) : w.heap.size ≤ gb103)); clear HB; have HB := n0_; have BK103 := n1_; have GW103 := n2_; have GE103 := n3_; clear n0_ n1_ n2_ n3_; clear hb hbox hg; have hcz23_0 : w22.cell? ⟨gb103, 0, none⟩ = some (.int .i64 0) := (blk_cell BK103.out 0).trans rfl; have hcz23_1 : w22.cell? ⟨gb103, 1, none⟩ = some (.bool false) := (blk_cell BK103.out 1).trans rfl; have hcz23_2 : w22.cell? ⟨gb103, 2, none⟩ = some (.int .i64 0) := (blk_cell BK103.out 2).trans rfl; have hfz23_0 := blk_frozen BK103.out 0; have hfz23_1 := blk_frozen BK103.out 1; have hfz23_2 := blk_frozen BK103.out 2) | ((with_reducible refine gate_callee (f := 76) rfl ?_); refine goesL_ (some 17) rfl rfl Tryd.func76 (by kernel_rfl) rfl #[.agg #[.int .i64 ((rd_T44 l0 x11_1).f0.f0), .bool ((rd_T44 l0 x11_1).f0.f1)]] rfl (by (try simp only [List.map_toArray, List.map_cons, List.map_nil]); first | done | rfl | (simp only [List.length_drop, List.length_take]; rfl)) ?_; (with_reducible refine (impl_Tone_valid.calls ((rd_T44 l0 x11_1).f0.f0) ((rd_T44 l0 x11_1).f0.f1) false _ A6.out).mono ?_); rintro e w24 ⟨rfl, hb⟩; refine ⟨_, rfl, ?_⟩; have n0_ := am (blk_below (g := gb103) (o := .cells #[.int .i64 ((rd_T44 l0 x11_1).f0.f0), .bool ((rd_T44 l0 x11_1).f0.f1), .int .i64 ((rd_T44 l0 x11_1).f1)] 44 (0, 0)) (by (with_reducible repeat (first | refine blk_drewN ?_ _ | refine blk_drew ?_ | refine blk_alloc ?_ _)); refine blk_put (cs := #[.int .i64 ((rd_T44 l0 x11_1).f0.f0), .bool ((rd_T44 l0 x11_1).f0.f1), .int .i64 0]) ?_ 2 _ rfl; (with_reducible repeat (first | refine blk_drewN ?_ _ | refine blk_drew ?_ | refine blk_alloc ?_ _)); refine blk_put (cs := #[.int .i64 ((rd_T44 l0 x11_1).f0.f0), .bool false, .int .i64 0]) ?_ 1 _ rfl; (with_reducible repeat (first | refine blk_drewN ?_ _ | refine blk_drew ?_ | refine blk_alloc ?_ _)); refine blk_put (cs := #[.int .i64 0, .bool false, .int .i64 0]) ?_ 0 _ rfl; (with_reducible repeat (first | refine blk_drewN ?_ _ | refine blk_drew ?_ | refine blk_alloc ?_ _)); exact BK103.out) hb); have n1_ := am (below_step (bu HB.out) hb); clear BK103; clear HB; have BK103 := n0_; have HB := n1_; clear n0_ n1_; (try clear hb); (try clear hb2); (try clear hk); (try clear hi)))
        go_ret
        exact ⟨by first | rfl | (simp [errW_none, errW_some] <;> rfl) | (simp [*, errW_none, errW_some] <;> rfl), bu HB.out⟩
      ·rw [if_neg c5] at H
       exact absurd H (by simp)
     ·rw [if_neg c4] at H
      exact absurd H (by simp)
    ·rw [if_neg c3] at H
     have c3b0 : decide (x11_1 < (l0.length : Int)) = false := decide_eq_false c3
     clear c3
     obtain rfl := Option.some.inj H
     go_wp2
     go_ret
     exact ⟨by first | rfl | (simp [errW_none, errW_some] <;> rfl) | (simp [*, errW_none, errW_some] <;> rfl), bu HB.out⟩

-- INNER impl_beatRing_add
-- INNER impl_ringOf
/-! ### the ring of beats, by hand -/
def rp (B : Nat → Nat) (i n : Nat) : Value := if n = 0 then .pointer none else .pointer (some ⟨B i, 0, none⟩)
abbrev nodeOf (t : S30) (x : Nat) : Obj := .cells #[.int .i64 t.f0, .bool t.f1, .pointer (some ⟨x, 0, none⟩)] 160
/-- The ring at block g: its beats lie in the blocks B 0, B 1, .., each leading to the next one, the last one to the first. -/
structure IsRing (W0 w : World) (g : Nat) (B : Nat → Nat) (ts : List S30) : Prop where
 below : Below W0.heap.size W0 w
 hg : W0.heap.size ≤ g
 ring : w.heap[g]? = some (.cells #[rp B 0 ts.length, rp B (ts.length - 1) ts.length, .int .i64 (ts.length : Int)] 94 (0, 0))
 node : ∀ i (h : i < ts.length), w.heap[B i]? = some (nodeOf ts[i] (B (if i + 1 = ts.length then 0 else i + 1)))
 base : ∀ i, i < ts.length → W0.heap.size ≤ B i
 inj : ∀ i j, i < ts.length → j < ts.length → B i = B j → i = j
theorem IsRing.mono {W0 w w1 : World} {g : Nat} {B : Nat → Nat} {ts : List S30} (h : IsRing W0 w g B ts) (hb : Below w.heap.size w w1) : IsRing W0 w1 g B ts :=
 ⟨below_step h.below hb, h.hg, blk_below h.ring hb, fun i hi => blk_below (h.node i hi) hb, h.base, h.inj⟩
theorem IsRing.empty0 {W0 w : World} (hb : Below W0.heap.size W0 w) : IsRing W0 (w.alloc (.cells #[.pointer none, .pointer none, .int .i64 0] 94)) w.heap.size (fun _ => 0) [] :=
 ⟨below_alloc hb _, hb.size, blk_new w _, fun i hi => absurd hi (Nat.not_lt_zero _), fun i hi => absurd hi (Nat.not_lt_zero _), fun i j hi => absurd hi (Nat.not_lt_zero _)⟩
theorem IsRing.first {W0 w : World} {g : Nat} {B : Nat → Nat} (h : IsRing W0 w g B []) (t : S30) (X : Obj) :
  IsRing W0 (((((w.setCell ⟨g, 0, none⟩ (.pointer (some ⟨w.heap.size + 1, 0, none⟩))).setCell ⟨g, 1, none⟩ (.pointer (some ⟨w.heap.size + 1, 0, none⟩))).setCell ⟨g, 2, none⟩ (.int .i64 1)).alloc X).alloc (nodeOf t (w.heap.size + 1))) g (fun _ => w.heap.size + 1) [t] := by
 have hr := h.ring
 have hs : ∀ (v1 v2 v3 : Value) (p1 p2 p3 : Addr), (((w.setCell p1 v1).setCell p2 v2).setCell p3 v3).heap.size = w.heap.size := fun _ _ _ _ _ _ => by simp [World.setCell]
 refine ⟨?_, h.hg, ?_, ?_, ?_, ?_⟩
 ·exact below_alloc (below_alloc (below_set (below_set (below_set h.below h.hg) h.hg) h.hg) _) _
 ·refine blk_alloc (blk_alloc ?_ _) _
  exact blk_put (blk_put (blk_put hr 0 _ rfl) 1 _ rfl) 2 _ rfl
 ·intro i hi
  have hi0 : i = 0 := by simpa using hi
  subst hi0
  have := blk_new ((((w.setCell ⟨g, 0, none⟩ (.pointer (some ⟨w.heap.size + 1, 0, none⟩))).setCell ⟨g, 1, none⟩ (.pointer (some ⟨w.heap.size + 1, 0, none⟩))).setCell ⟨g, 2, none⟩ (.int .i64 1)).alloc X) (nodeOf t (w.heap.size + 1))
  rw [show ((((w.setCell ⟨g, 0, none⟩ (.pointer (some ⟨w.heap.size + 1, 0, none⟩))).setCell ⟨g, 1, none⟩ (.pointer (some ⟨w.heap.size + 1, 0, none⟩))).setCell ⟨g, 2, none⟩ (.int .i64 1)).alloc X).heap.size = w.heap.size + 1 by simp [World.setCell, World.alloc]] at this
  simpa using this
 ·intro i hi
  have := h.below.size
  omega
 ·intro i j hi hj _
  simp at hi hj
  omega
theorem IsRing.more {W0 w : World} {g : Nat} {B : Nat → Nat} {ts : List S30} (h : IsRing W0 w g B ts) (hn : 0 < ts.length) (t : S30) (X : Obj) :
  IsRing W0 (((((w.setCell ⟨B (ts.length - 1), 2, none⟩ (.pointer (some ⟨w.heap.size + 1, 0, none⟩))).setCell ⟨g, 1, none⟩ (.pointer (some ⟨w.heap.size + 1, 0, none⟩))).setCell ⟨g, 2, none⟩ (.int .i64 ((ts.length : Int) + 1))).alloc X).alloc (nodeOf t (B 0))) g (fun i => if i = ts.length then w.heap.size + 1 else B i) (ts ++ [t]) := by
 have hr := h.ring
 have hB : ∀ i, i < ts.length → B i < w.heap.size := fun i hi => blk_lt (h.node i hi)
 have hgB : ∀ i, i < ts.length → g ≠ B i := fun i hi => blk_ne hr (h.node i hi) (by decide)
 have hl : ts.length - 1 < ts.length := by omega
 have hz : (((w.setCell ⟨B (ts.length - 1), 2, none⟩ (.pointer (some ⟨w.heap.size + 1, 0, none⟩))).setCell ⟨g, 1, none⟩ (.pointer (some ⟨w.heap.size + 1, 0, none⟩))).setCell ⟨g, 2, none⟩ (.int .i64 ((ts.length : Int) + 1))).heap.size = w.heap.size := by simp [World.setCell]
 have e0 : ¬ (ts.length = 0) := by omega
 refine ⟨?_, h.hg, ?_, ?_, ?_, ?_⟩
 ·exact below_alloc (below_alloc (below_set (below_set (below_set h.below (h.base _ hl)) h.hg) h.hg) _) _
 ·refine blk_alloc (blk_alloc ?_ _) _
  have h1 := blk_far (p := ⟨B (ts.length - 1), 2, none⟩) hr (hgB _ hl) (.pointer (some ⟨w.heap.size + 1, 0, none⟩))
  have h3 := blk_put (blk_put h1 1 (.pointer (some ⟨w.heap.size + 1, 0, none⟩)) rfl) 2 (.int .i64 ((ts.length : Int) + 1)) rfl
  rw [h3]
  simp [rp, e0, Array.setIfInBounds]
  intro h
  omega
 ·intro i hi
  rw [List.length_append, List.length_singleton] at hi
  by_cases hit : i = ts.length
  ·subst hit
   have := blk_new ((((w.setCell ⟨B (ts.length - 1), 2, none⟩ (.pointer (some ⟨w.heap.size + 1, 0, none⟩))).setCell ⟨g, 1, none⟩ (.pointer (some ⟨w.heap.size + 1, 0, none⟩))).setCell ⟨g, 2, none⟩ (.int .i64 ((ts.length : Int) + 1))).alloc X) (nodeOf t (B 0))
   rw [show ((((w.setCell ⟨B (ts.length - 1), 2, none⟩ (.pointer (some ⟨w.heap.size + 1, 0, none⟩))).setCell ⟨g, 1, none⟩ (.pointer (some ⟨w.heap.size + 1, 0, none⟩))).setCell ⟨g, 2, none⟩ (.int .i64 ((ts.length : Int) + 1))).alloc X).heap.size = w.heap.size + 1 by simp [World.setCell, World.alloc]] at this
   have e2 : ¬ (0 = ts.length) := fun e => e0 e.symm
   simpa [e2] using this
  ·have hil : i < ts.length := by omega
   refine blk_alloc (blk_alloc ?_ _) _
   have hnd := h.node i hil
   have e3 : (ts ++ [t])[i]'(by simp; omega) = ts[i] := List.getElem_append_left hil
   have e4 : (if i + 1 = (ts ++ [t]).length then 0 else i + 1) = i + 1 := if_neg (by simp; omega)
   rw [e3, if_neg hit, e4]
   have hgi : B i ≠ g := fun e => hgB _ hil e.symm
   by_cases hlast : i = ts.length - 1
   ·subst hlast
    rw [if_pos (by omega)]
    exact blk_far (p := ⟨g, 2, none⟩) (blk_far (p := ⟨g, 1, none⟩) (blk_put hnd 2 _ rfl) hgi _) hgi _
   ·rw [if_neg (by omega)] at hnd
    rw [if_neg (by omega)]
    exact blk_far (p := ⟨g, 2, none⟩) (blk_far (p := ⟨g, 1, none⟩) (blk_far (p := ⟨B (ts.length - 1), 2, none⟩) hnd (fun e => hlast (h.inj _ _ hil hl e)) _) hgi _) hgi _
 ·intro i hi
  rw [List.length_append, List.length_singleton] at hi
  by_cases hit : i = ts.length
  ·rw [if_pos hit]
   have := h.below.size
   omega
  ·rw [if_neg hit]
   exact h.base i (by omega)
 ·intro i j hi hj e
  rw [List.length_append, List.length_singleton] at hi hj
  by_cases hit : i = ts.length <;> by_cases hjt : j = ts.length
  ·omega
  ·rw [if_pos hit, if_neg hjt] at e
   have := hB j (by omega)
   omega
  ·rw [if_neg hit, if_pos hjt] at e
   have := hB i (by omega)
   omega
  ·rw [if_neg hit, if_neg hjt] at e
   exact h.inj i j (by omega) (by omega) e
set_option maxHeartbeats 1000000 in
set_option maxRecDepth 100000 in
theorem add_first (g : Nat) (t : S30) (w : World) (h0 : w.heap[g]? = some (.cells #[.pointer none, .pointer none, .int .i64 0] 94 (0, 0))) :
  Calls Tryd.prog 127 #[.pointer (some ⟨g, 0, none⟩), .agg #[.int .i64 t.f0, .bool t.f1]] w fun e w' => e = .returned (.tuple #[]) ∧ w' = (((((w.setCell ⟨g, 0, none⟩ (.pointer (some ⟨w.heap.size + 1, 0, none⟩))).setCell ⟨g, 1, none⟩ (.pointer (some ⟨w.heap.size + 1, 0, none⟩))).setCell ⟨g, 2, none⟩ (.int .i64 1)).alloc (.cells #[.int .i64 t.f0, .bool t.f1] 30)).alloc (nodeOf t (w.heap.size + 1))) := by
 have hlt := blk_lt h0
 have f0 := fun i => blk_frozen h0 i
 have c0 : w.cell? ⟨g, 0, none⟩ = some (.pointer none) := blk_cell h0 0
 have c1 : w.cell? ⟨g, 1, none⟩ = some (.pointer none) := blk_cell h0 1
 have c2 : w.cell? ⟨g, 2, none⟩ = some (.int .i64 0) := blk_cell h0 2
 have hne : ¬ (w.heap.size + 1 = g) := by omega
 have hu48 := Tryd.underlying30
 have hu89 := Tryd.underlying160
 have hu79 := Tryd.underlying94
 have hu77 := Tryd.underlying92
 have H0 := am h0
 clear h0
 go_enter Tryd.func127, Tryd.ntmps127
 go_wp2
 go_end0
 exact ⟨rfl, rfl⟩
set_option maxHeartbeats 1000000 in
set_option maxRecDepth 100000 in
theorem add_more (g b l : Nat) (n : Nat) (hn : n ≤ 1000) (x : S30) (nx : Value) (t : S30) (w : World) (h0 : w.heap[g]? = some (.cells #[.pointer (some ⟨b, 0, none⟩), .pointer (some ⟨l, 0, none⟩), .int .i64 (n : Int)] 94 (0, 0)))
  (hl : w.heap[l]? = some (.cells #[.int .i64 x.f0, .bool x.f1, nx] 160 (0, 0))) :
  Calls Tryd.prog 127 #[.pointer (some ⟨g, 0, none⟩), .agg #[.int .i64 t.f0, .bool t.f1]] w fun e w' => e = .returned (.tuple #[]) ∧ w' = (((((w.setCell ⟨l, 2, none⟩ (.pointer (some ⟨w.heap.size + 1, 0, none⟩))).setCell ⟨g, 1, none⟩ (.pointer (some ⟨w.heap.size + 1, 0, none⟩))).setCell ⟨g, 2, none⟩ (.int .i64 ((n : Int) + 1))).alloc (.cells #[.int .i64 t.f0, .bool t.f1] 30)).alloc (nodeOf t b)) := by
 have hlt := blk_lt h0
 have hlt2 := blk_lt hl
 have hgl : ¬ (g = l) := blk_ne h0 hl (by decide)
 have hlg : ¬ (l = g) := fun e => hgl e.symm
 have f0 := fun i => blk_frozen h0 i
 have f1 := fun i => blk_frozen hl i
 have c0 : w.cell? ⟨g, 0, none⟩ = some (.pointer (some ⟨b, 0, none⟩)) := blk_cell h0 0
 have c1 : w.cell? ⟨g, 1, none⟩ = some (.pointer (some ⟨l, 0, none⟩)) := blk_cell h0 1
 have c2 : w.cell? ⟨g, 2, none⟩ = some (.int .i64 (n : Int)) := blk_cell h0 2
 have d2 : w.cell? ⟨l, 2, none⟩ = some nx := blk_cell hl 2
 have hu48 := Tryd.underlying30
 have hu89 := Tryd.underlying160
 have hu79 := Tryd.underlying94
 have hu77 := Tryd.underlying92
 have H0 := am h0
 have HL := am hl
 clear h0 hl
 go_enter Tryd.func127, Tryd.ntmps127
 go_wp2
 go_end0
 exact ⟨rfl, rfl⟩
theorem add_any {W0 w : World} {g : Nat} {B : Nat → Nat} {ts : List S30} (h : IsRing W0 w g B ts) (hn : ts.length ≤ 1000) (t : S30) :
  Calls Tryd.prog 127 #[.pointer (some ⟨g, 0, none⟩), .agg #[.int .i64 t.f0, .bool t.f1]] w fun e w' => e = .returned (.tuple #[]) ∧ (∃ B', IsRing W0 w' g B' (ts ++ [t])) ∧ ∀ (k q : Nat) (cs : Array Value), q ≠ 94 → q ≠ 160 → w.heap[k]? = some (.cells cs q (0, 0)) → w'.heap[k]? = some (.cells cs q (0, 0)) := by
 by_cases h0 : ts = []
 ·subst h0
  refine (add_first g t w h.ring).mono ?_
  rintro e w' ⟨rfl, rfl⟩
  refine ⟨rfl, ⟨_, h.first t _⟩, fun k q cs h1 h2 hk => ?_⟩
  have hkg : k ≠ g := blk_ne hk h.ring h1
  exact blk_alloc (blk_alloc (blk_far (p := ⟨g, 2, none⟩) (blk_far (p := ⟨g, 1, none⟩) (blk_far (p := ⟨g, 0, none⟩) hk hkg _) hkg _) hkg _) _) _
 ·have hp : 0 < ts.length := List.length_pos_iff.2 h0
  have hr := h.ring
  have e0 : ¬ (ts.length = 0) := by omega
  simp only [rp, e0, if_false] at hr
  refine (add_more g (B 0) (B (ts.length - 1)) ts.length hn ts[ts.length - 1] _ t w hr (h.node _ (by omega))).mono ?_
  rintro e w' ⟨rfl, rfl⟩
  refine ⟨rfl, ⟨_, h.more hp t _⟩, fun k q cs h1 h2 hk => ?_⟩
  have hkg : k ≠ g := blk_ne hk h.ring h1
  have hkl : k ≠ B (ts.length - 1) := blk_ne hk (h.node (ts.length - 1) (by omega)) h2
  exact blk_alloc (blk_alloc (blk_far (p := ⟨g, 2, none⟩) (blk_far (p := ⟨g, 1, none⟩) (blk_far (p := ⟨B (ts.length - 1), 2, none⟩) hk hkl _) hkg _) hkg _) _) _
def expand (l : List S44) : List S30 := l.flatMap fun v => List.replicate v.f1.toNat v.f0
theorem expand_snoc (l : List S44) (i : Nat) (h : i < l.length) : expand (l.take (i + 1)) = expand (l.take i) ++ List.replicate l[i].f1.toNat l[i].f0 := by
 unfold expand
 rw [List.take_succ_eq_append_getElem h, List.flatMap_append]
 simp
theorem expand_len (l : List S44) (h : ∀ v ∈ l, v.f1 ≤ 3) : (expand l).length ≤ 3 * l.length := by
 induction l with
 | nil => simp [expand]
 | cons v l ih =>
  have h1 := ih (fun x hx => h x (by simp [hx]))
  have h2 := h v (by simp)
  have e : expand (v :: l) = List.replicate v.f1.toNat v.f0 ++ expand l := by simp [expand]
  rw [e, List.length_append, List.length_replicate, List.length_cons]
  omega
theorem rdV_at (l : List S44) (i : Nat) (h : i < l.length) : rd_T44 l (i : Int) = l[i] := by
 simp [rd_T44, List.getD_eq_getElem?_getD, h]
set_option maxHeartbeats 2000000 in
set_option maxRecDepth 100000 in
theorem ringOf_no (k : Nat) (A0 : Option Addr) (c0 : Nat) (l0 : List (S44)) (w : World) (hr0 : Kd.C k44 w A0 l0.length l0) (hc0 : l0.length ≤ c0) (h : impl_PartValid.f k l0 = some false) :
  Calls Tryd.prog 74 #[.slice A0 l0.length c0] w fun e w' => e = .returned (.tuple #[.pointer none, .bool false]) ∧ Below w.heap.size w w' := by
 have HR0 := am hr0
 have HC0 := am hc0
 have H := am h
 clear hr0 hc0 h
 go_enter Tryd.func74, Tryd.ntmps74
 go_wp2_with (first | (go_at_call 84; (with_reducible refine (impl_PartValid.calls k A0 c0 l0 false _ HR0.out HC0.out H.out).mono ?_); rintro e w1 ⟨rfl, hb⟩))
 go_ret2
 exact ⟨rfl, hb⟩
set_option maxHeartbeats 4000000 in
set_option maxRecDepth 100000 in
theorem ringOf_yes (k : Nat) (A0 : Option Addr) (c0 : Nat) (l0 : List (S44)) (w : World) (hr0 : Kd.C k44 w A0 l0.length l0) (hc0 : l0.length ≤ c0) (h : impl_PartValid.f k l0 = some true) (hv : ∀ v ∈ l0, 0 ≤ v.f1 ∧ v.f1 ≤ 3) (hl : l0.length ≤ 12) :
  Calls Tryd.prog 74 #[.slice A0 l0.length c0] w fun e w' => ∃ g : Nat, e = .returned (.tuple #[.pointer (some ⟨g, 0, none⟩), .bool true]) ∧ ∃ B, IsRing w w' g B (expand l0) := by
 have hu59 := Tryd.underlying44
 have hu48 := Tryd.underlying30
 have hu79 := Tryd.underlying94
 have HR0 := am hr0
 have HC0 := am hc0
 have H := am h
 have HV := am hv
 clear hr0 hc0 h hv
 go_enter Tryd.func74, Tryd.ntmps74
 go_wp2_with (first | (go_at_call 84; (with_reducible refine (impl_PartValid.calls k A0 c0 l0 true _ HR0.out HC0.out H.out).mono ?_); rintro e w1 ⟨rfl, hb⟩; have HB := am hb; clear hb))
 go_loopg [14] l0.length (fun kq v14 w' => ∃ i : Nat, v14 = .int .i64 (i : Int) ∧ Aside0 (i ≤ l0.length ∧ kq = l0.length - i) ∧ ∃ B, Aside0 (IsRing w w' w1.heap.size B (expand (l0.take i))))
 case atStart => exact ⟨0, rfl, ⟨by omega, by omega⟩, _, ⟨IsRing.empty0 HB.out⟩⟩
 case round =>
  obtain ⟨i, rfl, HI, B, HR⟩ := hrel
  by_cases hlt : i < l0.length
  ·obtain ⟨ad, e1, hx0, hx1, hx2⟩ := at_T44 (Kd.C_below HR0.out HR.out.below) (i : Int) (by omega) (by omega)
   cases e1
   simp only [Int.toNat_natCast] at hx0 hx1 hx2
   have hri := rdV_at l0 i hlt
   have hb1 := HV.out l0[i] (List.getElem_mem hlt)
   rw [← hri] at hb1
   have hb2 : (rd_T44 l0 (i : Int)).f1 ≤ 3 := hb1.2
   have hb3 : 0 ≤ (rd_T44 l0 (i : Int)).f1 := hb1.1
   have HRI := am hri
   clear hri hb1
   generalize rd_T44 l0 (i : Int) = x at *
   go_wp2
   obtain ⟨wo, rfl⟩ : ∃ wo : World, wo = wr := ⟨_, rfl⟩
   go_loopg [20] x.f1.toNat (fun kq v20 w' => ∃ j : Nat, v20 = .int .i64 (j : Int) ∧ Aside0 ((j : Int) ≤ x.f1 ∧ kq = x.f1.toNat - j) ∧ (∃ B, Aside0 (IsRing w w' w1.heap.size B (expand (l0.take i) ++ List.replicate j x.f0))) ∧ Aside0 (w'.heap[wo.heap.size]? = some (.cells #[.int .i64 x.f0.f0, .bool x.f0.f1, .int .i64 x.f1] 44 (0, 0))))
   case atStart => exact ⟨0, rfl, ⟨by omega, by omega⟩, ⟨B, ⟨by simpa using HR.out.mono (below_alloc (Below.refl _ _) _)⟩⟩, ⟨blk_new _ _⟩⟩
   case round =>
    obtain ⟨j, rfl, HJ, ⟨B1, HR1⟩, HB1⟩ := hrel
    have b0 : wr.cell? ⟨wo.heap.size, 0, none⟩ = some (.int .i64 x.f0.f0) := blk_cell HB1.out 0
    have b1 : wr.cell? ⟨wo.heap.size, 1, none⟩ = some (.bool x.f0.f1) := blk_cell HB1.out 1
    by_cases hjt : (j : Int) < x.f1
    ·have hlen : (expand (l0.take i) ++ List.replicate j x.f0).length ≤ 1000 := by
      have h1 := expand_len (l0.take i) (fun v hv => (HV.out v (List.mem_of_mem_take hv)).2)
      rw [List.length_append, List.length_replicate]
      rw [List.length_take] at h1
      have := HJ.out.1
      omega
     have HL := am hlen
     clear hlen
     go_wp2_with (first | (go_at_call 127; (with_reducible refine (add_any HR1.out HL.out x.f0).mono ?_); rintro e w3 ⟨rfl, hR, hK⟩; have HR2 := am hR; have HK2 := am hK; clear hR hK))
     go_roundg (x.f1.toNat - (j + 1))
     case measure => have := HJ.out; omega
     case rel =>
      obtain ⟨B2, hR2⟩ := HR2.out
      refine ⟨j + 1, by simp, ⟨by omega, rfl⟩, ⟨B2, ⟨?_⟩⟩, ⟨HK2.out _ _ _ (by decide) (by decide) HB1.out⟩⟩
      rw [List.replicate_succ', ← List.append_assoc]
      exact hR2
    ·go_wp2
     go_roundg (l0.length - (i + 1))
     case measure => have := HI.out; omega
     case rel =>
      refine ⟨i + 1, by simp, ⟨by omega, rfl⟩, B1, ⟨?_⟩⟩
      rw [expand_snoc l0 i hlt, ← HRI.out, show x.f1.toNat = j by have := HJ.out.1; omega]
      exact HR1.out
  ·go_wp2
   go_ret2
   refine ⟨_, rfl, B, ?_⟩
   have e : i = l0.length := by have := HI.out; omega
   have hR := HR.out
   rw [e, List.take_length] at hR
   exact hR
theorem valid_facts : ∀ (k : Nat) (x3 : Int) (l : List S44) (i : Nat), i ≤ l.length → l.length ≤ 12 → impl_PartValid.l0 k x3 l (l.length : Int) (i : Int) = some true → ∀ v ∈ l.drop i, 1 ≤ v.f1 ∧ v.f1 ≤ 3 := by
 intro k
 induction k with
 | zero => intro x3 l i _ _ h; simp [impl_PartValid.l0] at h
 | succ k ih =>
  intro x3 l i hi hl h v hv
  simp only [impl_PartValid.l0] at h
  by_cases hlt : i < l.length
  ·rw [if_pos (by omega), if_pos (by omega), if_pos (by omega), rdV_at l i hlt] at h
   obtain ⟨b, hb, h⟩ := Option.bind_eq_some_iff.mp h
   have hb1 : b = true := by
    cases b with
    | true => rfl
    | false => simp at h
   rw [if_pos hb1] at h
   by_cases h1 : l[i].f1 < 1
   ·rw [if_pos h1] at h; simp at h
   ·rw [if_neg h1] at h
    by_cases h3 : l[i].f1 > 3
    ·rw [if_pos h3] at h; simp at h
    ·rw [if_neg h3, show wrap64 ((i : Int) + 1) = ((i + 1 : Nat) : Int) by unfold wrap64; omega] at h
     rw [List.drop_eq_getElem_cons hlt] at hv
     rcases List.mem_cons.1 hv with rfl | hv
     ·omega
     ·exact ih _ l (i + 1) (by omega) hl h v hv
  ·rw [List.drop_eq_nil_of_le (by omega)] at hv
   simp at hv
theorem valid_true {k : Nat} {l : List S44} (h : impl_PartValid.f k l = some true) : l.length ≤ 12 ∧ ∀ v ∈ l, 1 ≤ v.f1 ∧ v.f1 ≤ 3 := by
 unfold impl_PartValid.f at h
 by_cases hl : (l.length : Int) > 12
 ·rw [if_pos hl] at h; simp at h
 ·rw [if_neg hl] at h
  exact ⟨by omega, by simpa using valid_facts k 0 l 0 (by omega) (by omega) h⟩

/-- The tones of two parts, beat by beat. -/
def pairs (xs ys : List S30) : List S85 := List.zipWith (fun a b => ⟨a, b⟩) xs ys
def impl_soundsOf.f (k : Nat) (l0 : List (S44)) (l1 : List (S44)) : Option (List (S85) × Bool) := (impl_PartValid.f k l0).bind fun a => (impl_PartValid.f k l1).bind fun b => some (if a = true ∧ b = true ∧ (expand l0).length = (expand l1).length then (pairs (expand l0) (expand l1), true) else ([], false))
theorem R_empty0 {α : Type} (d : Kd α) (e : Nat) {W : World} {g base : Nat} (ok : Nat → Prop) (hok : ok g) (h : W.heap[g]? = some (.cells #[] e (0, 0))) (hb : base ≤ g) : d.R e W base ok (.slice (some ⟨g, 0, none⟩) 0 0) [] :=
 ⟨fun k hk => by
  simp [Value.ownBlock] at hk
  subst hk
  exact hok, [], ⟨by simp, .inr ⟨g, 0, #[], rfl, hb, h, Nat.le_refl _, by simp [maxLen], by simp, by simp⟩⟩, Reps.none _ _⟩
theorem pairs_snoc (xs ys : List S30) (i : Nat) (h0 : i < xs.length) (h1 : i < ys.length) : (pairs xs ys).take (i + 1) = (pairs xs ys).take i ++ [⟨xs[i], ys[i]⟩] := by
 have h : i < (pairs xs ys).length := by unfold pairs; rw [List.length_zipWith]; omega
 rw [List.take_succ_eq_append_getElem h]
 have e : (pairs xs ys)[i] = ⟨xs[i], ys[i]⟩ := by simp [pairs]
 rw [e]
set_option maxHeartbeats 4000000 in
set_option maxRecDepth 100000 in
theorem sounds_ok (k : Nat) (A0 : Option Addr) (c0 : Nat) (l0 : List (S44)) (A1 : Option Addr) (c1 : Nat) (l1 : List (S44)) (w : World) (hr0 : Kd.C k44 w A0 l0.length l0) (hc0 : l0.length ≤ c0) (hr1 : Kd.C k44 w A1 l1.length l1) (hc1 : l1.length ≤ c1)
  (h0 : impl_PartValid.f k l0 = some true) (h1 : impl_PartValid.f k l1 = some true) (he : (expand l0).length = (expand l1).length) (hp : 0 < (expand l0).length) :
  Calls Tryd.prog 68 #[.slice A0 l0.length c0, .slice A1 l1.length c1] w fun e w' => ∃ v0_ : Value, e = .returned (.tuple #[v0_, .bool true]) ∧ Kd.R k85 85 w' w.heap.size (fun _ => True) v0_ (pairs (expand l0) (expand l1)) ∧ Below w.heap.size w w' := by
 obtain ⟨hl0, hv0⟩ := valid_true h0
 obtain ⟨hl1, hv1⟩ := valid_true h1
 have HV0 := am (show ∀ v ∈ l0, 0 ≤ v.f1 ∧ v.f1 ≤ 3 from fun v hv' => ⟨by have := hv0 v hv'; omega, (hv0 v hv').2⟩)
 have HV1 := am (show ∀ v ∈ l1, 0 ≤ v.f1 ∧ v.f1 ≤ 3 from fun v hv' => ⟨by have := hv1 v hv'; omega, (hv1 v hv').2⟩)
 have hlen := expand_len l0 (fun v h => (hv0 v h).2)
 have HR0 := am hr0
 have HC0 := am hc0
 have HR1 := am hr1
 have HC1 := am hc1
 have H0 := am h0
 have H1 := am h1
 clear hr0 hc0 hr1 hc1 h0 h1 hv0 hv1
 have hu79 := Tryd.underlying94
 have hu89 := Tryd.underlying160
 have hu48 := Tryd.underlying30
 have huP := Tryd.underlying85
 obtain ⟨n, hn⟩ : ∃ n, n = (expand l0).length := ⟨_, rfl⟩
 have hn1 : (expand l1).length = n := by omega
 have hn0 : (expand l0).length = n := by omega
 have hnp : 0 < n := by omega
 have hnb : n ≤ 36 := by omega
 have HN0 := am hn0
 have HN1 := am hn1
 clear hn he hp hlen hn0 hn1
 have e0 : ¬ (n = 0) := by omega
 go_enter Tryd.func68, Tryd.ntmps68
 go_wp2_with fail
 refine (ringOf_yes k A0 c0 l0 _ HR0.out HC0.out H0.out HV0.out hl0).mono ?_
 rintro e w1 ⟨g1, rfl, B1, hI1⟩
 have HI1 := am hI1
 clear hI1
 go_wp2_with fail
 refine (ringOf_yes k A1 c1 l1 _ (Kd.C_below HR1.out HI1.out.below) HC1.out H1.out HV1.out hl1).mono ?_
 rintro e w2 ⟨g2, rfl, B2, hI2⟩
 have HI2 := am hI2
 clear hI2
 have hr1 := (HI1.out.mono HI2.out.below).ring
 have hr2 := HI2.out.ring
 rw [HN0.out] at hr1
 rw [HN1.out] at hr2
 simp only [rp, e0, if_false] at hr1 hr2
 have a0 : w2.cell? ⟨g1, 0, none⟩ = some (.pointer (some ⟨B1 0, 0, none⟩)) := blk_cell hr1 0
 have a2 : w2.cell? ⟨g1, 2, none⟩ = some (.int .i64 (n : Int)) := blk_cell hr1 2
 have b0 : w2.cell? ⟨g2, 0, none⟩ = some (.pointer (some ⟨B2 0, 0, none⟩)) := blk_cell hr2 0
 have b2 : w2.cell? ⟨g2, 2, none⟩ = some (.int .i64 (n : Int)) := blk_cell hr2 2
 have HRG1 := am hr1
 have HRG2 := am hr2
 clear hr1 hr2
 have hneq : ((n : Int) != (n : Int)) = false := by simp
 go_wp2_with fail
 go_quiet (fail)
 have hz1 := blk_new (w2.drewN nq) (.cells #[] 85)
 have hw := blk_alloc (blk_drewN HRG1.out nq) (.cells #[] 85)
 have hw2 := blk_alloc (blk_drewN HRG2.out nq) (.cells #[] 85)
 have a0' : ((w2.drewN nq).alloc (.cells #[] 85)).cell? ⟨g1, 0, none⟩ = some (.pointer (some ⟨B1 0, 0, none⟩)) := blk_cell hw 0
 have a2' : ((w2.drewN nq).alloc (.cells #[] 85)).cell? ⟨g1, 2, none⟩ = some (.int .i64 (n : Int)) := blk_cell hw 2
 have b0' : ((w2.drewN nq).alloc (.cells #[] 85)).cell? ⟨g2, 0, none⟩ = some (.pointer (some ⟨B2 0, 0, none⟩)) := blk_cell hw2 0
 have HZ1 := am hz1
 clear hw hw2 hz1
 go_wp2_with fail
 go_quiet (fail)
 go_wp2_with fail
 go_loopg [10, 11, 12, 53] n (fun kq v10 v11 v12 v53 w' => ∃ i : Nat, v53 = .int .i64 (i : Int) ∧ v11 = .pointer (some ⟨B1 (if i = n then 0 else i), 0, none⟩) ∧ v12 = .pointer (some ⟨B2 (if i = n then 0 else i), 0, none⟩) ∧ Aside0 (i ≤ n ∧ kq = n - i) ∧ Aside0 (Kd.R k85 85 w' w2.heap.size (fun _ => True) v10 ((pairs (expand l0) (expand l1)).take i)) ∧ Aside0 (Below w2.heap.size w2 w'))
 case atStart =>
  have e1 : ¬ (0 = n) := fun e => e0 e.symm
  refine ⟨0, rfl, by simp [e1], by simp [e1], ⟨by omega, by omega⟩, ⟨?_⟩, ⟨?_⟩⟩
  ·exact R_empty0 _ _ _ trivial (blk_drewN HZ1.out _) (Nat.le_refl _)
  ·repeat (first | exact Below.refl _ _ | apply pw_below_drewN | apply below_alloc)
 case round =>
  clear HZ1 a0' a2' b0' a0 a2 b0 b2
  obtain ⟨i, rfl, rfl, rfl, HI, HO, HB⟩ := hrel
  by_cases hin : i < n
  ·have hi0 : i < (expand l0).length := by rw [HN0.out]; exact hin
   have hi1 : i < (expand l1).length := by rw [HN1.out]; exact hin
   have eif : (if i = n then 0 else i) = i := if_neg (by omega)
   simp only [eif]
   have nd1 := ((HI1.out.mono HI2.out.below).mono HB.out).node i hi0
   have nd2 := (HI2.out.mono HB.out).node i hi1
   rw [HN0.out] at nd1
   rw [HN1.out] at nd2
   have p0 : wr.cell? ⟨B1 i, 0, none⟩ = some (.int .i64 (expand l0)[i].f0) := blk_cell nd1 0
   have p1 : wr.cell? ⟨B1 i, 1, none⟩ = some (.bool (expand l0)[i].f1) := blk_cell nd1 1
   have q0 : wr.cell? ⟨B2 i, 0, none⟩ = some (.int .i64 (expand l1)[i].f0) := blk_cell nd2 0
   have q1 : wr.cell? ⟨B2 i, 1, none⟩ = some (.bool (expand l1)[i].f1) := blk_cell nd2 1
   have ND1 := am nd1
   have ND2 := am nd2
   clear nd1 nd2 eif
   go_wp2_with fail
   refine start_ (n := 13) (S := fun w' => w'.cell? ⟨B1 i, 0, none⟩ = some (.int .i64 (expand l0)[i].f0) ∧ w'.cell? ⟨B1 i, 1, none⟩ = some (.bool (expand l0)[i].f1) ∧ w'.cell? ⟨B2 i, 0, none⟩ = some (.int .i64 (expand l1)[i].f0) ∧ w'.cell? ⟨B2 i, 1, none⟩ = some (.bool (expand l1)[i].f1)) (ds := []) #[F,F,F,F,F,F,F,F,F,F,F,F,F] (by kernel_rfl) rfl rfl ⟨p0, p1, q0, q1⟩ (fun hHeld => ?_)
   clear p0 p1 q0 q1
   have HO1 := am (Kd.R_drew HO.out)
   have HB1 := am (below_drew HB.out)
   have ND1' := am (blk_drew ND1.out)
   have ND2' := am (blk_drew ND2.out)
   clear HO HB ND1 ND2
   generalize wr.drew = w5 at HO1 HB1 ND1' ND2' hHeld ⊢
   refine pz 0 (some 55) #[T,F,F,F,F,F,F,F,F,F,F,F,F] (by kernel_rfl) (h := ?_)
   refine pz 1 (some 56) #[T,T,F,F,F,F,F,F,F,F,F,F,F] (by kernel_rfl) (h := ?_)
   refine pz 2 (some 57) #[T,T,T,F,F,F,F,F,F,F,F,F,F] (by kernel_rfl) (h := ?_)
   refine pz 3 (some 58) #[T,T,T,T,F,F,F,F,F,F,F,F,F] (by kernel_rfl) (h := ?_)
   refine pz 5 (some 60) #[T,T,T,T,F,T,F,F,F,F,F,F,F] (by kernel_rfl) (h := ?_)
   refine pz 6 (some 61) #[T,T,T,T,F,T,T,F,F,F,F,F,F] (by kernel_rfl) (h := ?_)
   refine pz 7 (some 62) #[T,T,T,T,F,T,T,T,F,F,F,F,F] (by kernel_rfl) (h := ?_)
   refine tz hHeld 4 (some 59) #[T,T,T,T,T,T,T,T,F,F,F,F,F] (by kernel_rfl) (h := ?_)
   refine tz hHeld 8 (some 63) #[T,T,T,T,T,T,T,T,T,F,F,F,F] (by kernel_rfl) (h := ?_)
   refine pz 9 (some 64) #[T,T,T,T,T,T,T,T,T,T,F,F,F] (by kernel_rfl) (h := ?_)
   refine one_ (i := 10) (N := some 65) #[T,T,T,T,T,T,T,T,T,T,T,F,F] rfl rfl (by kernel_rfl) (by decide) (fun K hK => ?_)
   refine value_ (w1 := ?_) (v := ?_) (by rfl) rfl ?_ ?_
   rotate_left 2
   ·go_simp
    constructor
    ·rfl
    ·rfl
   refine hK.out _ _ ⟨blk_cell (blk_alloc ND1'.out _) 0, blk_cell (blk_alloc ND1'.out _) 1, blk_cell (blk_alloc ND2'.out _) 0, blk_cell (blk_alloc ND2'.out _) 1⟩ (fun hHeld => ?_)
   clear hK K
   refine norm_ (a' := ?_) ?_ ?_
   rotate_left
   ·show Act.put _ (some 65) _ = _
    simp only [Act.put, sA, sZ, sS, i64_w, i32_w]
    rfl
   refine one_ (i := 11) (N := some 66) #[T,T,T,T,T,T,T,T,T,T,T,T,F] rfl rfl (by kernel_rfl) (by decide) (fun K hK => ?_)
   refine Kd.R_append_step k85 (w0 := w2) w2.heap.size (by rfl) (.tmp 55) (.tmp 65) 81 85 (.agg #[(.int .i64 0), (.bool false), (.int .i64 0), (.bool false)]) 32 rfl Tryd.underlying81 info85 rfl (by decide) (by omega) u10 ((pairs (expand l0) (expand l1)).take i) (⟨(expand l0)[i], (expand l1)[i]⟩ : S85) [.int .i64 (expand l0)[i].f0, .bool (expand l0)[i].f1, .int .i64 (expand l1)[i].f0, .bool (expand l1)[i].f1] (fun _ => True) (fun _ => False) rfl rfl ?aP (fun _ hk => hk.elim) ?aF ?aO ?aB ?aS ?aL ?_
   (case aP => exact k85_mkM _ _ _ (⟨(expand l0)[i], (expand l1)[i]⟩ : S85))
   (case aB => exact HB1.out)
   (case aF => exact (fun _ _ => trivial))
   (case aO => exact HO1.out)
   (case aS => exact (below_size HB1.out))
   (case aL => rw [List.length_take]; omega)
   intro v1 w6 ho hb hg hat
   rw [← pairs_snoc _ _ i hi0 hi1] at ho
   have M1 := am (blk_grown ND1'.out hg (Kd.R_ne HO1.out ND1'.out (by decide)))
   have M2 := am (blk_grown ND2'.out hg (Kd.R_ne HO1.out ND2'.out (by decide)))
   have HO2 := am ho
   have HB2 := am hb
   clear HO1 HB1 ND1' ND2' ho hb hg hat
   refine hK.out _ _ ⟨blk_cell M1.out 0, blk_cell M1.out 1, blk_cell M2.out 0, blk_cell M2.out 1⟩ (fun hHeld => ?_)
   clear hK K
   refine norm_ (a' := ?_) ?_ ?_
   rotate_left
   ·show Act.put _ (some 66) _ = _
    simp only [Act.put, sA, sZ, sS, i64_w, i32_w]
    rfl
   refine pz 12 (some 10) #[T,T,T,T,T,T,T,T,T,T,T,T,T] (by kernel_rfl) (h := ?_)
   refine done_ (by kernel_rfl) ?_
   have p2 : w6.cell? ⟨B1 i, 2, none⟩ = some (.pointer (some ⟨B1 (if i + 1 = n then 0 else i + 1), 0, none⟩)) := blk_cell M1.out 2
   have q2 : w6.cell? ⟨B2 i, 2, none⟩ = some (.pointer (some ⟨B2 (if i + 1 = n then 0 else i + 1), 0, none⟩)) := blk_cell M2.out 2
   clear hHeld
   generalize hj : (if i + 1 = n then 0 else i + 1) = j at p2 q2
   have HJ := am hj
   clear hj
   go_wp2_with fail
   go_quiet (fail)
   go_wp2_with fail
   go_roundg (n - (i + 1))
   case measure => have := HI.out; omega
   case rel => exact ⟨i + 1, by simp, by rw [HJ.out], by rw [HJ.out], ⟨by omega, rfl⟩, ⟨Kd.R_drewN HO2.out _⟩, ⟨pw_below_drewN HB2.out _⟩⟩
  ·have e : i = n := by have := HI.out; omega
   have eif : (if i = n then 0 else i) = 0 := if_pos e
   simp only [eif]
   clear eif
   have HE2 := am e
   clear e
   go_wp2
   go_ret2
   have e := HE2.out
   have hR := HO.out
   have hlen : (pairs (expand l0) (expand l1)).length = n := by
    unfold pairs
    rw [List.length_zipWith, HN0.out, HN1.out]
    omega
   rw [e, List.take_of_length_le (by omega)] at hR
   have hb2 := below_step HI1.out.below HI2.out.below
   exact ⟨u10, rfl, Kd.R_lower hR (below_size hb2), below_step hb2 HB.out⟩
set_option maxHeartbeats 4000000 in
set_option maxRecDepth 100000 in
theorem sounds_none (k : Nat) (A0 : Option Addr) (c0 : Nat) (l0 : List (S44)) (A1 : Option Addr) (c1 : Nat) (l1 : List (S44)) (w : World) (hr0 : Kd.C k44 w A0 l0.length l0) (hc0 : l0.length ≤ c0) (hr1 : Kd.C k44 w A1 l1.length l1) (hc1 : l1.length ≤ c1)
  (h0 : impl_PartValid.f k l0 = some true) (h1 : impl_PartValid.f k l1 = some true) (he : (expand l0).length = (expand l1).length) (hp : (expand l0).length = 0) :
  Calls Tryd.prog 68 #[.slice A0 l0.length c0, .slice A1 l1.length c1] w fun e w' => ∃ v0_ : Value, e = .returned (.tuple #[v0_, .bool true]) ∧ Kd.R k85 85 w' w.heap.size (fun _ => True) v0_ (pairs (expand l0) (expand l1)) ∧ Below w.heap.size w w' := by
 obtain ⟨hl0, hv0⟩ := valid_true h0
 obtain ⟨hl1, hv1⟩ := valid_true h1
 have HV0 := am (show ∀ v ∈ l0, 0 ≤ v.f1 ∧ v.f1 ≤ 3 from fun v hv' => ⟨by have := hv0 v hv'; omega, (hv0 v hv').2⟩)
 have HV1 := am (show ∀ v ∈ l1, 0 ≤ v.f1 ∧ v.f1 ≤ 3 from fun v hv' => ⟨by have := hv1 v hv'; omega, (hv1 v hv').2⟩)
 have HR0 := am hr0
 have HC0 := am hc0
 have HR1 := am hr1
 have HC1 := am hc1
 have H0 := am h0
 have H1 := am h1
 have HN0 := am hp
 have HN1 := am (he.symm.trans hp)
 clear hr0 hc0 hr1 hc1 h0 h1 hv0 hv1 hp he
 have hu79 := Tryd.underlying94
 have hu89 := Tryd.underlying160
 have hu48 := Tryd.underlying30
 have huP := Tryd.underlying85
 go_enter Tryd.func68, Tryd.ntmps68
 go_wp2_with fail
 refine (ringOf_yes k A0 c0 l0 _ HR0.out HC0.out H0.out HV0.out hl0).mono ?_
 rintro e w1 ⟨g1, rfl, B1, hI1⟩
 have HI1 := am hI1
 clear hI1
 go_wp2_with fail
 refine (ringOf_yes k A1 c1 l1 _ (Kd.C_below HR1.out HI1.out.below) HC1.out H1.out HV1.out hl1).mono ?_
 rintro e w2 ⟨g2, rfl, B2, hI2⟩
 have HI2 := am hI2
 clear hI2
 have hr1 := (HI1.out.mono HI2.out.below).ring
 have hr2 := HI2.out.ring
 rw [HN0.out] at hr1
 rw [HN1.out] at hr2
 simp only [rp, if_true] at hr1 hr2
 have a0 : w2.cell? ⟨g1, 0, none⟩ = some (.pointer none) := blk_cell hr1 0
 have a2 : w2.cell? ⟨g1, 2, none⟩ = some (.int .i64 0) := blk_cell hr1 2
 have b0 : w2.cell? ⟨g2, 0, none⟩ = some (.pointer none) := blk_cell hr2 0
 have b2 : w2.cell? ⟨g2, 2, none⟩ = some (.int .i64 0) := blk_cell hr2 2
 have HRG1 := am hr1
 have HRG2 := am hr2
 clear hr1 hr2
 go_wp2_with fail
 go_quiet (fail)
 have hz1 := blk_new (w2.drewN nq) (.cells #[] 85)
 have hw := blk_alloc (blk_drewN HRG1.out nq) (.cells #[] 85)
 have hw2 := blk_alloc (blk_drewN HRG2.out nq) (.cells #[] 85)
 have a0' : ((w2.drewN nq).alloc (.cells #[] 85)).cell? ⟨g1, 0, none⟩ = some (.pointer none) := blk_cell hw 0
 have a2' : ((w2.drewN nq).alloc (.cells #[] 85)).cell? ⟨g1, 2, none⟩ = some (.int .i64 0) := blk_cell hw 2
 have b0' : ((w2.drewN nq).alloc (.cells #[] 85)).cell? ⟨g2, 0, none⟩ = some (.pointer none) := blk_cell hw2 0
 have HZ1 := am hz1
 clear hw hw2 hz1
 go_wp2_with fail
 go_quiet (fail)
 go_wp2_with fail
 refine (wp_loop_rounds 1 ?_)
 rw [rounds_succ]
 go_wp2
 go_ret2
 have hb2 := below_step HI1.out.below HI2.out.below
 have e0 : pairs (expand l0) (expand l1) = [] := by
  have : (pairs (expand l0) (expand l1)).length = 0 := by
   unfold pairs
   rw [List.length_zipWith, HN0.out]
   omega
  exact List.length_eq_zero_iff.mp this
 rw [e0]
 exact ⟨_, rfl, R_empty0 _ _ _ trivial (blk_drewN HZ1.out _) (below_size hb2), by repeat (first | exact hb2 | apply pw_below_drewN | apply below_alloc)⟩
set_option maxHeartbeats 4000000 in
set_option maxRecDepth 100000 in
theorem sounds_ff (k : Nat) (A0 : Option Addr) (c0 : Nat) (l0 : List (S44)) (A1 : Option Addr) (c1 : Nat) (l1 : List (S44)) (w : World) (hr0 : Kd.C k44 w A0 l0.length l0) (hc0 : l0.length ≤ c0) (hr1 : Kd.C k44 w A1 l1.length l1) (hc1 : l1.length ≤ c1)
  (h0 : impl_PartValid.f k l0 = some false) (h1 : impl_PartValid.f k l1 = some false) :
  Calls Tryd.prog 68 #[.slice A0 l0.length c0, .slice A1 l1.length c1] w fun e w' => e = .returned (.tuple #[.slice none 0 0, .bool false]) ∧ Below w.heap.size w w' := by
 have HR0 := am hr0
 have HC0 := am hc0
 have HR1 := am hr1
 have HC1 := am hc1
 have H0 := am h0
 have H1 := am h1
 clear hr0 hc0 hr1 hc1 h0 h1
 have hu79 := Tryd.underlying94
 go_enter Tryd.func68, Tryd.ntmps68
 go_wp2_with fail
 refine (ringOf_no k A0 c0 l0 _ HR0.out HC0.out H0.out).mono ?_
 rintro e w1 ⟨rfl, hb1⟩
 have HB1 := am hb1
 clear hb1
 go_wp2_with fail
 refine (ringOf_no k A1 c1 l1 _ (Kd.C_below HR1.out HB1.out) HC1.out H1.out).mono ?_
 rintro e w2 ⟨rfl, hb2⟩
 have HB := am (below_step HB1.out hb2)
 clear hb2
 go_wp2_with fail
 go_quiet (fail)
 go_wp2
 go_ret2
 exact ⟨rfl, pw_below_drewN HB.out _⟩
set_option maxHeartbeats 4000000 in
set_option maxRecDepth 100000 in
theorem sounds_ft (k : Nat) (A0 : Option Addr) (c0 : Nat) (l0 : List (S44)) (A1 : Option Addr) (c1 : Nat) (l1 : List (S44)) (w : World) (hr0 : Kd.C k44 w A0 l0.length l0) (hc0 : l0.length ≤ c0) (hr1 : Kd.C k44 w A1 l1.length l1) (hc1 : l1.length ≤ c1)
  (h0 : impl_PartValid.f k l0 = some false) (h1 : impl_PartValid.f k l1 = some true) :
  Calls Tryd.prog 68 #[.slice A0 l0.length c0, .slice A1 l1.length c1] w fun e w' => e = .returned (.tuple #[.slice none 0 0, .bool false]) ∧ Below w.heap.size w w' := by
 obtain ⟨hl1, hv1⟩ := valid_true h1
 have HV1 := am (show ∀ v ∈ l1, 0 ≤ v.f1 ∧ v.f1 ≤ 3 from fun v hv' => ⟨by have := hv1 v hv'; omega, (hv1 v hv').2⟩)
 clear hv1
 have HR0 := am hr0
 have HC0 := am hc0
 have HR1 := am hr1
 have HC1 := am hc1
 have H0 := am h0
 have H1 := am h1
 clear hr0 hc0 hr1 hc1 h0 h1
 have hu79 := Tryd.underlying94
 go_enter Tryd.func68, Tryd.ntmps68
 go_wp2_with fail
 refine (ringOf_no k A0 c0 l0 _ HR0.out HC0.out H0.out).mono ?_
 rintro e w1 ⟨rfl, hb1⟩
 have HB1 := am hb1
 clear hb1
 go_wp2_with fail
 refine (ringOf_yes k A1 c1 l1 _ (Kd.C_below HR1.out HB1.out) HC1.out H1.out HV1.out hl1).mono ?_
 rintro e w2 ⟨g2, rfl, B2, hI2⟩
 have HB := am (below_step HB1.out hI2.below)
 clear hI2
 go_wp2_with fail
 go_quiet (fail)
 go_wp2
 go_ret2
 exact ⟨rfl, pw_below_drewN HB.out _⟩
set_option maxHeartbeats 4000000 in
set_option maxRecDepth 100000 in
theorem sounds_tf (k : Nat) (A0 : Option Addr) (c0 : Nat) (l0 : List (S44)) (A1 : Option Addr) (c1 : Nat) (l1 : List (S44)) (w : World) (hr0 : Kd.C k44 w A0 l0.length l0) (hc0 : l0.length ≤ c0) (hr1 : Kd.C k44 w A1 l1.length l1) (hc1 : l1.length ≤ c1)
  (h0 : impl_PartValid.f k l0 = some true) (h1 : impl_PartValid.f k l1 = some false) :
  Calls Tryd.prog 68 #[.slice A0 l0.length c0, .slice A1 l1.length c1] w fun e w' => e = .returned (.tuple #[.slice none 0 0, .bool false]) ∧ Below w.heap.size w w' := by
 obtain ⟨hl0, hv0⟩ := valid_true h0
 have HV0 := am (show ∀ v ∈ l0, 0 ≤ v.f1 ∧ v.f1 ≤ 3 from fun v hv' => ⟨by have := hv0 v hv'; omega, (hv0 v hv').2⟩)
 clear hv0
 have HR0 := am hr0
 have HC0 := am hc0
 have HR1 := am hr1
 have HC1 := am hc1
 have H0 := am h0
 have H1 := am h1
 clear hr0 hc0 hr1 hc1 h0 h1
 have hu79 := Tryd.underlying94
 go_enter Tryd.func68, Tryd.ntmps68
 go_wp2_with fail
 refine (ringOf_yes k A0 c0 l0 _ HR0.out HC0.out H0.out HV0.out hl0).mono ?_
 rintro e w1 ⟨g1, rfl, B1, hI1⟩
 have HI1 := am hI1
 clear hI1
 go_wp2_with fail
 refine (ringOf_no k A1 c1 l1 _ (Kd.C_below HR1.out HI1.out.below) HC1.out H1.out).mono ?_
 rintro e w2 ⟨rfl, hb2⟩
 have HB := am (below_step HI1.out.below hb2)
 clear hb2
 go_wp2_with fail
 go_quiet (fail)
 go_wp2
 go_ret2
 exact ⟨rfl, pw_below_drewN HB.out _⟩
set_option maxHeartbeats 4000000 in
set_option maxRecDepth 100000 in
theorem sounds_tt (k : Nat) (A0 : Option Addr) (c0 : Nat) (l0 : List (S44)) (A1 : Option Addr) (c1 : Nat) (l1 : List (S44)) (w : World) (hr0 : Kd.C k44 w A0 l0.length l0) (hc0 : l0.length ≤ c0) (hr1 : Kd.C k44 w A1 l1.length l1) (hc1 : l1.length ≤ c1)
  (h0 : impl_PartValid.f k l0 = some true) (h1 : impl_PartValid.f k l1 = some true) (he : ¬ (expand l0).length = (expand l1).length) :
  Calls Tryd.prog 68 #[.slice A0 l0.length c0, .slice A1 l1.length c1] w fun e w' => e = .returned (.tuple #[.slice none 0 0, .bool false]) ∧ Below w.heap.size w w' := by
 obtain ⟨hl0, hv0⟩ := valid_true h0
 have HV0 := am (show ∀ v ∈ l0, 0 ≤ v.f1 ∧ v.f1 ≤ 3 from fun v hv' => ⟨by have := hv0 v hv'; omega, (hv0 v hv').2⟩)
 clear hv0
 obtain ⟨hl1, hv1⟩ := valid_true h1
 have HV1 := am (show ∀ v ∈ l1, 0 ≤ v.f1 ∧ v.f1 ≤ 3 from fun v hv' => ⟨by have := hv1 v hv'; omega, (hv1 v hv').2⟩)
 clear hv1
 have HR0 := am hr0
 have HC0 := am hc0
 have HR1 := am hr1
 have HC1 := am hc1
 have H0 := am h0
 have H1 := am h1
 clear hr0 hc0 hr1 hc1 h0 h1
 have hu79 := Tryd.underlying94
 have hneq : (((expand l0).length : Int) != ((expand l1).length : Int)) = true := by
  rw [bne_iff_ne]
  omega
 have hneq2 : ((expand l0).length != (expand l1).length) = true := by
  rw [bne_iff_ne]
  exact he
 clear he
 go_enter Tryd.func68, Tryd.ntmps68
 go_wp2_with fail
 refine (ringOf_yes k A0 c0 l0 _ HR0.out HC0.out H0.out HV0.out hl0).mono ?_
 rintro e w1 ⟨g1, rfl, B1, hI1⟩
 have HI1 := am hI1
 clear hI1
 go_wp2_with fail
 refine (ringOf_yes k A1 c1 l1 _ (Kd.C_below HR1.out HI1.out.below) HC1.out H1.out HV1.out hl1).mono ?_
 rintro e w2 ⟨g2, rfl, B2, hI2⟩
 have a2 : w2.cell? ⟨g1, 2, none⟩ = some (.int .i64 ((expand l0).length : Int)) := blk_cell (HI1.out.mono hI2.below).ring 2
 have b2 : w2.cell? ⟨g2, 2, none⟩ = some (.int .i64 ((expand l1).length : Int)) := blk_cell hI2.ring 2
 have HB := am (below_step HI1.out.below hI2.below)
 clear hI2
 go_wp2_with fail
 go_quiet (fail)
 go_wp2
 go_ret2
 exact ⟨rfl, pw_below_drewN HB.out _⟩
theorem impl_soundsOf.calls (k : Nat) (A0 : Option Addr) (c0 : Nat) (l0 : List (S44)) (A1 : Option Addr) (c1 : Nat) (l1 : List (S44)) (r1 : List (S85)) (r2 : Bool) (w : World) (hr0 : Kd.C k44 w A0 l0.length l0) (hc0 : l0.length ≤ c0) (hr1 : Kd.C k44 w A1 l1.length l1) (hc1 : l1.length ≤ c1) (h : impl_soundsOf.f k l0 l1 = some (r1, r2)) :
  Calls Tryd.prog 68 #[.slice A0 l0.length c0, .slice A1 l1.length c1] w fun e w' => ∃ v0_ : Value, e = .returned (.tuple #[v0_, .bool r2]) ∧ Kd.R k85 85 w' w.heap.size (fun _ => True) v0_ r1 ∧ Below w.heap.size w w' := by
 obtain ⟨a, h0, h⟩ := Option.bind_eq_some_iff.mp h
 obtain ⟨b, h1, h⟩ := Option.bind_eq_some_iff.mp h
 have e1 := Option.some.inj h
 clear h
 cases a with
 | false =>
  rw [if_neg (by simp)] at e1
  obtain ⟨rfl, rfl⟩ := Prod.mk.inj e1
  cases b with
  | false => exact (sounds_ff k A0 c0 l0 A1 c1 l1 w hr0 hc0 hr1 hc1 h0 h1).mono fun e w' ⟨he, hb⟩ => ⟨_, he, Kd.R_nil _ _ _ _ _, hb⟩
  | true => exact (sounds_ft k A0 c0 l0 A1 c1 l1 w hr0 hc0 hr1 hc1 h0 h1).mono fun e w' ⟨he, hb⟩ => ⟨_, he, Kd.R_nil _ _ _ _ _, hb⟩
 | true =>
  cases b with
  | false =>
   rw [if_neg (by simp)] at e1
   obtain ⟨rfl, rfl⟩ := Prod.mk.inj e1
   exact (sounds_tf k A0 c0 l0 A1 c1 l1 w hr0 hc0 hr1 hc1 h0 h1).mono fun e w' ⟨he, hb⟩ => ⟨_, he, Kd.R_nil _ _ _ _ _, hb⟩
  | true =>
   by_cases he : (expand l0).length = (expand l1).length
   ·rw [if_pos ⟨rfl, rfl, he⟩] at e1
    obtain ⟨rfl, rfl⟩ := Prod.mk.inj e1
    by_cases hp : (expand l0).length = 0
    ·exact sounds_none k A0 c0 l0 A1 c1 l1 w hr0 hc0 hr1 hc1 h0 h1 he hp
    ·exact sounds_ok k A0 c0 l0 A1 c1 l1 w hr0 hc0 hr1 hc1 h0 h1 he (by omega)
   ·rw [if_neg (fun z => he z.2.2)] at e1
    obtain ⟨rfl, rfl⟩ := Prod.mk.inj e1
    exact (sounds_tt k A0 c0 l0 A1 c1 l1 w hr0 hc0 hr1 hc1 h0 h1 he).mono fun e w' ⟨he, hb⟩ => ⟨_, he, Kd.R_nil _ _ _ _ _, hb⟩


def letHt (r : Nat) : Int := if r = 0 then 0 else if r = 1 then 2 else if r = 2 then 4 else if r = 3 then 5 else if r = 4 then 7 else if r = 5 then 9 else 10
def impl_Tone_height.f (a0 : Int) (b0 : Bool) : Option Int := if 0 ≤ a0 then (if a0 < 1000 then some (letHt (a0 % 7).toNat + 12 * (a0 / 7) - (if b0 = true then 1 else 0)) else none) else none
set_option maxHeartbeats 2000000 in
set_option maxRecDepth 100000 in
theorem impl_Tone_height.calls (a0 : Int) (b0 : Bool) (r : Int) (w : World) (hTH : TabH w) (h : impl_Tone_height.f a0 b0 = some r) :
  Calls Tryd.prog 77 #[.agg #[.int .i64 a0, .bool b0]] w fun e w' => e = .returned (.int .i64 r) ∧ Below w.heap.size w w' := by
 have hu2 := Tryd.underlying30
 have hT := hTH.alloc (.cells #[.int .i64 a0, .bool b0] 30)
 have HB0 := am (below_alloc (Below.refl w.heap.size w) (.cells #[.int .i64 a0, .bool b0] 30))
 unfold impl_Tone_height.f at h
 by_cases h0 : 0 ≤ a0
 ·by_cases h1 : a0 < 1000
  ·rw [if_pos h0, if_pos h1] at h
   have e1 := Option.some.inj h
   subst e1
   have hx : a0 % 7 = 0 ∨ a0 % 7 = 1 ∨ a0 % 7 = 2 ∨ a0 % 7 = 3 ∨ a0 % 7 = 4 ∨ a0 % 7 = 5 ∨ a0 % 7 = 6 := by omega
   have c0 : (w.alloc (.cells #[.int .i64 a0, .bool b0] 30)).cell? ⟨1, 0, none⟩ = some (.int .i64 0) := hT 0 _ rfl
   have c1 : (w.alloc (.cells #[.int .i64 a0, .bool b0] 30)).cell? ⟨1, 1, none⟩ = some (.int .i64 2) := hT 1 _ rfl
   have c2 : (w.alloc (.cells #[.int .i64 a0, .bool b0] 30)).cell? ⟨1, 2, none⟩ = some (.int .i64 4) := hT 2 _ rfl
   have c3 : (w.alloc (.cells #[.int .i64 a0, .bool b0] 30)).cell? ⟨1, 3, none⟩ = some (.int .i64 5) := hT 3 _ rfl
   have c4 : (w.alloc (.cells #[.int .i64 a0, .bool b0] 30)).cell? ⟨1, 4, none⟩ = some (.int .i64 7) := hT 4 _ rfl
   have c5 : (w.alloc (.cells #[.int .i64 a0, .bool b0] 30)).cell? ⟨1, 5, none⟩ = some (.int .i64 9) := hT 5 _ rfl
   have c6 : (w.alloc (.cells #[.int .i64 a0, .bool b0] 30)).cell? ⟨1, 6, none⟩ = some (.int .i64 10) := hT 6 _ rfl
   clear hT hTH h
   have k0 : (w.alloc (.cells #[.int .i64 a0, .bool b0] 30)).cell? ⟨w.heap.size, 0, none⟩ = some (.int .i64 a0) := blk_cell (blk_new w _) 0
   have k1 : (w.alloc (.cells #[.int .i64 a0, .bool b0] 30)).cell? ⟨w.heap.size, 1, none⟩ = some (.bool b0) := blk_cell (blk_new w _) 1
   have htm : a0.tmod 7 = a0 % 7 := Int.tmod_eq_emod_of_nonneg h0
   have htd : a0.tdiv 7 = a0 / 7 := Int.tdiv_eq_ediv_of_nonneg h0
   obtain ⟨q, hq⟩ : ∃ q, q = a0 / 7 := ⟨_, rfl⟩
   have hq0 : 0 ≤ q := by omega
   have hq1 : q < 200 := by omega
   rw [← hq] at htd
   rw [← hq]
   rcases hx with hx | hx | hx | hx | hx | hx | hx
   all_goals
    rw [hx]
    rw [hx] at htm
    have w1 : IntKind.i64.wrap (12 * q) = 12 * q := IntWalk.i64_in _ (by omega)
    have w2 : IntKind.i64.wrap (letHt (Int.toNat (a0 % 7)) + 12 * q) = letHt (Int.toNat (a0 % 7)) + 12 * q := by
     rw [hx]
     exact IntWalk.i64_in _ (by simp [letHt]; omega)
    have w3 : -9223372036854775808 ≤ letHt (Int.toNat (a0 % 7)) + 12 * q - 1 := by
     rw [hx]
     simp [letHt]
     omega
    rw [hx] at w2 w3
    obtain ⟨S, hS⟩ : ∃ S, S = letHt (Int.toNat (a0 % 7)) + 12 * q := ⟨_, rfl⟩
    rw [hx] at hS
    rw [← hS] at w2 w3
    rw [← hS]
    have w4 : S ≤ 100000 := by
     rw [hS]
     simp [letHt]
     omega
    cases b0
    all_goals
     go_enter Tryd.func77, Tryd.ntmps77
     go_wp2_with fail
     go_quiet (fail)
     go_wp2
     all_goals first
      | (exact absurd ‹false = true› (by decide))
      | (exact absurd rfl ‹¬ true = true›)
      | (go_ret; refine ⟨?_, pw_below_drewN HB0.out _⟩; refine congrArg Ending.returned (congrArg (Value.int IntKind.i64) ?_); first | rfl | (simp [letHt]; done) | (simp [letHt]; omega))
  ·rw [if_pos h0, if_neg h1] at h
   exact absurd h (by simp)
 ·rw [if_neg h0] at h
  exact absurd h (by simp)


def decS (i : Nat) : ByteArray := if i < 10 then ⟨#[(48 + i).toUInt8]⟩ else ⟨#[(48 + i / 10).toUInt8, (48 + i % 10).toUInt8]⟩
set_option maxHeartbeats 4000000 in
set_option maxRecDepth 100000 in
theorem small_any (i : Nat) (h : i < 24) (w : World) : Calls Tryd.prog 168 #[.int .i64 (i : Int)] w fun e w' => e = .returned (.string (decS i)) ∧ w' = w := by
 have : i = 0 ∨ i = 1 ∨ i = 2 ∨ i = 3 ∨ i = 4 ∨ i = 5 ∨ i = 6 ∨ i = 7 ∨ i = 8 ∨ i = 9 ∨ i = 10 ∨ i = 11 ∨ i = 12 ∨ i = 13 ∨ i = 14 ∨ i = 15 ∨ i = 16 ∨ i = 17 ∨ i = 18 ∨ i = 19 ∨ i = 20 ∨ i = 21 ∨ i = 22 ∨ i = 23 := by omega
 rcases this with rfl | rfl | rfl | rfl | rfl | rfl | rfl | rfl | rfl | rfl | rfl | rfl | rfl | rfl | rfl | rfl | rfl | rfl | rfl | rfl | rfl | rfl | rfl | rfl
 all_goals
  go_enter Tryd.func168, Tryd.ntmps168
  go_wp2
  go_ret
  exact ⟨rfl, rfl⟩
set_option maxHeartbeats 1000000 in
set_option maxRecDepth 100000 in
theorem formatInt_any (i : Nat) (h : i < 24) (w : World) : Calls Tryd.prog 158 #[.int .i64 (i : Int), .int .i64 10] w fun e w' => e = .returned (.string (decS i)) ∧ w' = w := by
 go_enter Tryd.func158, Tryd.ntmps158
 go_wp2_with (go_at_call 168; refine (small_any i h _).mono ?_; rintro e w' ⟨rfl, rfl⟩)
 go_ret
 exact ⟨rfl, rfl⟩
set_option maxRecDepth 100000 in
theorem itoaIn_any (i : Nat) (h : i < 24) (w : World) : Calls Tryd.prog 128 #[.int .i64 (i : Int)] w fun e w' => e = .returned (.string (decS i)) ∧ w' = w := by
 go_enter Tryd.func128, Tryd.ntmps128
 go_wp2_with (go_at_call 158; refine (formatInt_any i h _).mono ?_; rintro e w' ⟨rfl, rfl⟩)
 go_ret
 exact ⟨rfl, rfl⟩
def strconv_Itoa_78.f (a0 : Int) : Option ByteArray := if 0 ≤ a0 then (if a0 < 24 then some (decS a0.toNat) else none) else none
set_option maxRecDepth 100000 in
theorem strconv_Itoa_78.calls (a0 : Int) (r : ByteArray) (w : World) (h : strconv_Itoa_78.f a0 = some r) : Calls Tryd.prog 78 #[.int .i64 a0] w fun e w' => e = .returned (.string r) ∧ Drawn0 w w' := by
 unfold strconv_Itoa_78.f at h
 by_cases h0 : 0 ≤ a0
 ·by_cases h1 : a0 < 24
  ·rw [if_pos h0, if_pos h1] at h
   have e1 := Option.some.inj h
   subst e1
   obtain ⟨i, rfl⟩ := Int.eq_ofNat_of_zero_le h0
   clear h
   rw [Int.toNat_natCast]
   go_enter Tryd.func78, Tryd.ntmps78
   go_wp2_with (go_at_call 128; refine (itoaIn_any i (by omega) _).mono ?_; rintro e w' ⟨rfl, rfl⟩)
   go_ret
   exact ⟨rfl, ⟨0, rfl⟩⟩
  ·rw [if_pos h0, if_neg h1] at h
   exact absurd h (by simp)
 ·rw [if_neg h0] at h
  exact absurd h (by simp)


end Go.Proofs.YtcndojoghmblaaaDoor.GE
