-- Made by this session's gprint.py out of the translation. Not trusted: Lean checks it.
import Derived.Test.YtcndojoghmblaaaDoorMRx0
import Derived.Test.YtcndojoghmblaaaDoorMRx2
import Derived.Test.YtcndojoghmblaaaDoorMRx3
import Derived.Test.YtcndojoghmblaaaDoorMRx4
import Derived.Test.YtcndojoghmblaaaDoorMRx5
namespace Go.Proofs.YtcndojoghmblaaaDoor.MR
open Go.RowKit Go.Proofs.YtcndojoghmblaaaDoorW.PrintWords Go.Proofs.YtcndojoghmblaaaDoorW.PrintLast Go.Proofs.YtcndojoghmblaaaDoorW.PrintMore
attribute [local go_sem] max2_int min2_int max_two min_two max_three min_three max_four min_four   -- for this text's walks alone
set_option linter.unusedVariables false
set_option linter.unusedSimpArgs false

/-! ### spec_ToneFrom: function 112 -/
def spec_ToneFrom.l0 : Nat → ByteArray → List (S30) → Int → Option (Int × Bool × Bool)
 | 0, _, _, _ => none
 | k + 1, x0, x4, x5 => if x5 < (x4.length : Int) then (if 0 ≤ x5 then ((spec_ToneText.f k ((rd_T30 x4 x5).f0) ((rd_T30 x4 x5).f1)).bind fun t226 => (if t226.toList = x0.toList then (some ((rd_T30 x4 x5).f0, (rd_T30 x4 x5).f1, true)) else (spec_ToneFrom.l0 k x0 x4 (wrap64 (x5 + 1))))) else (none)) else (some (0, false, false))
def spec_ToneFrom.f (k : Nat) (a0 : ByteArray) : Option (Int × Bool × Bool) := (spec_l1All.f k).bind fun t222 => (spec_ToneFrom.l0 k a0 t222 0)
set_option maxHeartbeats 8000000 in
set_option maxRecDepth 100000 in
theorem spec_ToneFrom.calls (k : Nat) (a0 : ByteArray) (r1 : Int) (r2 : Bool) (r3 : Bool) (w : World) (h : spec_ToneFrom.f k a0 = some (r1, r2, r3)) :
  Calls Tryd.prog 112 #[.string a0] w fun e w' => e = .returned (.tuple #[.agg #[.int .i64 r1, .bool r2], .bool r3]) ∧ Below w.heap.size w w' := by
 have hu30 := Tryd.underlying30
 have HB := am (Below.refl w.heap.size w)
 have H : ((spec_l1All.f k).bind fun t222 => (spec_ToneFrom.l0 k a0 t222 0)) = some (r1, r2, r3) := h
 clear h
 replace H := Option.bind_eq_some_iff.mp H
 obtain ⟨t222, A20, H⟩ := H
 replace H : (spec_ToneFrom.l0 k a0 t222 0) = some (r1, r2, r3) := H
 have A2 := am A20
 clear A20
 have H' := am H
 clear H
 go_enter Tryd.func112, Tryd.ntmps112
 go_wp2_with (first | ((with_reducible refine gate_dst (N := 2) rfl ?_); refine box_event ?hg (N := 2) ?hd (cs := #[.int .i64 0, .bool false]) (t := 30) ?hr ?_; (case hd => rfl); (case hg => rfl); (case hr => first | (go_simp; done) | (go_simp; rfl)); intro gb221 hg w3 hbox hb; have n0_ := am (below_step (bu HB.out) hb); have n1_ := am (hbox); have n2_ := am ((by rw [hg]; exact (below_size (bu HB.out)) : w.heap.size ≤ gb221)); have n3_ := am ((by rw [hg]; exact (below_size (bu HB.out)) : w.heap.size ≤ gb221)); clear HB; have HB := n0_; have BK221 := n1_; have GW221 := n2_; have GE221 := n3_; clear n0_ n1_ n2_ n3_; clear hb hbox hg) | ((with_reducible refine gate_callee (f := 147) rfl ?_); refine goesL_ (some 6) rfl rfl Tryd.func147 (by kernel_rfl) rfl #[] rfl (by (try simp only [List.map_toArray, List.map_cons, List.map_nil]); first | done | rfl | (simp only [List.length_drop, List.length_take]; rfl)) ?_; (with_reducible refine (spec_l1All.calls k  t222 _ A2.out).mono ?_); rintro e w4 ⟨v223, rfl, ho0, hb⟩; refine ⟨_, rfl, ?_⟩; have n0_ := am (Kd.R_lower (Kd.R_newB ho0 (g := gb221) (o := .cells #[.int .i64 0, .bool false] 30 (0, 0)) (gu BK221.out)) (below_size (bu HB.out))); have n1_ := am (blk_below (g := gb221) (o := .cells #[.int .i64 0, .bool false] 30 (0, 0)) (gu BK221.out) hb); have n2_ := am (below_step (bu HB.out) hb); clear BK221; clear HB; have HO224 := n0_; have BK221 := n1_; have HB := n2_; clear n0_ n1_ n2_; (try clear hb); (try clear hb2); (try clear hk); (try clear hi); (try clear ho0)))
 go_loopg [5] k (fun kq v5 w' => ∃ (x5_1 : Int) (x222000_1 : Int) (x222001_1 : Bool), v5 = .int .i64 x5_1 ∧ Aside0 (spec_ToneFrom.l0 kq a0 t222 x5_1 = some (r1, r2, r3)) ∧ Aside0 (kq ≤ k) ∧ Aside0 (Kd.R k30 30 w' w.heap.size (fun k_ => k_ ≠ gb221) v223 t222) ∧ Aside0 (w'.heap[gb221]? = some (.cells #[.int .i64 x222000_1, .bool x222001_1] 30 (0, 0))) ∧ Aside0 (Below w.heap.size w w'))
 case atStart => exact ⟨(0), (0), (false), (by first | rfl | (simp; done) | (simp [*]; done)), H', ⟨Nat.le_refl _⟩, ⟨by (with_reducible repeat (first | apply Kd.R_alloc | apply Kd.R_drewN | apply Kd.R_drew)); exact Kd.R_mono HO224.out (fun _ hk => hk.2)⟩, ⟨gu BK221.out⟩, ⟨bu HB.out⟩⟩
 case round =>
  clear H'
  try clear c1
  try clear p2
  obtain ⟨x5_1, x222000_1, x222001_1, rfl, HA, HK1, HO_4, BK221, HB⟩ := hrel
  cases gk with
  | zero => exact absurd HA.out (by simp [spec_ToneFrom.l0])
  | succ k1 =>
   have H := HA.out
   clear HA
   simp only [spec_ToneFrom.l0] at H
   by_cases c5 : x5_1 < (t222.length : Int)
   ·rw [if_pos c5] at H
    have c5b0 : decide (x5_1 < (t222.length : Int)) = true := decide_eq_true c5
    clear c5
    by_cases c6 : 0 ≤ x5_1
    ·rw [if_pos c6] at H
     have c6b0 : decide (0 ≤ x5_1) = true := decide_eq_true c6
     clear c6
     replace H := Option.bind_eq_some_iff.mp H
     obtain ⟨t226, A70, H⟩ := H
     replace H : (if t226.toList = a0.toList then (some ((rd_T30 t222 x5_1).f0, (rd_T30 t222 x5_1).f1, true)) else (spec_ToneFrom.l0 k1 a0 t222 (wrap64 (x5_1 + 1)))) = some (r1, r2, r3) := H
     have A7 := am A70
     clear A70
     by_cases c8 : t226.toList = a0.toList
     ·rw [if_pos c8] at H
      have c8b0 : (t226.toList == a0.toList) = true := beq_iff_eq.mpr c8
      have c8b1 : (t226.toList != a0.toList) = false := bne_eq_false_iff_eq.mpr c8
      clear c8
      simp only [Option.some.injEq, Prod.mk.injEq] at H
      obtain ⟨rfl, rfl, rfl⟩ := H
      obtain ⟨Ao9, co9, eo9⟩ := Kd.R_slice HO_4.out
      subst eo9
      have p225 : 0 ≤ (x5_1 : Int) := od
      have q225 : x5_1 < (t222.length : Int) := od
      obtain ⟨ad225, e225, hx225_0, hx225_1⟩ := at_T30 (Kd.R_reads' HO_4.out).2.2 x5_1 p225 q225
      cases e225
      replace p225 := eq_true p225
      replace q225 := eq_true q225
      go_wp2_with (first | ((with_reducible refine gate_callee (f := 106) rfl ?_); refine goesL_ (some 17) rfl rfl Tryd.func106 (by kernel_rfl) rfl #[.agg #[.int .i64 ((rd_T30 t222 x5_1).f0), .bool ((rd_T30 t222 x5_1).f1)]] rfl (by (try simp only [List.map_toArray, List.map_cons, List.map_nil]); first | done | rfl | (simp only [List.length_drop, List.length_take]; rfl)) ?_; (with_reducible refine (spec_ToneText.calls k1 ((rd_T30 t222 x5_1).f0) ((rd_T30 t222 x5_1).f1) t226 _ A7.out).mono ?_); rintro e w10 ⟨rfl, hb⟩; refine ⟨_, rfl, ?_⟩; have n0_ := am (Kd.R_below (ru HO_4.out) hb); have n1_ := am (blk_below (g := gb221) (o := .cells #[.int .i64 x222000_1, .bool x222001_1] 30 (0, 0)) (gu BK221.out) hb); have n2_ := am (below_step (bu HB.out) hb); clear HO_4; clear BK221; clear HB; have HO_4 := n0_; have BK221 := n1_; have HB := n2_; clear n0_ n1_ n2_; (try clear hb); (try clear hb2); (try clear hk); (try clear hi); have p227 : 0 ≤ (x5_1 : Int) := od; have q227 : x5_1 < (t222.length : Int) := od; obtain ⟨ad227, e227, hx227_0, hx227_1⟩ := at_T30 (Kd.R_reads' HO_4.out).2.2 x5_1 p227 q227; obtain rfl : ad225 = ad227 := (by injection e227); replace p227 := eq_true p227; replace q227 := eq_true q227; have hcz11_0 : w10.cell? ⟨gb221, 0, none⟩ = some (.int .i64 x222000_1) := (blk_cell BK221.out 0).trans rfl; have hcz11_1 : w10.cell? ⟨gb221, 1, none⟩ = some (.bool x222001_1) := (blk_cell BK221.out 1).trans rfl; have hfz11_0 := blk_frozen BK221.out 0; have hfz11_1 := blk_frozen BK221.out 1))
      refine bodyPost_ret (results_ct rfl _ _ gb221 30 #[.int .i64 ((rd_T30 t222 x5_1).f0), .bool ((rd_T30 t222 x5_1).f1)] (0, 0) _ rfl (by (with_reducible repeat (first | refine blk_drewN ?_ _ | refine blk_drew ?_ | refine blk_alloc ?_ _)); refine blk_put (cs := #[.int .i64 ((rd_T30 t222 x5_1).f0), .bool x222001_1]) ?_ 1 _ rfl; (with_reducible repeat (first | refine blk_drewN ?_ _ | refine blk_drew ?_ | refine blk_alloc ?_ _)); refine blk_put (cs := #[.int .i64 x222000_1, .bool x222001_1]) ?_ 0 _ rfl; (with_reducible repeat (first | refine blk_drewN ?_ _ | refine blk_drew ?_ | refine blk_alloc ?_ _)); exact BK221.out) Tryd.underlying30 rfl (by kernel_rfl)) rfl ?_
      exact ⟨by first | rfl | (simp [errW_none, errW_some] <;> rfl) | (simp [*, errW_none, errW_some] <;> rfl), bu HB.out⟩
     ·rw [if_neg c8] at H
      have c8b0 : (t226.toList == a0.toList) = false := beq_eq_false_iff_ne.mpr c8
      have c8b1 : (t226.toList != a0.toList) = true := bne_iff_ne.mpr c8
      have H' := am H
      clear H
      obtain ⟨Ao12, co12, eo12⟩ := Kd.R_slice HO_4.out
      subst eo12
      have p225 : 0 ≤ (x5_1 : Int) := od
      have q225 : x5_1 < (t222.length : Int) := od
      obtain ⟨ad225, e225, hx225_0, hx225_1⟩ := at_T30 (Kd.R_reads' HO_4.out).2.2 x5_1 p225 q225
      cases e225
      replace p225 := eq_true p225
      replace q225 := eq_true q225
      go_wp2_with (first | ((with_reducible refine gate_callee (f := 106) rfl ?_); refine goesL_ (some 17) rfl rfl Tryd.func106 (by kernel_rfl) rfl #[.agg #[.int .i64 ((rd_T30 t222 x5_1).f0), .bool ((rd_T30 t222 x5_1).f1)]] rfl (by (try simp only [List.map_toArray, List.map_cons, List.map_nil]); first | done | rfl | (simp only [List.length_drop, List.length_take]; rfl)) ?_; (with_reducible refine (spec_ToneText.calls k1 ((rd_T30 t222 x5_1).f0) ((rd_T30 t222 x5_1).f1) t226 _ A7.out).mono ?_); rintro e w13 ⟨rfl, hb⟩; refine ⟨_, rfl, ?_⟩; have n0_ := am (Kd.R_below (ru HO_4.out) hb); have n1_ := am (blk_below (g := gb221) (o := .cells #[.int .i64 x222000_1, .bool x222001_1] 30 (0, 0)) (gu BK221.out) hb); have n2_ := am (below_step (bu HB.out) hb); clear HO_4; clear BK221; clear HB; have HO_4 := n0_; have BK221 := n1_; have HB := n2_; clear n0_ n1_ n2_; (try clear hb); (try clear hb2); (try clear hk); (try clear hi)))
      go_roundg k1
      case measure => have := HK1.out; omega
      case rel => exact ⟨(wrap64 (x5_1 + 1)), (x222000_1), (x222001_1), (by first | rfl | (simp; done) | (simp [*]; done)), H', ⟨by have := HK1.out; omega⟩, ⟨ru HO_4.out⟩, ⟨gu BK221.out⟩, ⟨bu HB.out⟩⟩
    ·rw [if_neg c6] at H
     exact absurd H (by simp)
   ·rw [if_neg c5] at H
    have c5b0 : decide (x5_1 < (t222.length : Int)) = false := decide_eq_false c5
    clear c5
    simp only [Option.some.injEq, Prod.mk.injEq] at H
    obtain ⟨rfl, rfl, rfl⟩ := H
    obtain ⟨Ao14, co14, eo14⟩ := Kd.R_slice HO_4.out
    subst eo14
    have hcz15_0 : wr.cell? ⟨gb221, 0, none⟩ = some (.int .i64 x222000_1) := (blk_cell BK221.out 0).trans rfl
    have hcz15_1 : wr.cell? ⟨gb221, 1, none⟩ = some (.bool x222001_1) := (blk_cell BK221.out 1).trans rfl
    have hfz15_0 := blk_frozen BK221.out 0
    have hfz15_1 := blk_frozen BK221.out 1
    go_wp2
    refine bodyPost_ret (results_ct rfl _ _ gb221 30 #[.int .i64 0, .bool false] (0, 0) _ rfl (by (with_reducible repeat (first | refine blk_drewN ?_ _ | refine blk_drew ?_ | refine blk_alloc ?_ _)); refine blk_put (cs := #[.int .i64 0, .bool x222001_1]) ?_ 1 _ rfl; (with_reducible repeat (first | refine blk_drewN ?_ _ | refine blk_drew ?_ | refine blk_alloc ?_ _)); refine blk_put (cs := #[.int .i64 x222000_1, .bool x222001_1]) ?_ 0 _ rfl; (with_reducible repeat (first | refine blk_drewN ?_ _ | refine blk_drew ?_ | refine blk_alloc ?_ _)); exact BK221.out) Tryd.underlying30 rfl (by kernel_rfl)) rfl ?_
    exact ⟨by first | rfl | (simp [errW_none, errW_some] <;> rfl) | (simp [*, errW_none, errW_some] <;> rfl), bu HB.out⟩

/-! ### spec_MelodyFrom: function 57 -/
def spec_MelodyFrom.l0 : Nat → List (S30) → List ByteArray → Int → Option ((List (S30)) × Bool)
 | 0, _, _, _ => none
 | k + 1, x4, x5, x6 => if x6 < (x5.length : Int) then (if 0 ≤ x6 then ((spec_ToneFrom.f k (rdOf ByteArray.empty x5 x6)).bind fun bt235 => (if bt235.2.2 = true then (if x6 ≥ 24 then (some ((([] : List (S30))), false)) else (if x4.length < 8796093022208 then (spec_MelodyFrom.l0 k (x4 ++ [(⟨bt235.1, bt235.2.1⟩ : S30)]) x5 (wrap64 (x6 + 1))) else (none))) else (some ((([] : List (S30))), false)))) else (none)) else (some (x4, true))
def spec_MelodyFrom.f (k : Nat) (a0 : ByteArray) : Option ((List (S30)) × Bool) := (some (([] : List (S30)) : List (S30))).bind fun y228 => (if a0.toList = ([] : List UInt8) then (some (y228, true)) else ((spec_l2Cut.f k a0 32).bind fun t231 => (spec_MelodyFrom.l0 k y228 t231 0)))
set_option maxHeartbeats 8000000 in
set_option maxRecDepth 100000 in
theorem spec_MelodyFrom.calls (k : Nat) (a0 : ByteArray) (r1 : List (S30)) (r2 : Bool) (w : World) (h : spec_MelodyFrom.f k a0 = some (r1, r2)) :
  Calls Tryd.prog 57 #[.string a0] w fun e w' => ∃ v0_ : Value, e = .returned (.tuple #[v0_, .bool r2]) ∧ Kd.R k30 30 w' w.heap.size (fun _ => True) v0_ r1 ∧ Below w.heap.size w w' := by
 have hu30 := Tryd.underlying30
 have HB := am (Below.refl w.heap.size w)
 have H : ((some (([] : List (S30)) : List (S30))).bind fun y228 => (if a0.toList = ([] : List UInt8) then (some (y228, true)) else ((spec_l2Cut.f k a0 32).bind fun t231 => (spec_MelodyFrom.l0 k y228 t231 0)))) = some (r1, r2) := h
 clear h
 obtain ⟨y228, hy228⟩ : ∃ y_ : List (S30), y_ = (([] : List (S30))) := ⟨_, rfl⟩
 replace H : (if a0.toList = ([] : List UInt8) then (some (y228, true)) else ((spec_l2Cut.f k a0 32).bind fun t231 => (spec_MelodyFrom.l0 k y228 t231 0))) = some (r1, r2) := by first | (rw [hy228]; with_reducible exact H) | (have H2_ := (Option.bind_some _ _).symm.trans H; rw [hy228]; with_reducible exact H2_) | (have H2_ := (Option.bind_some _ _).symm.trans H; with_reducible exact H2_) | with_reducible exact H | (rw [hy228]; exact H) | exact H
 have Ny228 := am hy228
 clear hy228
 by_cases c2 : a0.toList = ([] : List UInt8)
 ·rw [if_pos c2] at H
  have c2b0 : (a0.toList == ([] : List UInt8)) = true := beq_iff_eq.mpr c2
  have c2b1 : (a0.toList != ([] : List UInt8)) = false := bne_eq_false_iff_eq.mpr c2
  clear c2
  simp only [Option.some.injEq, Prod.mk.injEq] at H
  obtain ⟨rfl, rfl⟩ := H
  go_enter Tryd.func57, Tryd.ntmps57
  go_wp2_with (first | ((with_reducible refine gate_dst (N := 9) rfl ?_); refine Kd.R_lit k30 _ 30 ?hg (N := 9) ?hd (xs := ([] : List (S30))) (inner := []) (ok := fun _ => True) (okp := fun _ => True) ?hr ?hp (fun _ hk => hk) trivial (Below.refl _ _) (Nat.le_refl _) (by simp) ?_; (case hd => rfl); (case hg => rfl); (case hr => first | (go_simp; done) | (go_simp; rfl)); (case hp => exact (Reps.none _ _)); intro v229 w3 ho4 hb hg_ hnew_; clear hg_ hnew_; (first | rw [← Ny228.out] at ho4 | (simp only [Int.reduceToNat] at ho4; rw [← Ny228.out] at ho4)); have n0_ := am (Kd.R_lower ho4 (below_size (bu HB.out))); have n1_ := am (below_step (bu HB.out) hb); clear HB; have HO230 := n0_; have HB := n1_; clear n0_ n1_; clear hb ho4))
  go_ret2
  exact ⟨_, by first | rfl | (simp [errW_none, errW_some] <;> rfl) | (simp [*, errW_none, errW_some] <;> rfl), ru HO230.out, bu HB.out⟩
 ·rw [if_neg c2] at H
  have c2b0 : (a0.toList == ([] : List UInt8)) = false := beq_eq_false_iff_ne.mpr c2
  have c2b1 : (a0.toList != ([] : List UInt8)) = true := bne_iff_ne.mpr c2
  replace H := Option.bind_eq_some_iff.mp H
  obtain ⟨t231, A50, H⟩ := H
  replace H : (spec_MelodyFrom.l0 k y228 t231 0) = some (r1, r2) := H
  have A5 := am A50
  clear A50
  have H' := am H
  clear H
  go_enter Tryd.func57, Tryd.ntmps57
  go_wp2_with (first | ((with_reducible refine gate_dst (N := 9) rfl ?_); refine Kd.R_lit k30 _ 30 ?hg (N := 9) ?hd (xs := ([] : List (S30))) (inner := []) (ok := fun _ => True) (okp := fun _ => True) ?hr ?hp (fun _ hk => hk) trivial (Below.refl _ _) (Nat.le_refl _) (by simp) ?_; (case hd => rfl); (case hg => rfl); (case hr => first | (go_simp; done) | (go_simp; rfl)); (case hp => exact (Reps.none _ _)); intro v229 w6 ho7 hb hg_ hnew_; clear hg_ hnew_; (first | rw [← Ny228.out] at ho7 | (simp only [Int.reduceToNat] at ho7; rw [← Ny228.out] at ho7)); have n0_ := am (Kd.R_lower ho7 (below_size (bu HB.out))); have n1_ := am (below_step (bu HB.out) hb); clear HB; have HO230 := n0_; have HB := n1_; clear n0_ n1_; clear hb ho7) | ((with_reducible refine gate_callee (f := 111) rfl ?_); refine goesL_ (some 14) rfl rfl Tryd.func111 (by kernel_rfl) rfl #[.string a0, .int .u8 32] rfl (by (try simp only [List.map_toArray, List.map_cons, List.map_nil]); first | done | rfl | (simp only [List.length_drop, List.length_take]; rfl)) ?_; (with_reducible refine (spec_l2Cut.calls k a0 32 t231 _ A5.out).mono ?_); rintro e w8 ⟨v232, rfl, ho0, hb⟩; refine ⟨_, rfl, ?_⟩; have n0_ := am (Kd.R_below (ru HO230.out) hb); have n1_ := am (Kd.R_lower ho0 (below_size (bu HB.out))); have n2_ := am (below_step (bu HB.out) hb); clear HO230; clear HB; have HO230 := n0_; have HO233 := n1_; have HB := n2_; clear n0_ n1_ n2_; (try clear hb); (try clear hb2); (try clear hk); (try clear hi); (try clear ho0)))
  go_loopg [4, 6] k (fun kq v4 v6 w' => ∃ (x4_1 : List (S30)) (x6_1 : Int), v6 = .int .i64 x6_1 ∧ Aside0 (spec_MelodyFrom.l0 kq x4_1 t231 x6_1 = some (r1, r2)) ∧ Aside0 (kq ≤ k) ∧ Aside0 (Kd.R k30 30 w' w.heap.size (fun _ => True) v4 x4_1) ∧ Aside0 (Kd.R Kd.string 9 w' w.heap.size (fun _ => True) v232 t231) ∧ Aside0 (Below w.heap.size w w'))
  case atStart => exact ⟨(y228), (0), (by first | rfl | (simp; done) | (simp [*]; done)), H', ⟨Nat.le_refl _⟩, ⟨ru HO230.out⟩, ⟨ru HO233.out⟩, ⟨bu HB.out⟩⟩
  case round =>
   clear H'
   try clear c1
   try clear c2
   try clear c2b0
   try clear c2b1
   try clear p2
   try clear c5
   obtain ⟨x4_1, x6_1, rfl, HA, HK1, HO_4, HO_5, HB⟩ := hrel
   cases gk with
   | zero => exact absurd HA.out (by simp [spec_MelodyFrom.l0])
   | succ k1 =>
    have H := HA.out
    clear HA
    simp only [spec_MelodyFrom.l0] at H
    by_cases c9 : x6_1 < (t231.length : Int)
    ·rw [if_pos c9] at H
     have c9b0 : decide (x6_1 < (t231.length : Int)) = true := decide_eq_true c9
     clear c9
     by_cases c10 : 0 ≤ x6_1
     ·rw [if_pos c10] at H
      have c10b0 : decide (0 ≤ x6_1) = true := decide_eq_true c10
      clear c10
      replace H := Option.bind_eq_some_iff.mp H
      obtain ⟨⟨t235, t236, t237⟩, A110, H⟩ := H
      replace H : (if t237 = true then (if x6_1 ≥ 24 then (some ((([] : List (S30))), false)) else (if x4_1.length < 8796093022208 then (spec_MelodyFrom.l0 k1 (x4_1 ++ [(⟨t235, t236⟩ : S30)]) t231 (wrap64 (x6_1 + 1))) else (none))) else (some ((([] : List (S30))), false))) = some (r1, r2) := H
      have A11 := am A110
      clear A110
      by_cases c12 : t237 = true
      ·subst c12
       have H1 : (if x6_1 ≥ 24 then (some ((([] : List (S30))), false)) else (if x4_1.length < 8796093022208 then (spec_MelodyFrom.l0 k1 (x4_1 ++ [(⟨t235, t236⟩ : S30)]) t231 (wrap64 (x6_1 + 1))) else (none))) = some (r1, r2) := by rw [if_pos rfl] at H; exact H
       clear H
       have H := H1
       clear H1
       by_cases c13 : x6_1 ≥ 24
       ·rw [if_pos c13] at H
        have c13b0 : decide (24 ≤ x6_1) = true := decide_eq_true c13
        clear c13
        obtain ⟨y239, hy239⟩ : ∃ y_ : List (S30), y_ = (([] : List (S30))) := ⟨_, rfl⟩
        replace H : (some (y239, false)) = some (r1, r2) := by first | (rw [hy239]; with_reducible exact H) | (have H2_ := (Option.bind_some _ _).symm.trans H; rw [hy239]; with_reducible exact H2_) | (have H2_ := (Option.bind_some _ _).symm.trans H; with_reducible exact H2_) | with_reducible exact H | (rw [hy239]; exact H) | exact H
        have Ny239 := am hy239
        clear hy239
        simp only [Option.some.injEq, Prod.mk.injEq] at H
        obtain ⟨rfl, rfl⟩ := H
        obtain ⟨Ao14, co14, eo14⟩ := Kd.R_slice HO_5.out
        subst eo14
        have p234 : 0 ≤ (x6_1 : Int) := od
        have q234 : x6_1 < (t231.length : Int) := od
        obtain ⟨ad234, e234, hx234_0⟩ := Kd.at_string (Kd.R_reads' HO_5.out).2.2 x6_1 p234 q234
        cases e234
        replace p234 := eq_true p234
        replace q234 := eq_true q234
        go_wp2_with (first | ((with_reducible refine gate_callee (f := 112) rfl ?_); refine goesL_ (some 26) rfl rfl Tryd.func112 (by kernel_rfl) rfl #[.string (rdOf ByteArray.empty t231 x6_1)] rfl (by (try simp only [List.map_toArray, List.map_cons, List.map_nil]); first | done | rfl | (simp only [List.length_drop, List.length_take]; rfl)) ?_; (with_reducible refine (spec_ToneFrom.calls k1 (rdOf ByteArray.empty t231 x6_1) t235 t236 true _ A11.out).mono ?_); rintro e w15 ⟨rfl, hb⟩; refine ⟨_, rfl, ?_⟩; have n0_ := am (Kd.R_below (ru HO_4.out) hb); have n1_ := am (Kd.R_below (ru HO_5.out) hb); have n2_ := am (below_step (bu HB.out) hb); clear HO_4; clear HO_5; clear HB; have HO_4 := n0_; have HO_5 := n1_; have HB := n2_; clear n0_ n1_ n2_; (try clear hb); (try clear hb2); (try clear hk); (try clear hi)) | ((with_reducible refine gate_dst (N := 7) rfl ?_); refine box_event ?hg (N := 7) ?hd (cs := #[.int .i64 0, .bool false]) (t := 30) ?hr ?_; (case hd => rfl); (case hg => rfl); (case hr => first | (go_simp; done) | (go_simp; rfl)); intro gb238 hg w16 hbox hb; have n0_ := am (Kd.R_below (Kd.R_elderB (ru HO_4.out) gb238 (Nat.le_of_eq hg.symm)) hb); have n1_ := am (Kd.R_below (ru HO_5.out) hb); have n2_ := am (below_step (bu HB.out) hb); have n3_ := am (hbox); have n4_ := am ((by rw [hg]; exact (below_size (bu HB.out)) : w.heap.size ≤ gb238)); have n5_ := am ((by rw [hg]; exact (below_size (bu HB.out)) : w.heap.size ≤ gb238)); clear HO_4; clear HO_5; clear HB; have HO_4 := n0_; have HO_5 := n1_; have HB := n2_; have BK238 := n3_; have GW238 := n4_; have GE238 := n5_; clear n0_ n1_ n2_ n3_ n4_ n5_; clear hb hbox hg; have hcz17_0 : w16.cell? ⟨gb238, 0, none⟩ = some (.int .i64 0) := (blk_cell BK238.out 0).trans rfl; have hcz17_1 : w16.cell? ⟨gb238, 1, none⟩ = some (.bool false) := (blk_cell BK238.out 1).trans rfl; have hfz17_0 := blk_frozen BK238.out 0; have hfz17_1 := blk_frozen BK238.out 1) | ((with_reducible refine gate_dst (N := 35) rfl ?_); refine Kd.R_lit k30 _ 30 ?hg (N := 35) ?hd (xs := ([] : List (S30))) (inner := []) (ok := fun _ => True) (okp := fun _ => True) ?hr ?hp (fun _ hk => hk) trivial (Below.refl _ _) (Nat.le_refl _) (by simp) ?_; (case hd => rfl); (case hg => rfl); (case hr => first | (go_simp; done) | (go_simp; rfl)); (case hp => exact (Reps.none _ _)); intro v240 w18 ho19 hb hg_ hnew_; clear hg_ hnew_; (first | rw [← Ny239.out] at ho19 | (simp only [Int.reduceToNat] at ho19; rw [← Ny239.out] at ho19)); have n0_ := am (Kd.R_elder' (by (with_reducible repeat (first | apply Kd.R_alloc | apply Kd.R_drewN | apply Kd.R_drew)); exact (Kd.R_mono (Kd.R_far (p := ⟨gb238, 1, none⟩) (Kd.R_far (p := ⟨gb238, 0, none⟩) (Kd.R_mono HO_4.out (fun k_ hk => (⟨hk, hk.2⟩ : _ ∧ k_ ≠ gb238))) (fun _ hk => hk.2) (.int .i64 t235)) (fun _ hk => hk.2) (.bool t236)) (fun _ h_ => h_.1))) (Kd.R_base ho19) hb); have n1_ := am (Kd.R_below (by (with_reducible repeat (first | apply Kd.R_alloc | apply Kd.R_drewN | apply Kd.R_drew)); exact (Kd.R_mono (Kd.R_far (p := ⟨gb238, 1, none⟩) (Kd.R_far (p := ⟨gb238, 0, none⟩) (Kd.R_types HO_5.out BK238.out (by decide)) (fun _ hk => hk.2) (.int .i64 t235)) (fun _ hk => hk.2) (.bool t236)) (fun _ h_ => h_.1))) hb); have n2_ := am (Kd.R_lower (Kd.R_newB (Kd.R_new' ho19 (Kd.R_lt (by (with_reducible repeat (first | apply Kd.R_alloc | apply Kd.R_drewN | apply Kd.R_drew)); exact (Kd.R_mono (Kd.R_far (p := ⟨gb238, 1, none⟩) (Kd.R_far (p := ⟨gb238, 0, none⟩) (Kd.R_mono HO_4.out (fun k_ hk => (⟨hk, hk.2⟩ : _ ∧ k_ ≠ gb238))) (fun _ hk => hk.2) (.int .i64 t235)) (fun _ hk => hk.2) (.bool t236)) (fun _ h_ => h_.1))))) (g := gb238) (o := .cells #[.int .i64 t235, .bool t236] 30 (0, 0)) (by (with_reducible repeat (first | refine blk_drewN ?_ _ | refine blk_drew ?_ | refine blk_alloc ?_ _)); refine blk_put (cs := #[.int .i64 t235, .bool false]) ?_ 1 _ rfl; (with_reducible repeat (first | refine blk_drewN ?_ _ | refine blk_drew ?_ | refine blk_alloc ?_ _)); refine blk_put (cs := #[.int .i64 0, .bool false]) ?_ 0 _ rfl; (with_reducible repeat (first | refine blk_drewN ?_ _ | refine blk_drew ?_ | refine blk_alloc ?_ _)); exact BK238.out)) (below_size (bu HB.out))); have n3_ := am (blk_below (g := gb238) (o := .cells #[.int .i64 t235, .bool t236] 30 (0, 0)) (by (with_reducible repeat (first | refine blk_drewN ?_ _ | refine blk_drew ?_ | refine blk_alloc ?_ _)); refine blk_put (cs := #[.int .i64 t235, .bool false]) ?_ 1 _ rfl; (with_reducible repeat (first | refine blk_drewN ?_ _ | refine blk_drew ?_ | refine blk_alloc ?_ _)); refine blk_put (cs := #[.int .i64 0, .bool false]) ?_ 0 _ rfl; (with_reducible repeat (first | refine blk_drewN ?_ _ | refine blk_drew ?_ | refine blk_alloc ?_ _)); exact BK238.out) hb); have n4_ := am (below_step (bu HB.out) hb); clear HO_4; clear HO_5; clear BK238; clear HB; have HO_4 := n0_; have HO_5 := n1_; have HO241 := n2_; have BK238 := n3_; have HB := n4_; clear n0_ n1_ n2_ n3_ n4_; clear hb ho19))
        go_ret2
        exact ⟨_, by first | rfl | (simp [errW_none, errW_some] <;> rfl) | (simp [*, errW_none, errW_some] <;> rfl), by (with_reducible repeat (first | apply Kd.R_alloc | apply Kd.R_drewN | apply Kd.R_drew)); exact Kd.R_mono HO241.out (fun _ hk => trivial), bu HB.out⟩
       ·rw [if_neg c13] at H
        have c13b0 : decide (24 ≤ x6_1) = false := decide_eq_false c13
        clear c13
        by_cases c20 : x4_1.length < 8796093022208
        ·rw [if_pos c20] at H
         have LMc20 := am c20
         clear c20
         obtain ⟨y242, hy242⟩ : ∃ y_ : List (S30), y_ = (x4_1 ++ [(⟨t235, t236⟩ : S30)]) := ⟨_, rfl⟩
         replace H : (spec_MelodyFrom.l0 k1 y242 t231 (wrap64 (x6_1 + 1))) = some (r1, r2) := by first | (rw [hy242]; with_reducible exact H) | (have H2_ := (Option.bind_some _ _).symm.trans H; rw [hy242]; with_reducible exact H2_) | (have H2_ := (Option.bind_some _ _).symm.trans H; with_reducible exact H2_) | with_reducible exact H | (rw [hy242]; exact H) | exact H
         have Ny242 := am hy242
         clear hy242
         have H' := am H
         clear H
         obtain ⟨Ao21, co21, eo21⟩ := Kd.R_slice HO_5.out
         subst eo21
         have p234 : 0 ≤ (x6_1 : Int) := od
         have q234 : x6_1 < (t231.length : Int) := od
         obtain ⟨ad234, e234, hx234_0⟩ := Kd.at_string (Kd.R_reads' HO_5.out).2.2 x6_1 p234 q234
         cases e234
         replace p234 := eq_true p234
         replace q234 := eq_true q234
         go_wp2_with (first | ((with_reducible refine gate_callee (f := 112) rfl ?_); refine goesL_ (some 26) rfl rfl Tryd.func112 (by kernel_rfl) rfl #[.string (rdOf ByteArray.empty t231 x6_1)] rfl (by (try simp only [List.map_toArray, List.map_cons, List.map_nil]); first | done | rfl | (simp only [List.length_drop, List.length_take]; rfl)) ?_; (with_reducible refine (spec_ToneFrom.calls k1 (rdOf ByteArray.empty t231 x6_1) t235 t236 true _ A11.out).mono ?_); rintro e w22 ⟨rfl, hb⟩; refine ⟨_, rfl, ?_⟩; have n0_ := am (Kd.R_below (ru HO_4.out) hb); have n1_ := am (Kd.R_below (ru HO_5.out) hb); have n2_ := am (below_step (bu HB.out) hb); clear HO_4; clear HO_5; clear HB; have HO_4 := n0_; have HO_5 := n1_; have HB := n2_; clear n0_ n1_ n2_; (try clear hb); (try clear hb2); (try clear hk); (try clear hi)) | ((with_reducible refine gate_dst (N := 7) rfl ?_); refine box_event ?hg (N := 7) ?hd (cs := #[.int .i64 0, .bool false]) (t := 30) ?hr ?_; (case hd => rfl); (case hg => rfl); (case hr => first | (go_simp; done) | (go_simp; rfl)); intro gb238 hg w23 hbox hb; have n0_ := am (Kd.R_below (Kd.R_elderB (ru HO_4.out) gb238 (Nat.le_of_eq hg.symm)) hb); have n1_ := am (Kd.R_below (ru HO_5.out) hb); have n2_ := am (below_step (bu HB.out) hb); have n3_ := am (hbox); have n4_ := am ((by rw [hg]; exact (below_size (bu HB.out)) : w.heap.size ≤ gb238)); have n5_ := am ((by rw [hg]; exact (below_size (bu HB.out)) : w.heap.size ≤ gb238)); clear HO_4; clear HO_5; clear HB; have HO_4 := n0_; have HO_5 := n1_; have HB := n2_; have BK238 := n3_; have GW238 := n4_; have GE238 := n5_; clear n0_ n1_ n2_ n3_ n4_ n5_; clear hb hbox hg; have hcz24_0 : w23.cell? ⟨gb238, 0, none⟩ = some (.int .i64 0) := (blk_cell BK238.out 0).trans rfl; have hcz24_1 : w23.cell? ⟨gb238, 1, none⟩ = some (.bool false) := (blk_cell BK238.out 1).trans rfl; have hfz24_0 := blk_frozen BK238.out 0; have hfz24_1 := blk_frozen BK238.out 1) | ((with_reducible refine gate_builtin (b := .append) (xs := #[.tmp 36, .tmp 38]) rfl ?_); at_builtin; refine Kd.R_append k30 (w0 := w) w.heap.size rfl (.tmp 36) (.tmp 38) 42 30 (.agg #[(.int .i64 0), (.bool false)]) 16 rfl Tryd.underlying42 info30 rfl (by decide) (by omega) u4 x4_1 (⟨t235, t236⟩ : S30) [.int .i64 t235, .bool t236] (fun k_ => k_ ≠ gb238) (fun _ => False) rfl (by first | (go_simp; done) | (go_simp; rfl)) ?aP (fun _ hk => hk.elim) ?aF ?aO ?aB ?aS ?aL ?_; (case aP => exact k30_mkM _ _ _ (⟨t235, t236⟩ : S30)); (case aB => exact (bu HB.out)); (case aF => exact (fun k_ hk => Kd.freshB (g := gb238) (o := .cells #[.int .i64 t235, .bool t236] 30 (0, 0)) (by (with_reducible repeat (first | refine blk_drewN ?_ _ | refine blk_drew ?_ | refine blk_alloc ?_ _)); refine blk_put (cs := #[.int .i64 t235, .bool false]) ?_ 1 _ rfl; (with_reducible repeat (first | refine blk_drewN ?_ _ | refine blk_drew ?_ | refine blk_alloc ?_ _)); refine blk_put (cs := #[.int .i64 0, .bool false]) ?_ 0 _ rfl; (with_reducible repeat (first | refine blk_drewN ?_ _ | refine blk_drew ?_ | refine blk_alloc ?_ _)); exact BK238.out) k_ hk)); (case aO => exact (by (with_reducible repeat (first | apply Kd.R_alloc | apply Kd.R_drewN | apply Kd.R_drew)); exact Kd.R_mono (Kd.R_far (p := ⟨gb238, 1, none⟩) (Kd.R_far (p := ⟨gb238, 0, none⟩) (Kd.R_mono HO_4.out (fun k_ hk => (⟨hk, hk.2⟩ : _ ∧ k_ ≠ gb238))) (fun _ hk => hk.2) (.int .i64 t235)) (fun _ hk => hk.2) (.bool t236)) (fun _ hk => hk.1.2))); (case aS => exact (below_size (bu HB.out))); (case aL => have := LMc20.out; omega); intro v243 w25 ho hb hg hat; rw [← Ny242.out] at ho; have n0_ := am (Kd.R_over' (by (with_reducible repeat (first | apply Kd.R_alloc | apply Kd.R_drewN | apply Kd.R_drew)); exact (Kd.R_mono (Kd.R_far (p := ⟨gb238, 1, none⟩) (Kd.R_far (p := ⟨gb238, 0, none⟩) (Kd.R_types HO_5.out BK238.out (by decide)) (fun _ hk => hk.2) (.int .i64 t235)) (fun _ hk => hk.2) (.bool t236)) (fun _ h_ => h_.1))) (Kd.R_typed (by (with_reducible repeat (first | apply Kd.R_alloc | apply Kd.R_drewN | apply Kd.R_drew)); exact (Kd.R_mono (Kd.R_far (p := ⟨gb238, 1, none⟩) (Kd.R_far (p := ⟨gb238, 0, none⟩) (Kd.R_mono HO_4.out (fun k_ hk => (⟨hk, hk.2⟩ : _ ∧ k_ ≠ gb238))) (fun _ hk => hk.2) (.int .i64 t235)) (fun _ hk => hk.2) (.bool t236)) (fun _ h_ => h_.1)))) (by decide) hg); have n1_ := am (blk_grown (g := gb238) (o := .cells #[.int .i64 t235, .bool t236] 30 (0, 0)) (by (with_reducible repeat (first | refine blk_drewN ?_ _ | refine blk_drew ?_ | refine blk_alloc ?_ _)); refine blk_put (cs := #[.int .i64 t235, .bool false]) ?_ 1 _ rfl; (with_reducible repeat (first | refine blk_drewN ?_ _ | refine blk_drew ?_ | refine blk_alloc ?_ _)); refine blk_put (cs := #[.int .i64 0, .bool false]) ?_ 0 _ rfl; (with_reducible repeat (first | refine blk_drewN ?_ _ | refine blk_drew ?_ | refine blk_alloc ?_ _)); exact BK238.out) hg (Kd.R_away HO_4.out (fun _ hk => hk.2))); have n2_ := am (hb); have n3_ := am (ho); clear HO_5; clear BK238; clear HB; clear HO_4; have HO_5 := n0_; have BK238 := n1_; have HB := n2_; have HO244 := n3_; clear n0_ n1_ n2_ n3_; clear ho hb hg hat))
         go_roundg k1
         case measure => have := HK1.out; omega
         case rel => exact ⟨(y242), (wrap64 (x6_1 + 1)), (by first | rfl | (simp; done) | (simp [*]; done)), H', ⟨by have := HK1.out; omega⟩, ⟨by (with_reducible repeat (first | apply Kd.R_alloc | apply Kd.R_drewN | apply Kd.R_drew)); exact Kd.R_mono HO244.out (fun _ hk => trivial)⟩, ⟨ru HO_5.out⟩, ⟨bu HB.out⟩⟩
        ·rw [if_neg c20] at H
         exact absurd H (by simp)
      ·replace c12 := Bool.eq_false_iff.mpr c12
       subst c12
       have H1 : (some ((([] : List (S30))), false)) = some (r1, r2) := by rw [if_neg (show ¬ (false = true) by decide)] at H; exact H
       clear H
       have H := H1
       clear H1
       obtain ⟨y245, hy245⟩ : ∃ y_ : List (S30), y_ = (([] : List (S30))) := ⟨_, rfl⟩
       replace H : (some (y245, false)) = some (r1, r2) := by first | (rw [hy245]; with_reducible exact H) | (have H2_ := (Option.bind_some _ _).symm.trans H; rw [hy245]; with_reducible exact H2_) | (have H2_ := (Option.bind_some _ _).symm.trans H; with_reducible exact H2_) | with_reducible exact H | (rw [hy245]; exact H) | exact H
       have Ny245 := am hy245
       clear hy245
       simp only [Option.some.injEq, Prod.mk.injEq] at H
       obtain ⟨rfl, rfl⟩ := H
       obtain ⟨Ao26, co26, eo26⟩ := Kd.R_slice HO_5.out
       subst eo26
       have p234 : 0 ≤ (x6_1 : Int) := od
       have q234 : x6_1 < (t231.length : Int) := od
       obtain ⟨ad234, e234, hx234_0⟩ := Kd.at_string (Kd.R_reads' HO_5.out).2.2 x6_1 p234 q234
       cases e234
       replace p234 := eq_true p234
       replace q234 := eq_true q234
       go_wp2_with (first | ((with_reducible refine gate_callee (f := 112) rfl ?_); refine goesL_ (some 26) rfl rfl Tryd.func112 (by kernel_rfl) rfl #[.string (rdOf ByteArray.empty t231 x6_1)] rfl (by (try simp only [List.map_toArray, List.map_cons, List.map_nil]); first | done | rfl | (simp only [List.length_drop, List.length_take]; rfl)) ?_; (with_reducible refine (spec_ToneFrom.calls k1 (rdOf ByteArray.empty t231 x6_1) t235 t236 false _ A11.out).mono ?_); rintro e w27 ⟨rfl, hb⟩; refine ⟨_, rfl, ?_⟩; have n0_ := am (Kd.R_below (ru HO_4.out) hb); have n1_ := am (Kd.R_below (ru HO_5.out) hb); have n2_ := am (below_step (bu HB.out) hb); clear HO_4; clear HO_5; clear HB; have HO_4 := n0_; have HO_5 := n1_; have HB := n2_; clear n0_ n1_ n2_; (try clear hb); (try clear hb2); (try clear hk); (try clear hi)) | ((with_reducible refine gate_dst (N := 7) rfl ?_); refine box_event ?hg (N := 7) ?hd (cs := #[.int .i64 0, .bool false]) (t := 30) ?hr ?_; (case hd => rfl); (case hg => rfl); (case hr => first | (go_simp; done) | (go_simp; rfl)); intro gb238 hg w28 hbox hb; have n0_ := am (Kd.R_below (Kd.R_elderB (ru HO_4.out) gb238 (Nat.le_of_eq hg.symm)) hb); have n1_ := am (Kd.R_below (ru HO_5.out) hb); have n2_ := am (below_step (bu HB.out) hb); have n3_ := am (hbox); have n4_ := am ((by rw [hg]; exact (below_size (bu HB.out)) : w.heap.size ≤ gb238)); have n5_ := am ((by rw [hg]; exact (below_size (bu HB.out)) : w.heap.size ≤ gb238)); clear HO_4; clear HO_5; clear HB; have HO_4 := n0_; have HO_5 := n1_; have HB := n2_; have BK238 := n3_; have GW238 := n4_; have GE238 := n5_; clear n0_ n1_ n2_ n3_ n4_ n5_; clear hb hbox hg; have hcz29_0 : w28.cell? ⟨gb238, 0, none⟩ = some (.int .i64 0) := (blk_cell BK238.out 0).trans rfl; have hcz29_1 : w28.cell? ⟨gb238, 1, none⟩ = some (.bool false) := (blk_cell BK238.out 1).trans rfl; have hfz29_0 := blk_frozen BK238.out 0; have hfz29_1 := blk_frozen BK238.out 1) | ((with_reducible refine gate_dst (N := 35) rfl ?_); refine Kd.R_lit k30 _ 30 ?hg (N := 35) ?hd (xs := ([] : List (S30))) (inner := []) (ok := fun _ => True) (okp := fun _ => True) ?hr ?hp (fun _ hk => hk) trivial (Below.refl _ _) (Nat.le_refl _) (by simp) ?_; (case hd => rfl); (case hg => rfl); (case hr => first | (go_simp; done) | (go_simp; rfl)); (case hp => exact (Reps.none _ _)); intro v246 w30 ho31 hb hg_ hnew_; clear hg_ hnew_; (first | rw [← Ny245.out] at ho31 | (simp only [Int.reduceToNat] at ho31; rw [← Ny245.out] at ho31)); have n0_ := am (Kd.R_elder' (by (with_reducible repeat (first | apply Kd.R_alloc | apply Kd.R_drewN | apply Kd.R_drew)); exact (Kd.R_mono (Kd.R_far (p := ⟨gb238, 1, none⟩) (Kd.R_far (p := ⟨gb238, 0, none⟩) (Kd.R_mono HO_4.out (fun k_ hk => (⟨hk, hk.2⟩ : _ ∧ k_ ≠ gb238))) (fun _ hk => hk.2) (.int .i64 t235)) (fun _ hk => hk.2) (.bool t236)) (fun _ h_ => h_.1))) (Kd.R_base ho31) hb); have n1_ := am (Kd.R_below (by (with_reducible repeat (first | apply Kd.R_alloc | apply Kd.R_drewN | apply Kd.R_drew)); exact (Kd.R_mono (Kd.R_far (p := ⟨gb238, 1, none⟩) (Kd.R_far (p := ⟨gb238, 0, none⟩) (Kd.R_types HO_5.out BK238.out (by decide)) (fun _ hk => hk.2) (.int .i64 t235)) (fun _ hk => hk.2) (.bool t236)) (fun _ h_ => h_.1))) hb); have n2_ := am (Kd.R_lower (Kd.R_newB (Kd.R_new' ho31 (Kd.R_lt (by (with_reducible repeat (first | apply Kd.R_alloc | apply Kd.R_drewN | apply Kd.R_drew)); exact (Kd.R_mono (Kd.R_far (p := ⟨gb238, 1, none⟩) (Kd.R_far (p := ⟨gb238, 0, none⟩) (Kd.R_mono HO_4.out (fun k_ hk => (⟨hk, hk.2⟩ : _ ∧ k_ ≠ gb238))) (fun _ hk => hk.2) (.int .i64 t235)) (fun _ hk => hk.2) (.bool t236)) (fun _ h_ => h_.1))))) (g := gb238) (o := .cells #[.int .i64 t235, .bool t236] 30 (0, 0)) (by (with_reducible repeat (first | refine blk_drewN ?_ _ | refine blk_drew ?_ | refine blk_alloc ?_ _)); refine blk_put (cs := #[.int .i64 t235, .bool false]) ?_ 1 _ rfl; (with_reducible repeat (first | refine blk_drewN ?_ _ | refine blk_drew ?_ | refine blk_alloc ?_ _)); refine blk_put (cs := #[.int .i64 0, .bool false]) ?_ 0 _ rfl; (with_reducible repeat (first | refine blk_drewN ?_ _ | refine blk_drew ?_ | refine blk_alloc ?_ _)); exact BK238.out)) (below_size (bu HB.out))); have n3_ := am (blk_below (g := gb238) (o := .cells #[.int .i64 t235, .bool t236] 30 (0, 0)) (by (with_reducible repeat (first | refine blk_drewN ?_ _ | refine blk_drew ?_ | refine blk_alloc ?_ _)); refine blk_put (cs := #[.int .i64 t235, .bool false]) ?_ 1 _ rfl; (with_reducible repeat (first | refine blk_drewN ?_ _ | refine blk_drew ?_ | refine blk_alloc ?_ _)); refine blk_put (cs := #[.int .i64 0, .bool false]) ?_ 0 _ rfl; (with_reducible repeat (first | refine blk_drewN ?_ _ | refine blk_drew ?_ | refine blk_alloc ?_ _)); exact BK238.out) hb); have n4_ := am (below_step (bu HB.out) hb); clear HO_4; clear HO_5; clear BK238; clear HB; have HO_4 := n0_; have HO_5 := n1_; have HO247 := n2_; have BK238 := n3_; have HB := n4_; clear n0_ n1_ n2_ n3_ n4_; clear hb ho31))
       go_ret2
       exact ⟨_, by first | rfl | (simp [errW_none, errW_some] <;> rfl) | (simp [*, errW_none, errW_some] <;> rfl), by (with_reducible repeat (first | apply Kd.R_alloc | apply Kd.R_drewN | apply Kd.R_drew)); exact Kd.R_mono HO247.out (fun _ hk => trivial), bu HB.out⟩
     ·rw [if_neg c10] at H
      exact absurd H (by simp)
    ·rw [if_neg c9] at H
     have c9b0 : decide (x6_1 < (t231.length : Int)) = false := decide_eq_false c9
     clear c9
     simp only [Option.some.injEq, Prod.mk.injEq] at H
     obtain ⟨rfl, rfl⟩ := H
     obtain ⟨Ao32, co32, eo32⟩ := Kd.R_slice HO_5.out
     subst eo32
     go_wp2
     go_ret2
     exact ⟨_, by first | rfl | (simp [errW_none, errW_some] <;> rfl) | (simp [*, errW_none, errW_some] <;> rfl), ru HO_4.out, bu HB.out⟩

/-! ### laws_FnMelodyFrom: function 12 -/
def laws_FnMelodyFrom.j0 : Nat → ByteArray → List (S30) → Bool → List (S30) → Bool → Bool → Option (Bool)
 | 0, _, _, _, _, _, _ => none
 | k + 1, x3, x4, x5, x6, x7, x37 => if x37 = true then (if (x5 == x7) = true then ((laws_sameTones.f k x4 x6).bind fun t258 => (some t258)) else (some false)) else (if x3.size + 1 ≤ 9223372036854775807 then ((impl_MelodyFrom.f k (x3 ++ (⟨#[32]⟩ : ByteArray))).bind fun bt259 => ((impl_MelodyValid.f k x4).bind fun t263 => (if t263 = true then ((impl_MelodyText.f k x4).bind fun t264 => (if t264.toList = x3.toList then (some (!bt259.2)) else (some false))) else (some false)))) else (none))
def laws_FnMelodyFrom.f (k : Nat) (l0 : List Int) : Option (Bool) := if (l0.length : Int) > 1048576 then (some true) else ((spec_DrawMelodyFrom.f k l0).bind fun t248 => ((impl_MelodyFrom.f k t248).bind fun bt249 => ((spec_MelodyFrom.f k t248).bind fun bt253 => (if (bt249.2 != bt253.2) = true then (laws_FnMelodyFrom.j0 k t248 bt249.1 bt249.2 bt253.1 bt253.2 true) else ((laws_sameTones.f k bt249.1 bt253.1).bind fun t257 => (if t257 = true then (laws_FnMelodyFrom.j0 k t248 bt249.1 bt249.2 bt253.1 bt253.2 (!bt249.2)) else (laws_FnMelodyFrom.j0 k t248 bt249.1 bt249.2 bt253.1 bt253.2 true)))))))
set_option maxHeartbeats 8000000 in
set_option maxRecDepth 100000 in
theorem laws_FnMelodyFrom.calls (k : Nat) (A0 : Option Addr) (c0 : Nat) (l0 : List Int) (r : Bool) (w : World) (hr0 : Kd.C (Kd.int .u8) w A0 l0.length l0) (hc0 : l0.length ≤ c0) (hTL : TabL w) (hTM : TabM w) (h : laws_FnMelodyFrom.f k l0 = some r) :
  Calls Tryd.prog 12 #[.slice A0 l0.length c0] w fun e w' => e = .returned (.bool r) ∧ Below w.heap.size w w' := by
 have HTL := am hTL
 clear hTL
 have HTM := am hTM
 clear hTM
 have HR0 := am hr0
 have HC0 := am hc0
 clear hr0 hc0
 have HB := am (Below.refl w.heap.size w)
 have H : (if (l0.length : Int) > 1048576 then (some true) else ((spec_DrawMelodyFrom.f k l0).bind fun t248 => ((impl_MelodyFrom.f k t248).bind fun bt249 => ((spec_MelodyFrom.f k t248).bind fun bt253 => (if (bt249.2 != bt253.2) = true then (laws_FnMelodyFrom.j0 k t248 bt249.1 bt249.2 bt253.1 bt253.2 true) else ((laws_sameTones.f k bt249.1 bt253.1).bind fun t257 => (if t257 = true then (laws_FnMelodyFrom.j0 k t248 bt249.1 bt249.2 bt253.1 bt253.2 (!bt249.2)) else (laws_FnMelodyFrom.j0 k t248 bt249.1 bt249.2 bt253.1 bt253.2 true)))))))) = some r := h
 clear h
 by_cases c2 : (l0.length : Int) > 1048576
 ·rw [if_pos c2] at H
  have c2b0 : decide (1048576 < (l0.length : Int)) = true := decide_eq_true c2
  have c2b1 : decide (1048576 < l0.length) = true := decide_eq_true (by omega)
  clear c2
  obtain rfl := Option.some.inj H
  go_enter Tryd.func12, Tryd.ntmps12
  go_wp2
  go_ret
  exact ⟨by first | rfl | (simp [errW_none, errW_some] <;> rfl) | (simp [*, errW_none, errW_some] <;> rfl), bu HB.out⟩
 ·rw [if_neg c2] at H
  have c2b0 : decide (1048576 < (l0.length : Int)) = false := decide_eq_false c2
  have c2b1 : decide (1048576 < l0.length) = false := decide_eq_false (by omega)
  clear c2
  replace H := Option.bind_eq_some_iff.mp H
  obtain ⟨t248, A30, H⟩ := H
  replace H : ((impl_MelodyFrom.f k t248).bind fun bt249 => ((spec_MelodyFrom.f k t248).bind fun bt253 => (if (bt249.2 != bt253.2) = true then (laws_FnMelodyFrom.j0 k t248 bt249.1 bt249.2 bt253.1 bt253.2 true) else ((laws_sameTones.f k bt249.1 bt253.1).bind fun t257 => (if t257 = true then (laws_FnMelodyFrom.j0 k t248 bt249.1 bt249.2 bt253.1 bt253.2 (!bt249.2)) else (laws_FnMelodyFrom.j0 k t248 bt249.1 bt249.2 bt253.1 bt253.2 true)))))) = some r := H
  have A3 := am A30
  clear A30
  replace H := Option.bind_eq_some_iff.mp H
  obtain ⟨⟨t249, t250⟩, A40, H⟩ := H
  replace H : ((spec_MelodyFrom.f k t248).bind fun bt253 => (if (t250 != bt253.2) = true then (laws_FnMelodyFrom.j0 k t248 t249 t250 bt253.1 bt253.2 true) else ((laws_sameTones.f k t249 bt253.1).bind fun t257 => (if t257 = true then (laws_FnMelodyFrom.j0 k t248 t249 t250 bt253.1 bt253.2 (!t250)) else (laws_FnMelodyFrom.j0 k t248 t249 t250 bt253.1 bt253.2 true))))) = some r := H
  have A4 := am A40
  clear A40
  replace H := Option.bind_eq_some_iff.mp H
  obtain ⟨⟨t253, t254⟩, A50, H⟩ := H
  replace H : (if (t250 != t254) = true then (laws_FnMelodyFrom.j0 k t248 t249 t250 t253 t254 true) else ((laws_sameTones.f k t249 t253).bind fun t257 => (if t257 = true then (laws_FnMelodyFrom.j0 k t248 t249 t250 t253 t254 (!t250)) else (laws_FnMelodyFrom.j0 k t248 t249 t250 t253 t254 true)))) = some r := H
  have A5 := am A50
  clear A50
  have HC6 := am H
  clear H
  go_enter Tryd.func12, Tryd.ntmps12
  go_upto_region 6 with (first | ((with_reducible refine gate_callee (f := 56) rfl ?_); refine goesL_ (some 14) rfl rfl Tryd.func56 (by kernel_rfl) rfl #[.slice A0 l0.length c0] rfl (by (try simp only [List.map_toArray, List.map_cons, List.map_nil]); first | done | rfl | (simp only [List.length_drop, List.length_take]; rfl)) ?_; (with_reducible refine (spec_DrawMelodyFrom.calls k _ _ l0 t248 _ ?side1 ?side2 A3.out).mono ?_); (case side1 => exact cu HR0.out); (case side2 => exact HC0.out); rintro e w7 ⟨rfl, hb⟩; refine ⟨_, rfl, ?_⟩; have n0_ := am (below_step (bu HB.out) hb); clear HB; have HB := n0_; clear n0_; (try clear hb); (try clear hb2); (try clear hk); (try clear hi)) | ((with_reducible refine gate_callee (f := 54) rfl ?_); refine goesL_ (some 17) rfl rfl Tryd.func54 (by kernel_rfl) rfl #[.string t248] rfl (by (try simp only [List.map_toArray, List.map_cons, List.map_nil]); first | done | rfl | (simp only [List.length_drop, List.length_take]; rfl)) ?_; (with_reducible refine (impl_MelodyFrom.calls k t248 t249 t250 _ ?side1 ?side2 A4.out).mono ?_); (case side1 => first | exact HTL.out | exact TabAt.below HTL.out (bu HB.out)); (case side2 => first | exact HTM.out | exact TabAt.below HTM.out (bu HB.out) | exact TabM.below HTM.out (bu HB.out) | (repeat (first | exact HTM.out | (with_reducible refine TabAt.drewN ?_ _) | (with_reducible refine TabAt.drew ?_) | (with_reducible refine TabAt.alloc ?_ _)))); rintro e w8 ⟨v251, rfl, ho0, hb⟩; refine ⟨_, rfl, ?_⟩; have n0_ := am (Kd.R_lower ho0 (below_size (bu HB.out))); have n1_ := am (below_step (bu HB.out) hb); clear HB; have HO252 := n0_; have HB := n1_; clear n0_ n1_; (try clear hb); (try clear hb2); (try clear hk); (try clear hi); (try clear ho0)) | ((with_reducible refine gate_callee (f := 57) rfl ?_); refine goesL_ (some 22) rfl rfl Tryd.func57 (by kernel_rfl) rfl #[.string t248] rfl (by (try simp only [List.map_toArray, List.map_cons, List.map_nil]); first | done | rfl | (simp only [List.length_drop, List.length_take]; rfl)) ?_; (with_reducible refine (spec_MelodyFrom.calls k t248 t253 t254 _ A5.out).mono ?_); rintro e w9 ⟨v255, rfl, ho0, hb⟩; refine ⟨_, rfl, ?_⟩; have n0_ := am (Kd.R_elder' (ru HO252.out) (Kd.R_base ho0) hb); have n1_ := am (Kd.R_lower (Kd.R_new' ho0 (Kd.R_lt (ru HO252.out))) (below_size (bu HB.out))); have n2_ := am (below_step (bu HB.out) hb); clear HO252; clear HB; have HO252 := n0_; have HO256 := n1_; have HB := n2_; clear n0_ n1_ n2_; (try clear hb); (try clear hb2); (try clear hk); (try clear hi); (try clear ho0)))
  (try simp only [Act.put, sA, sZ, sS])
  go_cut [37] (fun v37 wc => ∃ (kq : Nat) (x37_5 : Bool), v37 = .bool x37_5 ∧ Aside0 (laws_FnMelodyFrom.j0 kq t248 t249 t250 t253 t254 x37_5 = some r) ∧ Aside0 (kq ≤ k) ∧ Aside0 (Kd.R k30 30 wc w.heap.size (fun k_ => some k_ ≠ (v255 : Value).ownBlock) v251 t249) ∧ Aside0 (Kd.R k30 30 wc w.heap.size (fun k_ => some k_ ≠ (v251 : Value).ownBlock) v255 t253) ∧ Aside0 (Below w.heap.size w wc))
  case first =>
   have H := HC6.out
   clear HC6
   by_cases c10 : (t250 != t254) = true
   ·rw [if_pos c10] at H
    have c10b0 : (t250 != t254) = true := c10
    (try (have c10b1 : decide (t250 = t254) = false := by simpa using c10))
    (try (have c10b2 : (t250 == t254) = false := by simpa using c10))
    (try (have c10b3 : ¬ (t250 = t254) := by simpa using c10))
    clear c10
    (first | rw [c10b0] | (simp only [i64_w, i32_w]; rw [c10b0]) | skip)
    have H' := am H
    clear H
    go_wp2
    go_meet
    case rel => exact ⟨_, (true), (by first | rfl | (simp; done) | (simp [*]; done)), H', ⟨by first | omega | exact Nat.le_refl _⟩, ⟨by (with_reducible repeat (first | apply Kd.R_alloc | apply Kd.R_drewN | apply Kd.R_drew)); exact Kd.R_mono HO252.out (fun _ hk => hk.2)⟩, ⟨by (with_reducible repeat (first | apply Kd.R_alloc | apply Kd.R_drewN | apply Kd.R_drew)); exact Kd.R_mono HO256.out (fun _ hk => hk.2)⟩, ⟨bu HB.out⟩⟩
   ·rw [if_neg c10] at H
    have c10b0 : (t250 != t254) = false := by simpa using c10
    (try (have c10b1 : decide (t250 = t254) = true := by simpa using c10))
    (try (have c10b2 : (t250 == t254) = true := by simpa using c10))
    clear c10
    (first | rw [c10b0] | (simp only [i64_w, i32_w]; rw [c10b0]) | skip)
    replace H := Option.bind_eq_some_iff.mp H
    obtain ⟨t257, A110, H⟩ := H
    replace H : (if t257 = true then (laws_FnMelodyFrom.j0 k t248 t249 t250 t253 t254 (!t250)) else (laws_FnMelodyFrom.j0 k t248 t249 t250 t253 t254 true)) = some r := H
    have A11 := am A110
    clear A110
    by_cases c12 : t257 = true
    ·subst c12
     have H1 : (laws_FnMelodyFrom.j0 k t248 t249 t250 t253 t254 (!t250)) = some r := by rw [if_pos rfl] at H; exact H
     clear H
     have H := H1
     clear H1
     have H' := am H
     clear H
     obtain ⟨Ao13, co13, eo13⟩ := Kd.R_slice HO252.out
     subst eo13
     obtain ⟨Ao14, co14, eo14⟩ := Kd.R_slice HO256.out
     subst eo14
     go_wp2_with (first | (go_at_call 30; (with_reducible refine (laws_sameTones.calls k _ _ t249 _ _ t253 true _ ?side1 ?side2 ?side3 ?side4 A11.out).mono ?_); (case side1 => exact cu (Kd.R_reads' HO252.out).2.2); (case side2 => exact (Kd.R_reads' HO252.out).2.1); (case side3 => exact cu (Kd.R_reads' HO256.out).2.2); (case side4 => exact (Kd.R_reads' HO256.out).2.1); rintro e w' ⟨rfl, ⟨nd, rfl⟩⟩))
     go_meet
     case rel => exact ⟨_, (!t250), (by first | rfl | (simp; done) | (simp [*]; done)), H', ⟨by first | omega | exact Nat.le_refl _⟩, ⟨by (with_reducible repeat (first | apply Kd.R_alloc | apply Kd.R_drewN | apply Kd.R_drew)); exact Kd.R_mono HO252.out (fun _ hk => hk.2)⟩, ⟨by (with_reducible repeat (first | apply Kd.R_alloc | apply Kd.R_drewN | apply Kd.R_drew)); exact Kd.R_mono HO256.out (fun _ hk => hk.2)⟩, ⟨bu HB.out⟩⟩
    ·replace c12 := Bool.eq_false_iff.mpr c12
     subst c12
     have H1 : (laws_FnMelodyFrom.j0 k t248 t249 t250 t253 t254 true) = some r := by rw [if_neg (show ¬ (false = true) by decide)] at H; exact H
     clear H
     have H := H1
     clear H1
     have H' := am H
     clear H
     obtain ⟨Ao15, co15, eo15⟩ := Kd.R_slice HO252.out
     subst eo15
     obtain ⟨Ao16, co16, eo16⟩ := Kd.R_slice HO256.out
     subst eo16
     go_wp2_with (first | (go_at_call 30; (with_reducible refine (laws_sameTones.calls k _ _ t249 _ _ t253 false _ ?side1 ?side2 ?side3 ?side4 A11.out).mono ?_); (case side1 => exact cu (Kd.R_reads' HO252.out).2.2); (case side2 => exact (Kd.R_reads' HO252.out).2.1); (case side3 => exact cu (Kd.R_reads' HO256.out).2.2); (case side4 => exact (Kd.R_reads' HO256.out).2.1); rintro e w' ⟨rfl, ⟨nd, rfl⟩⟩))
     go_meet
     case rel => exact ⟨_, (true), (by first | rfl | (simp; done) | (simp [*]; done)), H', ⟨by first | omega | exact Nat.le_refl _⟩, ⟨by (with_reducible repeat (first | apply Kd.R_alloc | apply Kd.R_drewN | apply Kd.R_drew)); exact Kd.R_mono HO252.out (fun _ hk => hk.2)⟩, ⟨by (with_reducible repeat (first | apply Kd.R_alloc | apply Kd.R_drewN | apply Kd.R_drew)); exact Kd.R_mono HO256.out (fun _ hk => hk.2)⟩, ⟨bu HB.out⟩⟩
  case rest =>
   clear HC6
   try clear c1
   try clear c2
   try clear c2b0
   try clear c2b1
   try clear p2
   try clear c5
   try clear c10
   try clear c10b0
   try clear c10b1
   try clear c10b2
   try clear c12
   obtain ⟨kq, x37_5, rfl, HA, HJ5, HO_4, HO_6, HB⟩ := hcut
   cases kq with
   | zero => exact absurd HA.out (by simp [laws_FnMelodyFrom.j0])
   | succ kj5 =>
    have H := HA.out
    clear HA
    simp only [laws_FnMelodyFrom.j0] at H
    by_cases c17 : x37_5 = true
    ·subst c17
     have H1 : (if (t250 == t254) = true then ((laws_sameTones.f kj5 t249 t253).bind fun t258 => (some t258)) else (some false)) = some r := by rw [if_pos rfl] at H; exact H
     clear H
     have H := H1
     clear H1
     by_cases c18 : (t250 == t254) = true
     ·rw [if_pos c18] at H
      have c18b0 : (t250 == t254) = true := c18
      (try (have c18b1 : decide (t250 = t254) = true := by simpa using c18))
      (try (have c18b2 : (t250 == t254) = true := by simpa using c18))
      clear c18
      replace H := Option.bind_eq_some_iff.mp H
      obtain ⟨t258, A190, H⟩ := H
      replace H : (some t258) = some r := H
      have A19 := am A190
      clear A190
      obtain rfl := Option.some.inj H
      obtain ⟨Ao20, co20, eo20⟩ := Kd.R_slice HO_4.out
      subst eo20
      obtain ⟨Ao21, co21, eo21⟩ := Kd.R_slice HO_6.out
      subst eo21
      go_wp2_with (first | (go_at_call 30; (with_reducible refine (laws_sameTones.calls kj5 _ _ t249 _ _ t253 t258 _ ?side1 ?side2 ?side3 ?side4 A19.out).mono ?_); (case side1 => exact cu (Kd.R_reads' HO_4.out).2.2); (case side2 => exact (Kd.R_reads' HO_4.out).2.1); (case side3 => exact cu (Kd.R_reads' HO_6.out).2.2); (case side4 => exact (Kd.R_reads' HO_6.out).2.1); rintro e w' ⟨rfl, ⟨nd, rfl⟩⟩))
      go_ret
      exact ⟨by first | rfl | (simp [errW_none, errW_some] <;> rfl) | (simp [*, errW_none, errW_some] <;> rfl), bu HB.out⟩
     ·rw [if_neg c18] at H
      have c18b0 : (t250 == t254) = false := by simpa using c18
      (try (have c18b1 : decide (t250 = t254) = false := by simpa using c18))
      (try (have c18b2 : (t250 == t254) = false := by simpa using c18))
      (try (have c18b3 : ¬ (t250 = t254) := by simpa using c18))
      clear c18
      obtain rfl := Option.some.inj H
      go_wp2
      go_ret
      exact ⟨by first | rfl | (simp [errW_none, errW_some] <;> rfl) | (simp [*, errW_none, errW_some] <;> rfl), bu HB.out⟩
    ·replace c17 := Bool.eq_false_iff.mpr c17
     subst c17
     have H1 : (if t248.size + 1 ≤ 9223372036854775807 then ((impl_MelodyFrom.f kj5 (t248 ++ (⟨#[32]⟩ : ByteArray))).bind fun bt259 => ((impl_MelodyValid.f kj5 t249).bind fun t263 => (if t263 = true then ((impl_MelodyText.f kj5 t249).bind fun t264 => (if t264.toList = t248.toList then (some (!bt259.2)) else (some false))) else (some false)))) else (none)) = some r := by rw [if_neg (show ¬ (false = true) by decide)] at H; exact H
     clear H
     have H := H1
     clear H1
     by_cases c22 : t248.size + 1 ≤ 9223372036854775807
     ·rw [if_pos c22] at H
      have c22b0 := eq_true c22
      have c22b1 : decide (t248.size + 1 ≤ 9223372036854775807) = true := decide_eq_true c22
      try have c22b2 : (9223372036854775807 < t248.size + 1) = False := eq_false (Nat.not_lt.2 c22)
      replace H := Option.bind_eq_some_iff.mp H
      obtain ⟨⟨t259, t260⟩, A230, H⟩ := H
      replace H : ((impl_MelodyValid.f kj5 t249).bind fun t263 => (if t263 = true then ((impl_MelodyText.f kj5 t249).bind fun t264 => (if t264.toList = t248.toList then (some (!t260)) else (some false))) else (some false))) = some r := H
      have A23 := am A230
      clear A230
      replace H := Option.bind_eq_some_iff.mp H
      obtain ⟨t263, A240, H⟩ := H
      replace H : (if t263 = true then ((impl_MelodyText.f kj5 t249).bind fun t264 => (if t264.toList = t248.toList then (some (!t260)) else (some false))) else (some false)) = some r := H
      have A24 := am A240
      clear A240
      by_cases c25 : t263 = true
      ·subst c25
       have H1 : ((impl_MelodyText.f kj5 t249).bind fun t264 => (if t264.toList = t248.toList then (some (!t260)) else (some false))) = some r := by rw [if_pos rfl] at H; exact H
       clear H
       have H := H1
       clear H1
       replace H := Option.bind_eq_some_iff.mp H
       obtain ⟨t264, A260, H⟩ := H
       replace H : (if t264.toList = t248.toList then (some (!t260)) else (some false)) = some r := H
       have A26 := am A260
       clear A260
       by_cases c27 : t264.toList = t248.toList
       ·rw [if_pos c27] at H
        have c27b0 : (t264.toList == t248.toList) = true := beq_iff_eq.mpr c27
        have c27b1 : (t264.toList != t248.toList) = false := bne_eq_false_iff_eq.mpr c27
        clear c27
        obtain rfl := Option.some.inj H
        go_wp2_with (first | ((with_reducible refine gate_callee (f := 54) rfl ?_); refine goesL_ (some 49) rfl rfl Tryd.func54 (by kernel_rfl) rfl #[.string (t248 ++ (⟨#[32]⟩ : ByteArray))] rfl (by (try simp only [List.map_toArray, List.map_cons, List.map_nil]); first | done | rfl | (simp only [List.length_drop, List.length_take]; rfl)) ?_; (with_reducible refine (impl_MelodyFrom.calls kj5 (t248 ++ (⟨#[32]⟩ : ByteArray)) t259 t260 _ ?side1 ?side2 A23.out).mono ?_); (case side1 => first | exact HTL.out | exact TabAt.below HTL.out (bu HB.out)); (case side2 => first | exact HTM.out | exact TabAt.below HTM.out (bu HB.out) | exact TabM.below HTM.out (bu HB.out) | (repeat (first | exact HTM.out | (with_reducible refine TabAt.drewN ?_ _) | (with_reducible refine TabAt.drew ?_) | (with_reducible refine TabAt.alloc ?_ _)))); rintro e w28 ⟨v261, rfl, ho0, hb⟩; refine ⟨_, rfl, ?_⟩; have n0_ := am (Kd.R_elder' (ru HO_4.out) (Kd.R_base ho0) hb); have n1_ := am (Kd.R_elder' (ru HO_6.out) (Kd.R_base ho0) hb); have n2_ := am (Kd.R_lower (Kd.R_new' (Kd.R_new' ho0 (Kd.R_lt (ru HO_4.out))) (Kd.R_lt (ru HO_6.out))) (below_size (bu HB.out))); have n3_ := am (below_step (bu HB.out) hb); clear HO_4; clear HO_6; clear HB; have HO_4 := n0_; have HO_6 := n1_; have HO262 := n2_; have HB := n3_; clear n0_ n1_ n2_ n3_; (try clear hb); (try clear hb2); (try clear hk); (try clear hi); (try clear ho0); obtain ⟨Ao29, co29, eo29⟩ := Kd.R_slice HO_4.out; subst eo29) | ((with_reducible refine gate_callee (f := 58) rfl ?_); refine goesL_ (some 53) rfl rfl Tryd.func58 (by kernel_rfl) rfl #[.slice Ao29 t249.length co29] rfl (by (try simp only [List.map_toArray, List.map_cons, List.map_nil]); first | done | rfl | (simp only [List.length_drop, List.length_take]; rfl)) ?_; (with_reducible refine (impl_MelodyValid.calls kj5 _ _ t249 true _ ?side1 ?side2 A24.out).mono ?_); (case side1 => exact cu (Kd.R_reads' HO_4.out).2.2); (case side2 => exact (Kd.R_reads' HO_4.out).2.1); rintro e w30 ⟨rfl, hb⟩; refine ⟨_, rfl, ?_⟩; have n0_ := am (Kd.R_below (ru HO_4.out) hb); have n1_ := am (Kd.R_below (ru HO_6.out) hb); have n2_ := am (Kd.R_below (ru HO262.out) hb); have n3_ := am (below_step (bu HB.out) hb); clear HO_4; clear HO_6; clear HO262; clear HB; have HO_4 := n0_; have HO_6 := n1_; have HO262 := n2_; have HB := n3_; clear n0_ n1_ n2_ n3_; (try clear hb); (try clear hb2); (try clear hk); (try clear hi)) | (go_at_call 51; (with_reducible refine (impl_MelodyText.calls kj5 _ _ t249 t264 _ ?side1 ?side2 ?side3 A26.out).mono ?_); (case side1 => exact cu (Kd.R_reads' HO_4.out).2.2); (case side2 => exact (Kd.R_reads' HO_4.out).2.1); (case side3 => first | exact HTL.out | exact TabAt.below HTL.out (bu HB.out)); rintro e w31 ⟨rfl, hb⟩; have n0_ := am (Kd.R_below (ru HO_4.out) hb); have n1_ := am (Kd.R_below (ru HO_6.out) hb); have n2_ := am (Kd.R_below (ru HO262.out) hb); have n3_ := am (below_step (bu HB.out) hb); clear HO_4; clear HO_6; clear HO262; clear HB; have HO_4 := n0_; have HO_6 := n1_; have HO262 := n2_; have HB := n3_; clear n0_ n1_ n2_ n3_; (try clear hb); (try clear hb2); (try clear hk); (try clear hi)))
        go_ret
        exact ⟨by first | rfl | (simp [errW_none, errW_some] <;> rfl) | (simp [*, errW_none, errW_some] <;> rfl), bu HB.out⟩
       ·rw [if_neg c27] at H
        have c27b0 : (t264.toList == t248.toList) = false := beq_eq_false_iff_ne.mpr c27
        have c27b1 : (t264.toList != t248.toList) = true := bne_iff_ne.mpr c27
        obtain rfl := Option.some.inj H
        go_wp2_with (first | ((with_reducible refine gate_callee (f := 54) rfl ?_); refine goesL_ (some 49) rfl rfl Tryd.func54 (by kernel_rfl) rfl #[.string (t248 ++ (⟨#[32]⟩ : ByteArray))] rfl (by (try simp only [List.map_toArray, List.map_cons, List.map_nil]); first | done | rfl | (simp only [List.length_drop, List.length_take]; rfl)) ?_; (with_reducible refine (impl_MelodyFrom.calls kj5 (t248 ++ (⟨#[32]⟩ : ByteArray)) t259 t260 _ ?side1 ?side2 A23.out).mono ?_); (case side1 => first | exact HTL.out | exact TabAt.below HTL.out (bu HB.out)); (case side2 => first | exact HTM.out | exact TabAt.below HTM.out (bu HB.out) | exact TabM.below HTM.out (bu HB.out) | (repeat (first | exact HTM.out | (with_reducible refine TabAt.drewN ?_ _) | (with_reducible refine TabAt.drew ?_) | (with_reducible refine TabAt.alloc ?_ _)))); rintro e w32 ⟨v261, rfl, ho0, hb⟩; refine ⟨_, rfl, ?_⟩; have n0_ := am (Kd.R_elder' (ru HO_4.out) (Kd.R_base ho0) hb); have n1_ := am (Kd.R_elder' (ru HO_6.out) (Kd.R_base ho0) hb); have n2_ := am (Kd.R_lower (Kd.R_new' (Kd.R_new' ho0 (Kd.R_lt (ru HO_4.out))) (Kd.R_lt (ru HO_6.out))) (below_size (bu HB.out))); have n3_ := am (below_step (bu HB.out) hb); clear HO_4; clear HO_6; clear HB; have HO_4 := n0_; have HO_6 := n1_; have HO262 := n2_; have HB := n3_; clear n0_ n1_ n2_ n3_; (try clear hb); (try clear hb2); (try clear hk); (try clear hi); (try clear ho0); obtain ⟨Ao33, co33, eo33⟩ := Kd.R_slice HO_4.out; subst eo33) | ((with_reducible refine gate_callee (f := 58) rfl ?_); refine goesL_ (some 53) rfl rfl Tryd.func58 (by kernel_rfl) rfl #[.slice Ao33 t249.length co33] rfl (by (try simp only [List.map_toArray, List.map_cons, List.map_nil]); first | done | rfl | (simp only [List.length_drop, List.length_take]; rfl)) ?_; (with_reducible refine (impl_MelodyValid.calls kj5 _ _ t249 true _ ?side1 ?side2 A24.out).mono ?_); (case side1 => exact cu (Kd.R_reads' HO_4.out).2.2); (case side2 => exact (Kd.R_reads' HO_4.out).2.1); rintro e w34 ⟨rfl, hb⟩; refine ⟨_, rfl, ?_⟩; have n0_ := am (Kd.R_below (ru HO_4.out) hb); have n1_ := am (Kd.R_below (ru HO_6.out) hb); have n2_ := am (Kd.R_below (ru HO262.out) hb); have n3_ := am (below_step (bu HB.out) hb); clear HO_4; clear HO_6; clear HO262; clear HB; have HO_4 := n0_; have HO_6 := n1_; have HO262 := n2_; have HB := n3_; clear n0_ n1_ n2_ n3_; (try clear hb); (try clear hb2); (try clear hk); (try clear hi)) | (go_at_call 51; (with_reducible refine (impl_MelodyText.calls kj5 _ _ t249 t264 _ ?side1 ?side2 ?side3 A26.out).mono ?_); (case side1 => exact cu (Kd.R_reads' HO_4.out).2.2); (case side2 => exact (Kd.R_reads' HO_4.out).2.1); (case side3 => first | exact HTL.out | exact TabAt.below HTL.out (bu HB.out)); rintro e w35 ⟨rfl, hb⟩; have n0_ := am (Kd.R_below (ru HO_4.out) hb); have n1_ := am (Kd.R_below (ru HO_6.out) hb); have n2_ := am (Kd.R_below (ru HO262.out) hb); have n3_ := am (below_step (bu HB.out) hb); clear HO_4; clear HO_6; clear HO262; clear HB; have HO_4 := n0_; have HO_6 := n1_; have HO262 := n2_; have HB := n3_; clear n0_ n1_ n2_ n3_; (try clear hb); (try clear hb2); (try clear hk); (try clear hi)))
        go_ret
        exact ⟨by first | rfl | (simp [errW_none, errW_some] <;> rfl) | (simp [*, errW_none, errW_some] <;> rfl), bu HB.out⟩
      ·replace c25 := Bool.eq_false_iff.mpr c25
       subst c25
       have H1 : (some false) = some r := by rw [if_neg (show ¬ (false = true) by decide)] at H; exact H
       clear H
       have H := H1
       clear H1
       obtain rfl := Option.some.inj H
       go_wp2_with (first | ((with_reducible refine gate_callee (f := 54) rfl ?_); refine goesL_ (some 49) rfl rfl Tryd.func54 (by kernel_rfl) rfl #[.string (t248 ++ (⟨#[32]⟩ : ByteArray))] rfl (by (try simp only [List.map_toArray, List.map_cons, List.map_nil]); first | done | rfl | (simp only [List.length_drop, List.length_take]; rfl)) ?_; (with_reducible refine (impl_MelodyFrom.calls kj5 (t248 ++ (⟨#[32]⟩ : ByteArray)) t259 t260 _ ?side1 ?side2 A23.out).mono ?_); (case side1 => first | exact HTL.out | exact TabAt.below HTL.out (bu HB.out)); (case side2 => first | exact HTM.out | exact TabAt.below HTM.out (bu HB.out) | exact TabM.below HTM.out (bu HB.out) | (repeat (first | exact HTM.out | (with_reducible refine TabAt.drewN ?_ _) | (with_reducible refine TabAt.drew ?_) | (with_reducible refine TabAt.alloc ?_ _)))); rintro e w36 ⟨v261, rfl, ho0, hb⟩; refine ⟨_, rfl, ?_⟩; have n0_ := am (Kd.R_elder' (ru HO_4.out) (Kd.R_base ho0) hb); have n1_ := am (Kd.R_elder' (ru HO_6.out) (Kd.R_base ho0) hb); have n2_ := am (Kd.R_lower (Kd.R_new' (Kd.R_new' ho0 (Kd.R_lt (ru HO_4.out))) (Kd.R_lt (ru HO_6.out))) (below_size (bu HB.out))); have n3_ := am (below_step (bu HB.out) hb); clear HO_4; clear HO_6; clear HB; have HO_4 := n0_; have HO_6 := n1_; have HO262 := n2_; have HB := n3_; clear n0_ n1_ n2_ n3_; (try clear hb); (try clear hb2); (try clear hk); (try clear hi); (try clear ho0); obtain ⟨Ao37, co37, eo37⟩ := Kd.R_slice HO_4.out; subst eo37) | ((with_reducible refine gate_callee (f := 58) rfl ?_); refine goesL_ (some 53) rfl rfl Tryd.func58 (by kernel_rfl) rfl #[.slice Ao37 t249.length co37] rfl (by (try simp only [List.map_toArray, List.map_cons, List.map_nil]); first | done | rfl | (simp only [List.length_drop, List.length_take]; rfl)) ?_; (with_reducible refine (impl_MelodyValid.calls kj5 _ _ t249 false _ ?side1 ?side2 A24.out).mono ?_); (case side1 => exact cu (Kd.R_reads' HO_4.out).2.2); (case side2 => exact (Kd.R_reads' HO_4.out).2.1); rintro e w38 ⟨rfl, hb⟩; refine ⟨_, rfl, ?_⟩; have n0_ := am (Kd.R_below (ru HO_4.out) hb); have n1_ := am (Kd.R_below (ru HO_6.out) hb); have n2_ := am (Kd.R_below (ru HO262.out) hb); have n3_ := am (below_step (bu HB.out) hb); clear HO_4; clear HO_6; clear HO262; clear HB; have HO_4 := n0_; have HO_6 := n1_; have HO262 := n2_; have HB := n3_; clear n0_ n1_ n2_ n3_; (try clear hb); (try clear hb2); (try clear hk); (try clear hi)))
       go_ret
       exact ⟨by first | rfl | (simp [errW_none, errW_some] <;> rfl) | (simp [*, errW_none, errW_some] <;> rfl), bu HB.out⟩
     ·rw [if_neg c22] at H
      exact absurd H (by simp)

end Go.Proofs.YtcndojoghmblaaaDoor.MR
