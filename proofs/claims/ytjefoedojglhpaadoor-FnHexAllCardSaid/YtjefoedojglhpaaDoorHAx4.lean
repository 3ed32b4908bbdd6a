-- Made by this session's gprint.py out of the translation. Not trusted: Lean checks it.
import Derived.Test.YtjefoedojglhpaaDoorHAx0
import Derived.Test.YtjefoedojglhpaaDoorHAx2
import Derived.Test.YtjefoedojglhpaaDoorHAx3
namespace Go.Proofs.YtjefoedojglhpaaDoor.HA
open Go.RowKit Go.Proofs.YtjefoedojglhpaaDoorW.PrintWords Go.Proofs.YtjefoedojglhpaaDoorW.PrintLast Go.Proofs.YtjefoedojglhpaaDoorW.PrintMore
attribute [local go_sem] max2_int min2_int max_two min_two max_three min_three max_four min_four   -- for this text's walks alone
set_option linter.unusedVariables false
set_option linter.unusedSimpArgs false

/-! ### spec_HexAll: function 32 -/
def spec_HexAll.l0 : Nat → List Int → Int → Int → Bool → Option (List Int)
 | 0, _, _, _, _ => none
 | k + 1, x3, x4, x147000, x147001 => if x4 ≤ 20 then ((spec_HexSyllable.f k x4 x147000 x147001).bind fun t150 => (if t150 ≥ 0 then (if x3.length < 17592186044416 then (spec_HexAll.l0 k (x3 ++ [x4]) (wrap64 (x4 + 1)) x147000 x147001) else (none)) else (spec_HexAll.l0 k x3 (wrap64 (x4 + 1)) x147000 x147001))) else (some x3)
def spec_HexAll.f (k : Nat) (a0_0 : Int) (a0_1 : Bool) : Option (List Int) := spec_HexAll.l0 k (([] : List Int)) 0 a0_0 a0_1
set_option maxHeartbeats 8000000 in
set_option maxRecDepth 100000 in
theorem spec_HexAll.calls (k : Nat) (a0_0 : Int) (a0_1 : Bool) (r : List Int) (w : World) (h : spec_HexAll.f k a0_0 a0_1 = some r) :
  Calls Tryd.prog 32 #[.agg #[.int .i64 a0_0, .bool a0_1]] w fun e w' => ∃ v0_ : Value, e = .returned (v0_) ∧ Kd.R (Kd.int .i64) 3 w' w.heap.size (fun _ => True) v0_ r ∧ Below w.heap.size w w' := by
 have hu25 := Tryd.underlying25
 have HB := am (Below.refl w.heap.size w)
 have H : (spec_HexAll.l0 k (([] : List Int)) 0 a0_0 a0_1) = some r := h
 clear h
 obtain ⟨y147, hy147⟩ : ∃ y_ : List Int, y_ = (([] : List Int)) := ⟨_, rfl⟩
 replace H : (spec_HexAll.l0 k y147 0 a0_0 a0_1) = some r := by first | (rw [hy147]; with_reducible exact H) | (have H2_ := (Option.bind_some _ _).symm.trans H; rw [hy147]; with_reducible exact H2_) | (have H2_ := (Option.bind_some _ _).symm.trans H; with_reducible exact H2_) | with_reducible exact H | (rw [hy147]; exact H) | exact H
 have Ny147 := am hy147
 clear hy147
 have H' := am H
 clear H
 go_enter Tryd.func32, Tryd.ntmps32
 go_wp2_with (first | ((with_reducible refine gate_dst (N := 1) rfl ?_); refine box_event ?hg (N := 1) ?hd (cs := #[.int .i64 a0_0, .bool a0_1]) (t := 25) ?hr ?_; (case hd => rfl); (case hg => rfl); (case hr => first | (go_simp; done) | (go_simp; rfl)); intro gb146 hg w2 hbox hb; have n0_ := am (below_step (bu HB.out) hb); have n1_ := am (hbox); have n2_ := am ((by rw [hg]; exact (below_size (bu HB.out)) : w.heap.size ≤ gb146)); have n3_ := am ((by rw [hg]; exact (below_size (bu HB.out)) : w.heap.size ≤ gb146)); clear HB; have HB := n0_; have BK146 := n1_; have GW146 := n2_; have GE146 := n3_; clear n0_ n1_ n2_ n3_; clear hb hbox hg) | ((with_reducible refine gate_dst (N := 5) rfl ?_); refine Kd.R_lit (Kd.int .i64) _ 3 ?hg (N := 5) ?hd (xs := ([] : List Int)) (inner := []) (ok := fun _ => True) (okp := fun _ => True) ?hr ?hp (fun _ hk => hk) trivial (Below.refl _ _) (Nat.le_refl _) (by simp) ?_; (case hd => rfl); (case hg => rfl); (case hr => first | (go_simp; done) | (go_simp; rfl)); (case hp => exact (Reps.none _ _)); intro v148 w3 ho4 hb hg_ hnew_; clear hg_ hnew_; (first | rw [← Ny147.out] at ho4 | (simp only [Int.reduceToNat] at ho4; rw [← Ny147.out] at ho4)); have n0_ := am (Kd.R_lower ho4 (below_size (bu HB.out))); have n1_ := am (blk_below (g := gb146) (o := .cells #[.int .i64 a0_0, .bool a0_1] 25 (0, 0)) (gu BK146.out) hb); have n2_ := am (below_step (bu HB.out) hb); clear BK146; clear HB; have HO149 := n0_; have BK146 := n1_; have HB := n2_; clear n0_ n1_ n2_; clear hb ho4))
 go_loopg [3, 4] k (fun kq v3 v4 w' => ∃ (x3_1 : List Int) (x4_1 : Int), v4 = .int .i64 x4_1 ∧ Aside0 (spec_HexAll.l0 kq x3_1 x4_1 a0_0 a0_1 = some r) ∧ Aside0 (kq ≤ k) ∧ Aside0 (Kd.R (Kd.int .i64) 3 w' w.heap.size (fun _ => True) v3 x3_1) ∧ Aside0 (w'.heap[gb146]? = some (.cells #[.int .i64 a0_0, .bool a0_1] 25 (0, 0))) ∧ Aside0 (Below w.heap.size w w'))
 case atStart => exact ⟨(y147), (0), (by first | rfl | (simp; done) | (simp [*]; done)), H', ⟨Nat.le_refl _⟩, ⟨ru HO149.out⟩, ⟨gu BK146.out⟩, ⟨bu HB.out⟩⟩
 case round =>
  clear H'
  try clear p2
  try clear c3
  obtain ⟨x3_1, x4_1, rfl, HA, HK1, HO_3, BK146, HB⟩ := hrel
  cases gk with
  | zero => exact absurd HA.out (by simp [spec_HexAll.l0])
  | succ k1 =>
   have H := HA.out
   clear HA
   simp only [spec_HexAll.l0] at H
   by_cases c5 : x4_1 ≤ 20
   ·rw [if_pos c5] at H
    have c5b0 : decide (x4_1 ≤ 20) = true := decide_eq_true c5
    clear c5
    replace H := Option.bind_eq_some_iff.mp H
    obtain ⟨t150, A60, H⟩ := H
    replace H : (if t150 ≥ 0 then (if x3_1.length < 17592186044416 then (spec_HexAll.l0 k1 (x3_1 ++ [x4_1]) (wrap64 (x4_1 + 1)) a0_0 a0_1) else (none)) else (spec_HexAll.l0 k1 x3_1 (wrap64 (x4_1 + 1)) a0_0 a0_1)) = some r := H
    have A6 := am A60
    clear A60
    by_cases c7 : t150 ≥ 0
    ·rw [if_pos c7] at H
     have c7b0 : decide (0 ≤ t150) = true := decide_eq_true c7
     clear c7
     by_cases c8 : x3_1.length < 17592186044416
     ·rw [if_pos c8] at H
      have LMc8 := am c8
      clear c8
      obtain ⟨y151, hy151⟩ : ∃ y_ : List Int, y_ = (x3_1 ++ [x4_1]) := ⟨_, rfl⟩
      replace H : (spec_HexAll.l0 k1 y151 (wrap64 (x4_1 + 1)) a0_0 a0_1) = some r := by first | (rw [hy151]; with_reducible exact H) | (have H2_ := (Option.bind_some _ _).symm.trans H; rw [hy151]; with_reducible exact H2_) | (have H2_ := (Option.bind_some _ _).symm.trans H; with_reducible exact H2_) | with_reducible exact H | (rw [hy151]; exact H) | exact H
      have Ny151 := am hy151
      clear hy151
      have H' := am H
      clear H
      have hcz9_0 : wr.cell? ⟨gb146, 0, none⟩ = some (.int .i64 a0_0) := (blk_cell BK146.out 0).trans rfl
      have hcz9_1 : wr.cell? ⟨gb146, 1, none⟩ = some (.bool a0_1) := (blk_cell BK146.out 1).trans rfl
      have hfz9_0 := blk_frozen BK146.out 0
      have hfz9_1 := blk_frozen BK146.out 1
      go_wp2_with (first | ((with_reducible refine gate_callee (f := 22) rfl ?_); refine goesL_ (some 12) rfl rfl Tryd.func22 (by kernel_rfl) rfl #[.int .i64 x4_1, .agg #[.int .i64 a0_0, .bool a0_1]] rfl (by (try simp only [List.map_toArray, List.map_cons, List.map_nil]); first | done | rfl | (simp only [List.length_drop, List.length_take]; rfl)) ?_; (with_reducible refine (spec_HexSyllable.calls k1 x4_1 a0_0 a0_1 t150 _ A6.out).mono ?_); rintro e w10 ⟨rfl, hb⟩; refine ⟨_, rfl, ?_⟩; have n0_ := am (Kd.R_below (ru HO_3.out) hb); have n1_ := am (blk_below (g := gb146) (o := .cells #[.int .i64 a0_0, .bool a0_1] 25 (0, 0)) (gu BK146.out) hb); have n2_ := am (below_step (bu HB.out) hb); clear HO_3; clear BK146; clear HB; have HO_3 := n0_; have BK146 := n1_; have HB := n2_; clear n0_ n1_ n2_; (try clear hb); (try clear hb2); (try clear hk); (try clear hi)) | ((with_reducible refine gate_builtin (b := .append) (xs := #[.tmp 14, .tmp 16]) rfl ?_); at_builtin; refine Kd.R_append (Kd.int .i64) (w0 := w) w.heap.size rfl (.tmp 14) (.tmp 16) 46 3 (.int .i64 0) 8 rfl Tryd.underlying46 info3 rfl (by decide) (by omega) u3 x3_1 x4_1 [.int .i64 x4_1] (fun _ => True) (fun _ => False) rfl rfl ?aP (fun _ hk => hk.elim) ?aF ?aO ?aB ?aS ?aL ?_; (case aP => exact rfl); (case aB => exact (bu HB.out)); (case aF => exact (fun _ _ => trivial)); (case aO => exact (ru HO_3.out)); (case aS => exact (below_size (bu HB.out))); (case aL => have := LMc8.out; omega); intro v152 w11 ho hb hg hat; rw [← Ny151.out] at ho; have n0_ := am (blk_grown (g := gb146) (o := .cells #[.int .i64 a0_0, .bool a0_1] 25 (0, 0)) (gu BK146.out) hg (Kd.R_ne HO_3.out BK146.out (by decide))); have n1_ := am (hb); have n2_ := am (ho); clear BK146; clear HB; clear HO_3; have BK146 := n0_; have HB := n1_; have HO153 := n2_; clear n0_ n1_ n2_; clear ho hb hg hat))
      go_roundg k1
      case measure => have := HK1.out; omega
      case rel => exact ⟨(y151), (wrap64 (x4_1 + 1)), (by first | rfl | (simp; done) | (simp [*]; done)), H', ⟨by have := HK1.out; omega⟩, ⟨ru HO153.out⟩, ⟨gu BK146.out⟩, ⟨bu HB.out⟩⟩
     ·rw [if_neg c8] at H
      exact absurd H (by simp)
    ·rw [if_neg c7] at H
     have c7b0 : decide (0 ≤ t150) = false := decide_eq_false c7
     clear c7
     have H' := am H
     clear H
     have hcz12_0 : wr.cell? ⟨gb146, 0, none⟩ = some (.int .i64 a0_0) := (blk_cell BK146.out 0).trans rfl
     have hcz12_1 : wr.cell? ⟨gb146, 1, none⟩ = some (.bool a0_1) := (blk_cell BK146.out 1).trans rfl
     have hfz12_0 := blk_frozen BK146.out 0
     have hfz12_1 := blk_frozen BK146.out 1
     go_wp2_with (first | ((with_reducible refine gate_callee (f := 22) rfl ?_); refine goesL_ (some 12) rfl rfl Tryd.func22 (by kernel_rfl) rfl #[.int .i64 x4_1, .agg #[.int .i64 a0_0, .bool a0_1]] rfl (by (try simp only [List.map_toArray, List.map_cons, List.map_nil]); first | done | rfl | (simp only [List.length_drop, List.length_take]; rfl)) ?_; (with_reducible refine (spec_HexSyllable.calls k1 x4_1 a0_0 a0_1 t150 _ A6.out).mono ?_); rintro e w13 ⟨rfl, hb⟩; refine ⟨_, rfl, ?_⟩; have n0_ := am (Kd.R_below (ru HO_3.out) hb); have n1_ := am (blk_below (g := gb146) (o := .cells #[.int .i64 a0_0, .bool a0_1] 25 (0, 0)) (gu BK146.out) hb); have n2_ := am (below_step (bu HB.out) hb); clear HO_3; clear BK146; clear HB; have HO_3 := n0_; have BK146 := n1_; have HB := n2_; clear n0_ n1_ n2_; (try clear hb); (try clear hb2); (try clear hk); (try clear hi)))
     go_roundg k1
     case measure => have := HK1.out; omega
     case rel => exact ⟨(x3_1), (wrap64 (x4_1 + 1)), (by first | rfl | (simp; done) | (simp [*]; done)), H', ⟨by have := HK1.out; omega⟩, ⟨ru HO_3.out⟩, ⟨gu BK146.out⟩, ⟨bu HB.out⟩⟩
   ·rw [if_neg c5] at H
    have c5b0 : decide (x4_1 ≤ 20) = false := decide_eq_false c5
    clear c5
    obtain rfl := Option.some.inj H
    go_wp2
    go_ret
    exact ⟨_, by first | rfl | (simp [errW_none, errW_some] <;> rfl) | (simp [*, errW_none, errW_some] <;> rfl), ru HO_3.out, bu HB.out⟩

/-! ### laws_sameInts: function 33 -/
def laws_sameInts.l0 : Nat → List Int → List Int → Int → Option (Bool)
 | 0, _, _, _ => none
 | k + 1, x0, x1, x5 => if x5 < (x0.length : Int) then (if 0 ≤ x5 then (if x5 < (x1.length : Int) then (if (rd x0 x5) = (rd x1 x5) then (laws_sameInts.l0 k x0 x1 (wrap64 (x5 + 1))) else (some false)) else (none)) else (none)) else (some true)
def laws_sameInts.f (k : Nat) (l0 : List Int) (l1 : List Int) : Option (Bool) := if (l0.length : Int) = (l1.length : Int) then (laws_sameInts.l0 k l0 l1 0) else (some false)
set_option maxHeartbeats 8000000 in
set_option maxRecDepth 100000 in
theorem laws_sameInts.calls (k : Nat) (A0 : Option Addr) (c0 : Nat) (l0 : List Int) (A1 : Option Addr) (c1 : Nat) (l1 : List Int) (r : Bool) (w : World) (hr0 : Kd.C (Kd.int .i64) w A0 l0.length l0) (hc0 : l0.length ≤ c0) (hr1 : Kd.C (Kd.int .i64) w A1 l1.length l1) (hc1 : l1.length ≤ c1) (h : laws_sameInts.f k l0 l1 = some r) :
  Calls Tryd.prog 33 #[.slice A0 l0.length c0, .slice A1 l1.length c1] w fun e w' => e = .returned (.bool r) ∧ Drawn0 w w' := by
 have HR0 := am hr0
 have HC0 := am hc0
 clear hr0 hc0
 have HR1 := am hr1
 have HC1 := am hc1
 clear hr1 hc1
 have H : (if (l0.length : Int) = (l1.length : Int) then (laws_sameInts.l0 k l0 l1 0) else (some false)) = some r := h
 clear h
 by_cases c3 : (l0.length : Int) = (l1.length : Int)
 ·rw [if_pos c3] at H
  have c3b0 : ((l0.length : Int) == (l1.length : Int)) = true := beq_iff_eq.mpr c3
  have c3b1 : ((l0.length : Int) != (l1.length : Int)) = false := bne_eq_false_iff_eq.mpr c3
  have c3b2 : (l0.length == l1.length) = true := by first | simpa using c3 | (simp at c3 ⊢; omega)
  clear c3
  have H' := am H
  clear H
  go_enter Tryd.func33, Tryd.ntmps33
  go_wp2
  repeat (go_quiet (fail); try go_wp2)
  go_loopg [5] k (fun kq v5 w' => ∃ (x5_1 : Int), v5 = .int .i64 x5_1 ∧ Aside0 (laws_sameInts.l0 kq l0 l1 x5_1 = some r) ∧ Aside0 (kq ≤ k) ∧ Drawn0 w w')
  case atStart => exact ⟨(0), (by first | rfl | (simp; done) | (simp [*]; done)), H', ⟨Nat.le_refl _⟩, by repeat (first | exact Drawn0.refl _ | apply Drawn0.step)⟩
  case round =>
   clear H'
   try clear c1
   try clear p2
   try clear c3
   try clear c3b0
   try clear c3b1
   try clear c3b2
   obtain ⟨x5_1, rfl, HA, HK1, ⟨m1, rfl⟩⟩ := hrel
   cases gk with
   | zero => exact absurd HA.out (by simp [laws_sameInts.l0])
   | succ k1 =>
    have H := HA.out
    clear HA
    simp only [laws_sameInts.l0] at H
    by_cases c4 : x5_1 < (l0.length : Int)
    ·rw [if_pos c4] at H
     have c4b0 : decide (x5_1 < (l0.length : Int)) = true := decide_eq_true c4
     clear c4
     by_cases c5 : 0 ≤ x5_1
     ·rw [if_pos c5] at H
      have c5b0 : decide (0 ≤ x5_1) = true := decide_eq_true c5
      clear c5
      by_cases c6 : x5_1 < (l1.length : Int)
      ·rw [if_pos c6] at H
       have c6b0 : decide (x5_1 < (l1.length : Int)) = true := decide_eq_true c6
       clear c6
       by_cases c7 : (rd l0 x5_1) = (rd l1 x5_1)
       ·rw [if_pos c7] at H
        have c7b0 : ((rd l0 x5_1) == (rd l1 x5_1)) = true := beq_iff_eq.mpr c7
        have c7b1 : ((rd l0 x5_1) != (rd l1 x5_1)) = false := bne_eq_false_iff_eq.mpr c7
        clear c7
        have H' := am H
        clear H
        have p154 : 0 ≤ (x5_1 : Int) := od
        have q154 : x5_1 < (l0.length : Int) := od
        obtain ⟨ad154, e154, hx154_0⟩ := Kd.at_int HR0.out x5_1 p154 q154
        cases e154
        replace p154 := eq_true p154
        replace q154 := eq_true q154
        have p155 : 0 ≤ (x5_1 : Int) := od
        have q155 : x5_1 < (l1.length : Int) := od
        obtain ⟨ad155, e155, hx155_0⟩ := Kd.at_int HR1.out x5_1 p155 q155
        cases e155
        replace p155 := eq_true p155
        replace q155 := eq_true q155
        go_wp2
        repeat (go_quiet (fail); try go_wp2)
        go_roundg k1
        case measure => have := HK1.out; omega
        case rel => exact ⟨(wrap64 (x5_1 + 1)), (by first | rfl | (simp; done) | (simp [*]; done)), H', ⟨by have := HK1.out; omega⟩, by repeat (first | exact Drawn0.refl _ | apply Drawn0.step)⟩
       ·rw [if_neg c7] at H
        have c7b0 : ((rd l0 x5_1) == (rd l1 x5_1)) = false := beq_eq_false_iff_ne.mpr c7
        have c7b1 : ((rd l0 x5_1) != (rd l1 x5_1)) = true := bne_iff_ne.mpr c7
        obtain rfl := Option.some.inj H
        have p154 : 0 ≤ (x5_1 : Int) := od
        have q154 : x5_1 < (l0.length : Int) := od
        obtain ⟨ad154, e154, hx154_0⟩ := Kd.at_int HR0.out x5_1 p154 q154
        cases e154
        replace p154 := eq_true p154
        replace q154 := eq_true q154
        have p155 : 0 ≤ (x5_1 : Int) := od
        have q155 : x5_1 < (l1.length : Int) := od
        obtain ⟨ad155, e155, hx155_0⟩ := Kd.at_int HR1.out x5_1 p155 q155
        cases e155
        replace p155 := eq_true p155
        replace q155 := eq_true q155
        go_wp2
        repeat (go_quiet (fail); try go_wp2)
        go_ret
        exact ⟨by first | rfl | (simp; done) | (simp [*]; done), by repeat (first | exact Drawn0.refl _ | apply Drawn0.step)⟩
      ·rw [if_neg c6] at H
       exact absurd H (by simp)
     ·rw [if_neg c5] at H
      exact absurd H (by simp)
    ·rw [if_neg c4] at H
     have c4b0 : decide (x5_1 < (l0.length : Int)) = false := decide_eq_false c4
     clear c4
     obtain rfl := Option.some.inj H
     go_wp2
     repeat (go_quiet (fail); try go_wp2)
     go_ret
     exact ⟨by first | rfl | (simp; done) | (simp [*]; done), by repeat (first | exact Drawn0.refl _ | apply Drawn0.step)⟩
 ·rw [if_neg c3] at H
  have c3b0 : ((l0.length : Int) == (l1.length : Int)) = false := beq_eq_false_iff_ne.mpr c3
  have c3b1 : ((l0.length : Int) != (l1.length : Int)) = true := bne_iff_ne.mpr c3
  have c3b2 : (l0.length == l1.length) = false := by first | simpa using c3 | (simp at c3 ⊢; omega)
  obtain rfl := Option.some.inj H
  go_enter Tryd.func33, Tryd.ntmps33
  go_wp2
  repeat (go_quiet (fail); try go_wp2)
  go_ret
  exact ⟨by first | rfl | (simp; done) | (simp [*]; done), by repeat (first | exact Drawn0.refl _ | apply Drawn0.step)⟩

def letStr (r : Nat) : ByteArray := if r = 0 then ⟨#[71]⟩ else if r = 1 then ⟨#[65]⟩ else if r = 2 then ⟨#[66]⟩ else if r = 3 then ⟨#[67]⟩ else if r = 4 then ⟨#[68]⟩ else if r = 5 then ⟨#[69]⟩ else ⟨#[70]⟩
def impl_Tone_letter.f (a0 : Int) (b0 : Bool) : Option ByteArray := if 0 ≤ a0 then some (letStr (a0 % 7).toNat) else none
set_option maxHeartbeats 1000000 in
set_option maxRecDepth 100000 in
theorem impl_Tone_letter.calls (a0 : Int) (b0 : Bool) (r : ByteArray) (w : World) (hTL : TabL w) (h : impl_Tone_letter.f a0 b0 = some r) :
  Calls Tryd.prog 62 #[.agg #[.int .i64 a0, .bool b0]] w fun e w' => e = .returned (.string r) ∧ Below w.heap.size w w' := by
 have hu2 := Tryd.underlying25
 have hT := hTL.alloc (.cells #[.int .i64 a0, .bool b0] 25)
 have HB0 := am (below_alloc (Below.refl w.heap.size w) (.cells #[.int .i64 a0, .bool b0] 25))
 unfold impl_Tone_letter.f at h
 by_cases h0 : 0 ≤ a0
 ·rw [if_pos h0] at h
  have e1 := Option.some.inj h
  subst e1
  have hx : a0 % 7 = 0 ∨ a0 % 7 = 1 ∨ a0 % 7 = 2 ∨ a0 % 7 = 3 ∨ a0 % 7 = 4 ∨ a0 % 7 = 5 ∨ a0 % 7 = 6 := by omega
  have c0 : (w.alloc (.cells #[.int .i64 a0, .bool b0] 25)).cell? ⟨1, 0, none⟩ = some (.string ⟨#[71]⟩) := hT 0 _ rfl
  have c1 : (w.alloc (.cells #[.int .i64 a0, .bool b0] 25)).cell? ⟨1, 1, none⟩ = some (.string ⟨#[65]⟩) := hT 1 _ rfl
  have c2 : (w.alloc (.cells #[.int .i64 a0, .bool b0] 25)).cell? ⟨1, 2, none⟩ = some (.string ⟨#[66]⟩) := hT 2 _ rfl
  have c3 : (w.alloc (.cells #[.int .i64 a0, .bool b0] 25)).cell? ⟨1, 3, none⟩ = some (.string ⟨#[67]⟩) := hT 3 _ rfl
  have c4 : (w.alloc (.cells #[.int .i64 a0, .bool b0] 25)).cell? ⟨1, 4, none⟩ = some (.string ⟨#[68]⟩) := hT 4 _ rfl
  have c5 : (w.alloc (.cells #[.int .i64 a0, .bool b0] 25)).cell? ⟨1, 5, none⟩ = some (.string ⟨#[69]⟩) := hT 5 _ rfl
  have c6 : (w.alloc (.cells #[.int .i64 a0, .bool b0] 25)).cell? ⟨1, 6, none⟩ = some (.string ⟨#[70]⟩) := hT 6 _ rfl
  clear hT hTL h
  have k0 : (w.alloc (.cells #[.int .i64 a0, .bool b0] 25)).cell? ⟨w.heap.size, 0, none⟩ = some (.int .i64 a0) := blk_cell (blk_new w _) 0
  have htm : a0.tmod 7 = a0 % 7 := Int.tmod_eq_emod_of_nonneg h0
  rcases hx with hx | hx | hx | hx | hx | hx | hx
  all_goals
   rw [hx]
   go_enter Tryd.func62, Tryd.ntmps62
   rw [hx] at htm
   go_wp2
   go_ret
   exact ⟨rfl, HB0.out⟩
 ·rw [if_neg h0] at h
  exact absurd h (by simp)


/-! ### impl_ToneLetter: function 34 -/
def impl_ToneLetter.f (a0_0 : Int) (a0_1 : Bool) : Option (ByteArray) := (impl_Tone_valid.f a0_0 a0_1).bind fun t157 => (if t157 = true then ((impl_Tone_letter.f a0_0 a0_1).bind fun t158 => (some t158)) else (some (⟨#[]⟩ : ByteArray)))
set_option maxHeartbeats 8000000 in
set_option maxRecDepth 100000 in
theorem impl_ToneLetter.calls (a0_0 : Int) (a0_1 : Bool) (r : ByteArray) (w : World) (hTL : TabL w) (h : impl_ToneLetter.f a0_0 a0_1 = some r) :
  Calls Tryd.prog 34 #[.agg #[.int .i64 a0_0, .bool a0_1]] w fun e w' => e = .returned (.string r) ∧ Below w.heap.size w w' := by
 have hu25 := Tryd.underlying25
 have HTL := am hTL
 clear hTL
 have HB := am (Below.refl w.heap.size w)
 have H : ((impl_Tone_valid.f a0_0 a0_1).bind fun t157 => (if t157 = true then ((impl_Tone_letter.f a0_0 a0_1).bind fun t158 => (some t158)) else (some (⟨#[]⟩ : ByteArray)))) = some r := h
 clear h
 replace H := Option.bind_eq_some_iff.mp H
 obtain ⟨t157, A20, H⟩ := H
 replace H : (if t157 = true then ((impl_Tone_letter.f a0_0 a0_1).bind fun t158 => (some t158)) else (some (⟨#[]⟩ : ByteArray))) = some r := H
 have A2 := am A20
 clear A20
 by_cases c3 : t157 = true
 ·subst c3
  have H1 : ((impl_Tone_letter.f a0_0 a0_1).bind fun t158 => (some t158)) = some r := by rw [if_pos rfl] at H; exact H
  clear H
  have H := H1
  clear H1
  replace H := Option.bind_eq_some_iff.mp H
  obtain ⟨t158, A40, H⟩ := H
  replace H : (some t158) = some r := H
  have A4 := am A40
  clear A40
  obtain rfl := Option.some.inj H
  go_enter Tryd.func34, Tryd.ntmps34
  go_wp2_with (first | ((with_reducible refine gate_dst (N := 1) rfl ?_); refine box_event ?hg (N := 1) ?hd (cs := #[.int .i64 a0_0, .bool a0_1]) (t := 25) ?hr ?_; (case hd => rfl); (case hg => rfl); (case hr => first | (go_simp; done) | (go_simp; rfl)); intro gb156 hg w5 hbox hb; have n0_ := am (below_step (bu HB.out) hb); have n1_ := am (hbox); have n2_ := am ((by rw [hg]; exact (below_size (bu HB.out)) : w.heap.size ≤ gb156)); have n3_ := am ((by rw [hg]; exact (below_size (bu HB.out)) : w.heap.size ≤ gb156)); clear HB; have HB := n0_; have BK156 := n1_; have GW156 := n2_; have GE156 := n3_; clear n0_ n1_ n2_ n3_; clear hb hbox hg; have hcz6_0 : w5.cell? ⟨gb156, 0, none⟩ = some (.int .i64 a0_0) := (blk_cell BK156.out 0).trans rfl; have hcz6_1 : w5.cell? ⟨gb156, 1, none⟩ = some (.bool a0_1) := (blk_cell BK156.out 1).trans rfl; have hfz6_0 := blk_frozen BK156.out 0; have hfz6_1 := blk_frozen BK156.out 1) | ((with_reducible refine gate_callee (f := 55) rfl ?_); refine goesL_ (some 4) rfl rfl Tryd.func55 (by kernel_rfl) rfl #[.agg #[.int .i64 a0_0, .bool a0_1]] rfl (by (try simp only [List.map_toArray, List.map_cons, List.map_nil]); first | done | rfl | (simp only [List.length_drop, List.length_take]; rfl)) ?_; (with_reducible refine (impl_Tone_valid.calls a0_0 a0_1 true _ A2.out).mono ?_); rintro e w7 ⟨rfl, hb⟩; refine ⟨_, rfl, ?_⟩; have n0_ := am (blk_below (g := gb156) (o := .cells #[.int .i64 a0_0, .bool a0_1] 25 (0, 0)) (gu BK156.out) hb); have n1_ := am (below_step (bu HB.out) hb); clear BK156; clear HB; have BK156 := n0_; have HB := n1_; clear n0_ n1_; (try clear hb); (try clear hb2); (try clear hk); (try clear hi); have hcz8_0 : w7.cell? ⟨gb156, 0, none⟩ = some (.int .i64 a0_0) := (blk_cell BK156.out 0).trans rfl; have hcz8_1 : w7.cell? ⟨gb156, 1, none⟩ = some (.bool a0_1) := (blk_cell BK156.out 1).trans rfl; have hfz8_0 := blk_frozen BK156.out 0; have hfz8_1 := blk_frozen BK156.out 1) | ((with_reducible refine gate_callee (f := 62) rfl ?_); refine goesL_ (some 7) rfl rfl Tryd.func62 (by kernel_rfl) rfl #[.agg #[.int .i64 a0_0, .bool a0_1]] rfl (by (try simp only [List.map_toArray, List.map_cons, List.map_nil]); first | done | rfl | (simp only [List.length_drop, List.length_take]; rfl)) ?_; (with_reducible refine (impl_Tone_letter.calls a0_0 a0_1 t158 _ ?side1 A4.out).mono ?_); (case side1 => first | exact HTL.out | exact TabAt.below HTL.out (bu HB.out)); rintro e w9 ⟨rfl, hb⟩; refine ⟨_, rfl, ?_⟩; have n0_ := am (blk_below (g := gb156) (o := .cells #[.int .i64 a0_0, .bool a0_1] 25 (0, 0)) (gu BK156.out) hb); have n1_ := am (below_step (bu HB.out) hb); clear BK156; clear HB; have BK156 := n0_; have HB := n1_; clear n0_ n1_; (try clear hb); (try clear hb2); (try clear hk); (try clear hi)))
  go_ret
  exact ⟨by first | rfl | (simp [errW_none, errW_some] <;> rfl) | (simp [*, errW_none, errW_some] <;> rfl), bu HB.out⟩
 ·replace c3 := Bool.eq_false_iff.mpr c3
  subst c3
  have H1 : (some (⟨#[]⟩ : ByteArray)) = some r := by rw [if_neg (show ¬ (false = true) by decide)] at H; exact H
  clear H
  have H := H1
  clear H1
  obtain rfl := Option.some.inj H
  go_enter Tryd.func34, Tryd.ntmps34
  go_wp2_with (first | ((with_reducible refine gate_dst (N := 1) rfl ?_); refine box_event ?hg (N := 1) ?hd (cs := #[.int .i64 a0_0, .bool a0_1]) (t := 25) ?hr ?_; (case hd => rfl); (case hg => rfl); (case hr => first | (go_simp; done) | (go_simp; rfl)); intro gb156 hg w10 hbox hb; have n0_ := am (below_step (bu HB.out) hb); have n1_ := am (hbox); have n2_ := am ((by rw [hg]; exact (below_size (bu HB.out)) : w.heap.size ≤ gb156)); have n3_ := am ((by rw [hg]; exact (below_size (bu HB.out)) : w.heap.size ≤ gb156)); clear HB; have HB := n0_; have BK156 := n1_; have GW156 := n2_; have GE156 := n3_; clear n0_ n1_ n2_ n3_; clear hb hbox hg; have hcz11_0 : w10.cell? ⟨gb156, 0, none⟩ = some (.int .i64 a0_0) := (blk_cell BK156.out 0).trans rfl; have hcz11_1 : w10.cell? ⟨gb156, 1, none⟩ = some (.bool a0_1) := (blk_cell BK156.out 1).trans rfl; have hfz11_0 := blk_frozen BK156.out 0; have hfz11_1 := blk_frozen BK156.out 1) | ((with_reducible refine gate_callee (f := 55) rfl ?_); refine goesL_ (some 4) rfl rfl Tryd.func55 (by kernel_rfl) rfl #[.agg #[.int .i64 a0_0, .bool a0_1]] rfl (by (try simp only [List.map_toArray, List.map_cons, List.map_nil]); first | done | rfl | (simp only [List.length_drop, List.length_take]; rfl)) ?_; (with_reducible refine (impl_Tone_valid.calls a0_0 a0_1 false _ A2.out).mono ?_); rintro e w12 ⟨rfl, hb⟩; refine ⟨_, rfl, ?_⟩; have n0_ := am (blk_below (g := gb156) (o := .cells #[.int .i64 a0_0, .bool a0_1] 25 (0, 0)) (gu BK156.out) hb); have n1_ := am (below_step (bu HB.out) hb); clear BK156; clear HB; have BK156 := n0_; have HB := n1_; clear n0_ n1_; (try clear hb); (try clear hb2); (try clear hk); (try clear hi)))
  go_ret
  exact ⟨by first | rfl | (simp [errW_none, errW_some] <;> rfl) | (simp [*, errW_none, errW_some] <;> rfl), bu HB.out⟩

/-! ### laws_names: function 35 -/
def laws_names.l0 : Nat → ByteArray → Int → Int → Option (Int)
 | 0, _, _, _ => none
 | k + 1, x0, x3, x4 => if x4 < (x0.size : Int) then (if 0 ≤ x4 then (if (bt x0 x4) = 32 then (laws_names.l0 k x0 (wrap64 (x3 + 1)) (wrap64 (x4 + 1))) else (laws_names.l0 k x0 x3 (wrap64 (x4 + 1)))) else (none)) else (some x3)
def laws_names.f (k : Nat) (a0 : ByteArray) : Option (Int) := if a0.toList = ([] : List UInt8) then (some 0) else (laws_names.l0 k a0 1 0)
set_option maxHeartbeats 8000000 in
set_option maxRecDepth 100000 in
theorem laws_names.calls (k : Nat) (a0 : ByteArray) (r : Int) (w : World) (h : laws_names.f k a0 = some r) :
  Calls Tryd.prog 35 #[.string a0] w fun e w' => e = .returned (.int .i64 r) ∧ Drawn0 w w' := by
 have H : (if a0.toList = ([] : List UInt8) then (some 0) else (laws_names.l0 k a0 1 0)) = some r := h
 clear h
 by_cases c2 : a0.toList = ([] : List UInt8)
 ·rw [if_pos c2] at H
  have c2b0 : (a0.toList == ([] : List UInt8)) = true := beq_iff_eq.mpr c2
  have c2b1 : (a0.toList != ([] : List UInt8)) = false := bne_eq_false_iff_eq.mpr c2
  clear c2
  obtain rfl := Option.some.inj H
  go_enter Tryd.func35, Tryd.ntmps35
  go_wp2
  go_ret
  exact ⟨by first | rfl | (simp; done) | (simp [*]; done), by repeat (first | exact Drawn0.refl _ | apply Drawn0.step)⟩
 ·rw [if_neg c2] at H
  have c2b0 : (a0.toList == ([] : List UInt8)) = false := beq_eq_false_iff_ne.mpr c2
  have c2b1 : (a0.toList != ([] : List UInt8)) = true := bne_iff_ne.mpr c2
  have H' := am H
  clear H
  go_enter Tryd.func35, Tryd.ntmps35
  go_wp2
  go_loopg [3, 4] k (fun kq v3 v4 w' => ∃ (x3_1 : Int) (x4_1 : Int), v3 = .int .i64 x3_1 ∧ v4 = .int .i64 x4_1 ∧ Aside0 (laws_names.l0 kq a0 x3_1 x4_1 = some r) ∧ Aside0 (kq ≤ k) ∧ Drawn0 w w')
  case atStart => exact ⟨(1), (0), (by first | rfl | (simp; done) | (simp [*]; done)), (by first | rfl | (simp; done) | (simp [*]; done)), H', ⟨Nat.le_refl _⟩, by repeat (first | exact Drawn0.refl _ | apply Drawn0.step)⟩
  case round =>
   clear H'
   try clear c2
   try clear c2b0
   try clear c2b1
   try clear p2
   obtain ⟨x3_1, x4_1, rfl, rfl, HA, HK1, ⟨m1, rfl⟩⟩ := hrel
   cases gk with
   | zero => exact absurd HA.out (by simp [laws_names.l0])
   | succ k1 =>
    have H := HA.out
    clear HA
    simp only [laws_names.l0] at H
    by_cases c3 : x4_1 < (a0.size : Int)
    ·rw [if_pos c3] at H
     have c3b0 : decide (x4_1 < (a0.size : Int)) = true := decide_eq_true c3
     clear c3
     by_cases c4 : 0 ≤ x4_1
     ·rw [if_pos c4] at H
      have c4b0 : decide (0 ≤ x4_1) = true := decide_eq_true c4
      clear c4
      by_cases c6 : (bt a0 x4_1) = 32
      ·rw [if_pos c6] at H
       have c6b0 : ((bt a0 x4_1) == 32) = true := beq_iff_eq.mpr c6
       have c6b1 : ((bt a0 x4_1) != 32) = false := bne_eq_false_iff_eq.mpr c6
       clear c6
       have H' := am H
       clear H
       have p5 : 0 ≤ (x4_1 : Int) := od
       have q5 : x4_1 < (a0.size : Int) := od
       have hx5 := bt_at a0 x4_1
       replace p5 := eq_true p5
       replace q5 := eq_true q5
       go_wp2
       go_roundg k1
       case measure => have := HK1.out; omega
       case rel => exact ⟨(wrap64 (x3_1 + 1)), (wrap64 (x4_1 + 1)), (by first | rfl | (simp; done) | (simp [*]; done)), (by first | rfl | (simp; done) | (simp [*]; done)), H', ⟨by have := HK1.out; omega⟩, by repeat (first | exact Drawn0.refl _ | apply Drawn0.step)⟩
      ·rw [if_neg c6] at H
       have c6b0 : ((bt a0 x4_1) == 32) = false := beq_eq_false_iff_ne.mpr c6
       have c6b1 : ((bt a0 x4_1) != 32) = true := bne_iff_ne.mpr c6
       have H' := am H
       clear H
       have p5 : 0 ≤ (x4_1 : Int) := od
       have q5 : x4_1 < (a0.size : Int) := od
       have hx5 := bt_at a0 x4_1
       replace p5 := eq_true p5
       replace q5 := eq_true q5
       go_wp2
       go_roundg k1
       case measure => have := HK1.out; omega
       case rel => exact ⟨(x3_1), (wrap64 (x4_1 + 1)), (by first | rfl | (simp; done) | (simp [*]; done)), (by first | rfl | (simp; done) | (simp [*]; done)), H', ⟨by have := HK1.out; omega⟩, by repeat (first | exact Drawn0.refl _ | apply Drawn0.step)⟩
     ·rw [if_neg c4] at H
      exact absurd H (by simp)
    ·rw [if_neg c3] at H
     have c3b0 : decide (x4_1 < (a0.size : Int)) = false := decide_eq_false c3
     clear c3
     obtain rfl := Option.some.inj H
     go_wp2
     go_ret
     exact ⟨by first | rfl | (simp; done) | (simp [*]; done), by repeat (first | exact Drawn0.refl _ | apply Drawn0.step)⟩

/-! ### ToneNames, by hand -/
theorem bl_len (bs : ByteArray) : ∀ (d i : Nat) (r : List UInt8), bs.size - i = d → (ByteArray.toList.loop bs i r).length = r.length + d := by
 intro d
 induction d with
 | zero =>
  intro i r h
  rw [ByteArray.toList.loop.eq_def, if_neg (by omega)]
  simp
 | succ d ih =>
  intro i r h
  rw [ByteArray.toList.loop.eq_def, if_pos (by omega), ih (i + 1) _ (by omega)]
  simp
  omega
theorem bl_empty {t : ByteArray} (h : 0 < t.size) : t.toList.isEmpty = false := by
 have := bl_len t t.size 0 [] (by omega)
 cases e : t.toList with
 | nil =>
  unfold ByteArray.toList at e
  rw [e] at this
  simp at this
  omega
 | cons x xs => rfl
def nameOf (k : Nat) : ByteArray := if k = 0 then ⟨#[117, 116]⟩ else if k = 1 then ⟨#[114, 101]⟩ else if k = 2 then ⟨#[109, 105]⟩ else if k = 3 then ⟨#[102, 97]⟩ else if k = 4 then ⟨#[115, 111, 108]⟩ else ⟨#[108, 97]⟩
/-- The names of a tone, from the i-th hexachord down. -/
def namesGo (a : Int) (b : Bool) : Nat → ByteArray → ByteArray
 | 0, t => t
 | i + 1, t => if sylOf (hexAll.getD i 0) a b < 0 then namesGo a b i t else namesGo a b i ((if t.size = 0 then t else t ++ ⟨#[32]⟩) ++ nameOf (sylOf (hexAll.getD i 0) a b).toNat)
def impl_ToneNames.f (a : Int) (b : Bool) : Option ByteArray := some (namesGo a b 7 ⟨#[]⟩)
theorem sylGo_bd (s : Nat) (a : Int) (b : Bool) : ∀ n i, n + i ≤ 6 → -1 ≤ sylGo s a b n i ∧ sylGo s a b n i < 6
 | 0, i, _ => by simp [sylGo]
 | n + 1, i, h => by
  rw [sylGo_step]
  split
  ·omega
  ·exact sylGo_bd s a b n (i + 1) (by omega)
theorem sylOf_bd (s : Nat) (a : Int) (b : Bool) : -1 ≤ sylOf s a b ∧ sylOf s a b < 6 := sylGo_bd s a b 6 0 (by omega)
set_option maxHeartbeats 4000000 in
set_option maxRecDepth 100000 in
theorem impl_ToneNames.calls (a0 : Int) (b0 : Bool) (r : ByteArray) (w : World) (hTL : TabL w) (hTS : TabS w) (h : impl_ToneNames.f a0 b0 = some r) :
  Calls Tryd.prog 36 #[.agg #[.int .i64 a0, .bool b0]] w fun e w' => e = .returned (.string r) ∧ Below w.heap.size w w' := by
 have hu1 := Tryd.underlying81
 have hu2 := Tryd.underlying71
 have hu3 := Tryd.underlying25
 obtain rfl := Option.some.inj h
 clear h
 have HT := am hTL
 have HTS := am hTS
 clear hTL hTS
 go_enter Tryd.func36, Tryd.ntmps36
 go_upto_region 2 with fail
 have HK0 := am (blk_new w (.cells #[.int .i64 a0, .bool b0] 25))
 have HB0 := am (below_alloc (Below.refl w.heap.size w) (.cells #[.int .i64 a0, .bool b0] 25))
 go_wp2_with fail
 refine (hexachords_tabT _ (TabAt.below HT.out HB0.out)).mono ?_
 rintro e w1 ⟨g, ad, c, rfl, hTab, hb⟩
 have HH1 := am hTab
 have HK1 := am (blk_below HK0.out hb)
 have HB1 := am (below_step HB0.out hb)
 have d0 := hTab.tab.cell
 clear hTab hb HK0
 go_wp2_with fail
 go_loopg [3, 5] 7 (fun kq v3 v5 w' => ∃ (i : Nat) (t : ByteArray), v5 = .int .i64 ((i : Int) - 1) ∧ v3 = .string t ∧ Aside0 (i ≤ 7 ∧ kq = i) ∧ Aside0 (t.size ≤ 4 * (7 - i)) ∧ Aside0 (namesGo a0 b0 i t = namesGo a0 b0 7 ⟨#[]⟩) ∧ Aside0 (HexTabT w' g ad c) ∧ Aside0 (w'.heap[w.heap.size]? = some (.cells #[.int .i64 a0, .bool b0] 25 (0, 0))) ∧ Aside0 (Below w.heap.size w w'))
 case atStart => exact ⟨7, ⟨#[]⟩, rfl, rfl, ⟨by omega, rfl⟩, ⟨by decide⟩, ⟨rfl⟩, HH1, HK1, HB1⟩
 case round =>
  obtain ⟨j, t, rfl, rfl, HI, HZ, HE, HH, HK, HB⟩ := hrel
  clear d0
  cases j with
  | zero =>
   go_wp2
   go_ret
   exact ⟨by rw [← HE.out]; rfl, HB.out⟩
  | succ i =>
   have hi : i < 7 := by have := HI.out.1; omega
   have hi2 : (i : Int) < 7 := by omega
   have ej : ((i + 1 : Nat) : Int) - 1 = (i : Int) := by omega
   rw [ej]
   obtain ⟨s, hs⟩ : ∃ s, sylOf (hexAll.getD i 0) a0 b0 = s := ⟨_, rfl⟩
   have hsb := sylOf_bd (hexAll.getD i 0) a0 b0
   rw [hs] at hsb
   have HS := am hs
   have HSB := am hsb
   clear hs hsb
   go_wp2_with fail
   have HH2 := am (HexTabT.below HH.out (below_drew1 (Below.refl _ wr)))
   have HK2 := am (blk_drew HK.out)
   have HB2 := am (below_drew1 HB.out)
   clear HH HK HB
   skip
   refine start_ (n := 9) (S := fun w' => w'.cell? ⟨g, 0, none⟩ = some (.slice (some ad) 7 c) ∧ w'.cell? ⟨w.heap.size, 0, none⟩ = some (.int .i64 a0) ∧ w'.cell? ⟨w.heap.size, 1, none⟩ = some (.bool b0)) (ds := []) #[F,F,F,F,F,F,F,F,F] (by kernel_rfl) rfl rfl ⟨HH2.out.tab.cell, blk_cell HK2.out 0, blk_cell HK2.out 1⟩ (fun hHeld => ?_)
   generalize wr.drew = wd at HH2 HK2 HB2 hHeld ⊢
   refine pz 0 (some 18) #[T,F,F,F,F,F,F,F,F] (by kernel_rfl) (h := ?_)
   refine pz 1 (some 19) #[T,T,F,F,F,F,F,F,F] (by kernel_rfl) (h := ?_)
   refine pz 2 (some 20) #[T,T,T,F,F,F,F,F,F] (by kernel_rfl) (h := ?_)
   refine tz hHeld 3 (some 21) #[T,T,T,T,F,F,F,F,F] (by kernel_rfl) (h := ?_)
   refine pz 4 (some 22) #[T,T,T,T,T,F,F,F,F] (by kernel_rfl) (h := ?_)
   refine pz 5 (some 23) #[T,T,T,T,T,T,F,F,F] (by kernel_rfl) (h := ?_)
   refine tz hHeld 6 (some 24) #[T,T,T,T,T,T,T,F,F] (by kernel_rfl) (h := ?_)
   refine one_ (i := 7) (N := some 25) #[T,T,T,T,T,T,T,T,F] rfl rfl (by kernel_rfl) (by decide) (fun K hK => ?_)
   refine goes_ Tryd.func56 (by kernel_rfl) rfl #[.pointer (some (ad.add (i * 13))), .agg #[.int .i64 a0, .bool b0]] (by rfl) rfl rfl (by (try simp only [List.map_toArray, List.map_cons, List.map_nil]); first | done | rfl) ?_
   with_reducible refine (syl_any HH2.out i hi a0 b0 s HS.out).mono ?_
   rintro e we ⟨rfl, hb⟩
   refine ⟨_, rfl, ?_⟩
   have HH' := am (HexTabT.below HH2.out hb)
   have HK' := am (blk_below HK2.out hb)
   have HB' := am (below_step HB2.out hb)
   clear HH2 HK2 HB2 hb
   have HH2 := HH'
   have HK2 := HK'
   have HB2 := HB'
   clear HH' HK' HB'
   refine hK.out _ _ ⟨HH2.out.tab.cell, blk_cell HK2.out 0, blk_cell HK2.out 1⟩ (fun hHeld => ?_)
   clear hK K
   refine norm_ (a' := ?_) ?_ ?_
   rotate_left
   ·show Act.put _ (some 25) _ = _
    simp only [Act.put, sA, sZ, sS, i64_w, i32_w]
    rfl
   refine pz 8 (some 6) #[T,T,T,T,T,T,T,T,T] (by kernel_rfl) (h := ?_)
   refine done_ (by kernel_rfl) ?_
   clear hHeld
   by_cases hc : s < 0
   ·have e1 : decide (s < 0) = true := decide_eq_true hc
    go_wp2
    go_roundg i
    case measure => have := HI.out; omega
    case rel => exact ⟨i, t, rfl, rfl, ⟨by omega, rfl⟩, ⟨by have := HZ.out; omega⟩, ⟨by rw [← HE.out]; simp only [namesGo]; rw [HS.out, if_pos hc]⟩, HH2, HK2, HB2⟩
   ·have e1 : decide (s < 0) = false := decide_eq_false hc
    have HC := am hc
    have hs6 : s = 0 ∨ s = 1 ∨ s = 2 ∨ s = 3 ∨ s = 4 ∨ s = 5 := by have := HSB.out; omega
    have HTS2 := am (TabAt.below HTS.out HB2.out)
    have hz := HZ.out
    by_cases h0 : t = ⟨#[]⟩
    ·subst h0
     have c0 : we.cell? ⟨0, 0, none⟩ = some (.string ⟨#[117, 116]⟩) := HTS2.out 0 _ rfl
     have c1 : we.cell? ⟨0, 1, none⟩ = some (.string ⟨#[114, 101]⟩) := HTS2.out 1 _ rfl
     have c2 : we.cell? ⟨0, 2, none⟩ = some (.string ⟨#[109, 105]⟩) := HTS2.out 2 _ rfl
     have c3 : we.cell? ⟨0, 3, none⟩ = some (.string ⟨#[102, 97]⟩) := HTS2.out 3 _ rfl
     have c4 : we.cell? ⟨0, 4, none⟩ = some (.string ⟨#[115, 111, 108]⟩) := HTS2.out 4 _ rfl
     have c5 : we.cell? ⟨0, 5, none⟩ = some (.string ⟨#[108, 97]⟩) := HTS2.out 5 _ rfl
     clear hc hz HSB
     rcases hs6 with rfl | rfl | rfl | rfl | rfl | rfl
     all_goals
      go_wp2
      go_roundg i
      case measure => have := HI.out; omega
      case rel => exact ⟨i, _, rfl, rfl, ⟨by omega, rfl⟩, ⟨by rw [ByteArray.size_append]; show 0 + _ ≤ _; have := HI.out; simp only [ByteArray.size]; show (_ : Nat) ≤ _; first | omega | (simp; omega)⟩, ⟨by rw [← HE.out]; simp only [namesGo]; rw [HS.out, if_neg (by omega)]; rfl⟩, HH2, HK2, HB2⟩
    ·have hts : 0 < t.size := by
      rcases Nat.eq_zero_or_pos t.size with hz0 | hz0
      ·exact absurd (ByteArray.size_eq_zero_iff.1 hz0) h0
      ·exact hz0
     have c0 : we.cell? ⟨0, 0, none⟩ = some (.string ⟨#[117, 116]⟩) := HTS2.out 0 _ rfl
     have c1 : we.cell? ⟨0, 1, none⟩ = some (.string ⟨#[114, 101]⟩) := HTS2.out 1 _ rfl
     have c2 : we.cell? ⟨0, 2, none⟩ = some (.string ⟨#[109, 105]⟩) := HTS2.out 2 _ rfl
     have c3 : we.cell? ⟨0, 3, none⟩ = some (.string ⟨#[102, 97]⟩) := HTS2.out 3 _ rfl
     have c4 : we.cell? ⟨0, 4, none⟩ = some (.string ⟨#[115, 111, 108]⟩) := HTS2.out 4 _ rfl
     have c5 : we.cell? ⟨0, 5, none⟩ = some (.string ⟨#[108, 97]⟩) := HTS2.out 5 _ rfl
     have HZ3 := am hts
     have he := bl_empty hts
     have z1 : (9223372036854775807 < t.size + 1) = False := eq_false (by omega)
     have z2 : (9223372036854775807 < t.size + 1 + 2) = False := eq_false (by omega)
     have z3 : (9223372036854775807 < t.size + 1 + 3) = False := eq_false (by omega)
     clear hc hz HSB hts
     rcases hs6 with rfl | rfl | rfl | rfl | rfl | rfl
     all_goals
      go_wp2
      go_roundg i
      case measure => have := HI.out; omega
      case rel => exact ⟨i, _, rfl, rfl, ⟨by omega, rfl⟩, ⟨by have := HZ.out; have := HI.out; simp only [ByteArray.size_append]; show t.size + 1 + _ ≤ _; simp only [ByteArray.size]; show t.size + 1 + (_ : Nat) ≤ _; first | omega | (simp; omega)⟩, ⟨by rw [← HE.out]; simp only [namesGo]; rw [HS.out, if_neg (by omega), if_neg (show ¬ t.size = 0 by have := HZ3.out; omega)]; rfl⟩, HH2, HK2, HB2⟩


end Go.Proofs.YtjefoedojglhpaaDoor.HA
