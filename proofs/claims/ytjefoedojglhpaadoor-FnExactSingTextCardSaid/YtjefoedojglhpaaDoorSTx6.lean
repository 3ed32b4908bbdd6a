-- Made by this session's gprint.py out of the translation. Not trusted: Lean checks it.
import Derived.Test.YtjefoedojglhpaaDoorShelf
import Derived.Test.YtjefoedojglhpaaDoorSTx0
import Derived.Test.YtjefoedojglhpaaDoorSTx2
import Derived.Test.YtjefoedojglhpaaDoorSTx4
import Derived.Test.YtjefoedojglhpaaDoorSTx5
namespace Go.Proofs.YtjefoedojglhpaaDoor.ST
open Go.RowKit Go.Proofs.YtjefoedojglhpaaDoorW.PrintWords Go.Proofs.YtjefoedojglhpaaDoorW.PrintLast Go.Proofs.YtjefoedojglhpaaDoorW.PrintMore
attribute [local go_sem] max2_int min2_int max_two min_two max_three min_three max_four min_four   -- for this text's walks alone
set_option linter.unusedVariables false
set_option linter.unusedSimpArgs false

/-! ### impl_MelodyValid: function 64 -/
def impl_MelodyValid.l0 : Nat → List (S25) → Int → Int → Option (Bool)
 | 0, _, _, _ => none
 | k + 1, x8, x9, x10 => if x10 < x9 then (if 0 ≤ x10 then (if x10 < (x8.length : Int) then ((impl_Tone_valid.f ((rd_T25 x8 x10).f0) ((rd_T25 x8 x10).f1)).bind fun t162 => (if t162 = true then (impl_MelodyValid.l0 k x8 x9 (wrap64 (x10 + 1))) else (some false))) else (none)) else (none)) else (some true)
def impl_MelodyValid.f (k : Nat) (l0 : List (S25)) : Option (Bool) := if (l0.length : Int) > 24 then (some false) else (impl_MelodyValid.l0 k l0 (l0.length : Int) 0)
set_option maxHeartbeats 8000000 in
set_option maxRecDepth 100000 in
theorem impl_MelodyValid.calls (k : Nat) (A0 : Option Addr) (c0 : Nat) (l0 : List (S25)) (r : Bool) (w : World) (hr0 : Kd.C k25 w A0 l0.length l0) (hc0 : l0.length ≤ c0) (h : impl_MelodyValid.f k l0 = some r) :
  Calls Tryd.prog 64 #[.slice A0 l0.length c0] w fun e w' => e = .returned (.bool r) ∧ Below w.heap.size w w' := by
 have hu25 := Tryd.underlying25
 have HR0 := am hr0
 have HC0 := am hc0
 clear hr0 hc0
 have HB := am (Below.refl w.heap.size w)
 have H : (if (l0.length : Int) > 24 then (some false) else (impl_MelodyValid.l0 k l0 (l0.length : Int) 0)) = some r := h
 clear h
 by_cases c2 : (l0.length : Int) > 24
 ·rw [if_pos c2] at H
  have c2b0 : decide (24 < (l0.length : Int)) = true := decide_eq_true c2
  have c2b1 : decide (24 < l0.length) = true := decide_eq_true (by omega)
  clear c2
  obtain rfl := Option.some.inj H
  go_enter Tryd.func64, Tryd.ntmps64
  go_wp2
  go_ret
  exact ⟨by first | rfl | (simp [errW_none, errW_some] <;> rfl) | (simp [*, errW_none, errW_some] <;> rfl), bu HB.out⟩
 ·rw [if_neg c2] at H
  have c2b0 : decide (24 < (l0.length : Int)) = false := decide_eq_false c2
  have c2b1 : decide (24 < l0.length) = false := decide_eq_false (by omega)
  clear c2
  have H' := am H
  clear H
  go_enter Tryd.func64, Tryd.ntmps64
  go_wp2
  go_loopg [10] k (fun kq v10 w' => ∃ (x10_1 : Int), v10 = .int .i64 x10_1 ∧ Aside0 (impl_MelodyValid.l0 kq l0 (l0.length : Int) x10_1 = some r) ∧ Aside0 (kq ≤ k) ∧ Aside0 (Below w.heap.size w w'))
  case atStart => exact ⟨(0), (by first | rfl | (simp; done) | (simp [*]; done)), H', ⟨Nat.le_refl _⟩, ⟨bu HB.out⟩⟩
  case round =>
   clear H'
   try clear c2
   try clear c2b0
   try clear c2b1
   try clear p2
   obtain ⟨x10_1, rfl, HA, HK1, HB⟩ := hrel
   cases gk with
   | zero => exact absurd HA.out (by simp [impl_MelodyValid.l0])
   | succ k1 =>
    have H := HA.out
    clear HA
    simp only [impl_MelodyValid.l0] at H
    by_cases c3 : x10_1 < (l0.length : Int)
    ·rw [if_pos c3] at H
     have c3b0 : decide (x10_1 < (l0.length : Int)) = true := decide_eq_true c3
     clear c3
     by_cases c4 : 0 ≤ x10_1
     ·rw [if_pos c4] at H
      have c4b0 : decide (0 ≤ x10_1) = true := decide_eq_true c4
      clear c4
      by_cases c5 : x10_1 < (l0.length : Int)
      ·rw [if_pos c5] at H
       have c5b0 : decide (x10_1 < (l0.length : Int)) = true := decide_eq_true c5
       clear c5
       replace H := Option.bind_eq_some_iff.mp H
       obtain ⟨t162, A60, H⟩ := H
       replace H : (if t162 = true then (impl_MelodyValid.l0 k1 l0 (l0.length : Int) (wrap64 (x10_1 + 1))) else (some false)) = some r := H
       have A6 := am A60
       clear A60
       by_cases c7 : t162 = true
       ·subst c7
        have H1 : (impl_MelodyValid.l0 k1 l0 (l0.length : Int) (wrap64 (x10_1 + 1))) = some r := by rw [if_pos rfl] at H; exact H
        clear H
        have H := H1
        clear H1
        have H' := am H
        clear H
        have p160 : 0 ≤ (x10_1 : Int) := od
        have q160 : x10_1 < (l0.length : Int) := od
        obtain ⟨ad160, e160, hx160_0, hx160_1⟩ := at_T25 HR0.out x10_1 p160 q160
        cases e160
        replace hx160_0 := (HB.out.cell (World.block_lt_of_cell? w _ hx160_0)).trans hx160_0
        replace hx160_1 := (HB.out.cell (World.block_lt_of_cell? w _ hx160_1)).trans hx160_1
        replace p160 := eq_true p160
        replace q160 := eq_true q160
        go_wp2_with (first | ((with_reducible refine gate_dst (N := 4) rfl ?_); refine box_event ?hg (N := 4) ?hd (cs := #[.int .i64 0, .bool false]) (t := 25) ?hr ?_; (case hd => rfl); (case hg => rfl); (case hr => first | (go_simp; done) | (go_simp; rfl)); intro gb161 hg w8 hbox hb; have n0_ := am (below_step (bu HB.out) hb); have n1_ := am (hbox); have n2_ := am ((by rw [hg]; exact (below_size (bu HB.out)) : w.heap.size ≤ gb161)); have n3_ := am ((by rw [hg]; exact (below_size (bu HB.out)) : w.heap.size ≤ gb161)); clear HB; have HB := n0_; have BK161 := n1_; have GW161 := n2_; have GE161 := n3_; clear n0_ n1_ n2_ n3_; clear hb hbox hg; have hcz9_0 : w8.cell? ⟨gb161, 0, none⟩ = some (.int .i64 0) := (blk_cell BK161.out 0).trans rfl; have hcz9_1 : w8.cell? ⟨gb161, 1, none⟩ = some (.bool false) := (blk_cell BK161.out 1).trans rfl; have hfz9_0 := blk_frozen BK161.out 0; have hfz9_1 := blk_frozen BK161.out 1) | ((with_reducible refine gate_callee (f := 55) rfl ?_); refine goesL_ (some 15) rfl rfl Tryd.func55 (by kernel_rfl) rfl #[.agg #[.int .i64 ((rd_T25 l0 x10_1).f0), .bool ((rd_T25 l0 x10_1).f1)]] rfl (by (try simp only [List.map_toArray, List.map_cons, List.map_nil]); first | done | rfl | (simp only [List.length_drop, List.length_take]; rfl)) ?_; (with_reducible refine (impl_Tone_valid.calls ((rd_T25 l0 x10_1).f0) ((rd_T25 l0 x10_1).f1) true _ A6.out).mono ?_); rintro e w10 ⟨rfl, hb⟩; refine ⟨_, rfl, ?_⟩; have n0_ := am (blk_below (g := gb161) (o := .cells #[.int .i64 ((rd_T25 l0 x10_1).f0), .bool ((rd_T25 l0 x10_1).f1)] 25 (0, 0)) (by (with_reducible repeat (first | refine blk_drewN ?_ _ | refine blk_drew ?_ | refine blk_alloc ?_ _)); refine blk_put (cs := #[.int .i64 ((rd_T25 l0 x10_1).f0), .bool false]) ?_ 1 _ rfl; (with_reducible repeat (first | refine blk_drewN ?_ _ | refine blk_drew ?_ | refine blk_alloc ?_ _)); refine blk_put (cs := #[.int .i64 0, .bool false]) ?_ 0 _ rfl; (with_reducible repeat (first | refine blk_drewN ?_ _ | refine blk_drew ?_ | refine blk_alloc ?_ _)); exact BK161.out) hb); have n1_ := am (below_step (bu HB.out) hb); clear BK161; clear HB; have BK161 := n0_; have HB := n1_; clear n0_ n1_; (try clear hb); (try clear hb2); (try clear hk); (try clear hi)))
        go_roundg k1
        case measure => have := HK1.out; omega
        case rel => exact ⟨(wrap64 (x10_1 + 1)), (by first | rfl | (simp; done) | (simp [*]; done)), H', ⟨by have := HK1.out; omega⟩, ⟨bu HB.out⟩⟩
       ·replace c7 := Bool.eq_false_iff.mpr c7
        subst c7
        have H1 : (some false) = some r := by rw [if_neg (show ¬ (false = true) by decide)] at H; exact H
        clear H
        have H := H1
        clear H1
        obtain rfl := Option.some.inj H
        have p160 : 0 ≤ (x10_1 : Int) := od
        have q160 : x10_1 < (l0.length : Int) := od
        obtain ⟨ad160, e160, hx160_0, hx160_1⟩ := at_T25 HR0.out x10_1 p160 q160
        cases e160
        replace hx160_0 := (HB.out.cell (World.block_lt_of_cell? w _ hx160_0)).trans hx160_0
        replace hx160_1 := (HB.out.cell (World.block_lt_of_cell? w _ hx160_1)).trans hx160_1
        replace p160 := eq_true p160
        replace q160 := eq_true q160
        go_wp2_with (first | ((with_reducible refine gate_dst (N := 4) rfl ?_); refine box_event ?hg (N := 4) ?hd (cs := #[.int .i64 0, .bool false]) (t := 25) ?hr ?_; (case hd => rfl); (case hg => rfl); (case hr => first | (go_simp; done) | (go_simp; rfl)); intro gb161 hg w11 hbox hb; have n0_ := am (below_step (bu HB.out) hb); have n1_ := am (hbox); have n2_ := am ((by rw [hg]; exact (below_size (bu HB.out)) : w.heap.size ≤ gb161)); have n3_ := am ((by rw [hg]; exact (below_size (bu HB.out)) : w.heap.size ≤ gb161)); clear HB; have HB := n0_; have BK161 := n1_; have GW161 := n2_; have GE161 := n3_; clear n0_ n1_ n2_ n3_; clear hb hbox hg; have hcz12_0 : w11.cell? ⟨gb161, 0, none⟩ = some (.int .i64 0) := (blk_cell BK161.out 0).trans rfl; have hcz12_1 : w11.cell? ⟨gb161, 1, none⟩ = some (.bool false) := (blk_cell BK161.out 1).trans rfl; have hfz12_0 := blk_frozen BK161.out 0; have hfz12_1 := blk_frozen BK161.out 1) | ((with_reducible refine gate_callee (f := 55) rfl ?_); refine goesL_ (some 15) rfl rfl Tryd.func55 (by kernel_rfl) rfl #[.agg #[.int .i64 ((rd_T25 l0 x10_1).f0), .bool ((rd_T25 l0 x10_1).f1)]] rfl (by (try simp only [List.map_toArray, List.map_cons, List.map_nil]); first | done | rfl | (simp only [List.length_drop, List.length_take]; rfl)) ?_; (with_reducible refine (impl_Tone_valid.calls ((rd_T25 l0 x10_1).f0) ((rd_T25 l0 x10_1).f1) false _ A6.out).mono ?_); rintro e w13 ⟨rfl, hb⟩; refine ⟨_, rfl, ?_⟩; have n0_ := am (blk_below (g := gb161) (o := .cells #[.int .i64 ((rd_T25 l0 x10_1).f0), .bool ((rd_T25 l0 x10_1).f1)] 25 (0, 0)) (by (with_reducible repeat (first | refine blk_drewN ?_ _ | refine blk_drew ?_ | refine blk_alloc ?_ _)); refine blk_put (cs := #[.int .i64 ((rd_T25 l0 x10_1).f0), .bool false]) ?_ 1 _ rfl; (with_reducible repeat (first | refine blk_drewN ?_ _ | refine blk_drew ?_ | refine blk_alloc ?_ _)); refine blk_put (cs := #[.int .i64 0, .bool false]) ?_ 0 _ rfl; (with_reducible repeat (first | refine blk_drewN ?_ _ | refine blk_drew ?_ | refine blk_alloc ?_ _)); exact BK161.out) hb); have n1_ := am (below_step (bu HB.out) hb); clear BK161; clear HB; have BK161 := n0_; have HB := n1_; clear n0_ n1_; (try clear hb); (try clear hb2); (try clear hk); (try clear hi)))
        go_ret
        exact ⟨by first | rfl | (simp [errW_none, errW_some] <;> rfl) | (simp [*, errW_none, errW_some] <;> rfl), bu HB.out⟩
      ·rw [if_neg c5] at H
       exact absurd H (by simp)
     ·rw [if_neg c4] at H
      exact absurd H (by simp)
    ·rw [if_neg c3] at H
     have c3b0 : decide (x10_1 < (l0.length : Int)) = false := decide_eq_false c3
     clear c3
     obtain rfl := Option.some.inj H
     go_wp2
     go_ret
     exact ⟨by first | rfl | (simp [errW_none, errW_some] <;> rfl) | (simp [*, errW_none, errW_some] <;> rfl), bu HB.out⟩

/-! ### impl_SingOk: function 41 -/
mutual
def impl_SingOk.j0 : Nat → List (S25) → List Int → Bool → Option (Bool)
 | 0, _, _, _ => none
 | k + 1, x0, x1, x16 => if x16 = true then (some false) else (impl_SingOk.l0 k x1 x0 (x0.length : Int) 0)
def impl_SingOk.l0 : Nat → List Int → List (S25) → Int → Int → Option (Bool)
 | 0, _, _, _, _ => none
 | k + 1, x1, x17, x18, x19 => if x19 < x18 then (if 0 ≤ x19 then (if x19 < (x17.length : Int) then (if x19 < (x1.length : Int) then ((impl_HexSyllable.f (rd x1 x19) ((rd_T25 x17 x19).f0) ((rd_T25 x17 x19).f1)).bind fun t167 => (if t167 < 0 then (some false) else (impl_SingOk.l0 k x1 x17 x18 (wrap64 (x19 + 1))))) else (none)) else (none)) else (none)) else (some true)
end
def impl_SingOk.f (k : Nat) (l0 : List (S25)) (l1 : List Int) : Option (Bool) := (impl_MelodyValid.f k l0).bind fun t163 => (if t163 = true then (impl_SingOk.j0 k l0 l1 ((l0.length : Int) != (l1.length : Int))) else (impl_SingOk.j0 k l0 l1 true))
set_option maxHeartbeats 8000000 in
set_option maxRecDepth 100000 in
theorem impl_SingOk.calls (k : Nat) (A0 : Option Addr) (c0 : Nat) (l0 : List (S25)) (A1 : Option Addr) (c1 : Nat) (l1 : List Int) (r : Bool) (w : World) (hr0 : Kd.C k25 w A0 l0.length l0) (hc0 : l0.length ≤ c0) (hr1 : Kd.C (Kd.int .i64) w A1 l1.length l1) (hc1 : l1.length ≤ c1) (hTL : TabL w) (h : impl_SingOk.f k l0 l1 = some r) :
  Calls Tryd.prog 41 #[.slice A0 l0.length c0, .slice A1 l1.length c1] w fun e w' => e = .returned (.bool r) ∧ Below w.heap.size w w' := by
 have hu25 := Tryd.underlying25
 have HTL := am hTL
 clear hTL
 have HR0 := am hr0
 have HC0 := am hc0
 clear hr0 hc0
 have HR1 := am hr1
 have HC1 := am hc1
 clear hr1 hc1
 have HB := am (Below.refl w.heap.size w)
 have H : ((impl_MelodyValid.f k l0).bind fun t163 => (if t163 = true then (impl_SingOk.j0 k l0 l1 ((l0.length : Int) != (l1.length : Int))) else (impl_SingOk.j0 k l0 l1 true))) = some r := h
 clear h
 have HC3 := am H
 clear H
 go_enter Tryd.func41, Tryd.ntmps41
 go_upto_region 1 with (fail)
 go_cut [16] (fun v16 wc => ∃ (kq : Nat) (x16_2 : Bool), v16 = .bool x16_2 ∧ Aside0 (impl_SingOk.j0 kq l0 l1 x16_2 = some r) ∧ Aside0 (kq ≤ k) ∧ Aside0 (Below w.heap.size w wc))
 case first =>
  have H := HC3.out
  clear HC3
  replace H := Option.bind_eq_some_iff.mp H
  obtain ⟨t163, A40, H⟩ := H
  replace H : (if t163 = true then (impl_SingOk.j0 k l0 l1 ((l0.length : Int) != (l1.length : Int))) else (impl_SingOk.j0 k l0 l1 true)) = some r := H
  have A4 := am A40
  clear A40
  by_cases c5 : t163 = true
  ·subst c5
   have H1 : (impl_SingOk.j0 k l0 l1 ((l0.length : Int) != (l1.length : Int))) = some r := by rw [if_pos rfl] at H; exact H
   clear H
   have H := H1
   clear H1
   have H' := am H
   clear H
   go_wp2_with (first | ((with_reducible refine gate_callee (f := 64) rfl ?_); refine goesL_ (some 8) rfl rfl Tryd.func64 (by kernel_rfl) rfl #[.slice A0 l0.length c0] rfl (by (try simp only [List.map_toArray, List.map_cons, List.map_nil]); first | done | rfl | (simp only [List.length_drop, List.length_take]; rfl)) ?_; (with_reducible refine (impl_MelodyValid.calls k _ _ l0 true _ ?side1 ?side2 A4.out).mono ?_); (case side1 => repeat (first | exact (Kd.C_below HR0.out HB.out) | (with_reducible refine Kd.C_alloc ?_ _) | (with_reducible refine Kd.C_drewN ?_ _) | (with_reducible refine Kd.C_drew ?_))); (case side2 => exact HC0.out); rintro e w6 ⟨rfl, hb⟩; refine ⟨_, rfl, ?_⟩; have n0_ := am (below_step (bu HB.out) hb); clear HB; have HB := n0_; clear n0_; (try clear hb); (try clear hb2); (try clear hk); (try clear hi)))
   go_meet
   case rel => exact ⟨_, (((l0.length : Int) != (l1.length : Int))), (by first | rfl | (simp; done) | (simp [*]; done)), H', ⟨by first | omega | exact Nat.le_refl _⟩, ⟨bu HB.out⟩⟩
  ·replace c5 := Bool.eq_false_iff.mpr c5
   subst c5
   have H1 : (impl_SingOk.j0 k l0 l1 true) = some r := by rw [if_neg (show ¬ (false = true) by decide)] at H; exact H
   clear H
   have H := H1
   clear H1
   have H' := am H
   clear H
   go_wp2_with (first | ((with_reducible refine gate_callee (f := 64) rfl ?_); refine goesL_ (some 8) rfl rfl Tryd.func64 (by kernel_rfl) rfl #[.slice A0 l0.length c0] rfl (by (try simp only [List.map_toArray, List.map_cons, List.map_nil]); first | done | rfl | (simp only [List.length_drop, List.length_take]; rfl)) ?_; (with_reducible refine (impl_MelodyValid.calls k _ _ l0 false _ ?side1 ?side2 A4.out).mono ?_); (case side1 => repeat (first | exact (Kd.C_below HR0.out HB.out) | (with_reducible refine Kd.C_alloc ?_ _) | (with_reducible refine Kd.C_drewN ?_ _) | (with_reducible refine Kd.C_drew ?_))); (case side2 => exact HC0.out); rintro e w7 ⟨rfl, hb⟩; refine ⟨_, rfl, ?_⟩; have n0_ := am (below_step (bu HB.out) hb); clear HB; have HB := n0_; clear n0_; (try clear hb); (try clear hb2); (try clear hk); (try clear hi)))
   go_meet
   case rel => exact ⟨_, (true), (by first | rfl | (simp; done) | (simp [*]; done)), H', ⟨by first | omega | exact Nat.le_refl _⟩, ⟨bu HB.out⟩⟩
 case rest =>
  clear HC3
  try clear c1
  try clear p2
  try clear c4
  try clear c5
  try clear c6
  obtain ⟨kq, x16_2, rfl, HA, HJ2, HB⟩ := hcut
  cases kq with
  | zero => exact absurd HA.out (by simp [impl_SingOk.j0])
  | succ kj2 =>
   have H := HA.out
   clear HA
   simp only [impl_SingOk.j0] at H
   by_cases c8 : x16_2 = true
   ·subst c8
    have H1 : (some false) = some r := by rw [if_pos rfl] at H; exact H
    clear H
    have H := H1
    clear H1
    obtain rfl := Option.some.inj H
    go_wp2
    go_ret
    exact ⟨by first | rfl | (simp [errW_none, errW_some] <;> rfl) | (simp [*, errW_none, errW_some] <;> rfl), bu HB.out⟩
   ·replace c8 := Bool.eq_false_iff.mpr c8
    subst c8
    have H1 : (impl_SingOk.l0 kj2 l1 l0 (l0.length : Int) 0) = some r := by rw [if_neg (show ¬ (false = true) by decide)] at H; exact H
    clear H
    have H := H1
    clear H1
    have H' := am H
    clear H
    go_wp2
    go_loopg [19] kj2 (fun kq v19 w' => ∃ (x19_2 : Int), v19 = .int .i64 x19_2 ∧ Aside0 (impl_SingOk.l0 kq l1 l0 (l0.length : Int) x19_2 = some r) ∧ Aside0 (kq ≤ kj2) ∧ Aside0 (Below w.heap.size w w'))
    case atStart => exact ⟨(0), (by first | rfl | (simp; done) | (simp [*]; done)), H', ⟨Nat.le_refl _⟩, ⟨bu HB.out⟩⟩
    case round =>
     clear H'
     try clear c1
     try clear p2
     try clear c4
     try clear c5
     try clear c6
     try clear c8
     try clear p2
     obtain ⟨x19_2, rfl, HA, HK2, HB⟩ := hrel
     cases gk with
     | zero => exact absurd HA.out (by simp [impl_SingOk.l0])
     | succ k2 =>
      have H := HA.out
      clear HA
      simp only [impl_SingOk.l0] at H
      by_cases c9 : x19_2 < (l0.length : Int)
      ·rw [if_pos c9] at H
       have c9b0 : decide (x19_2 < (l0.length : Int)) = true := decide_eq_true c9
       clear c9
       by_cases c10 : 0 ≤ x19_2
       ·rw [if_pos c10] at H
        have c10b0 : decide (0 ≤ x19_2) = true := decide_eq_true c10
        clear c10
        by_cases c11 : x19_2 < (l0.length : Int)
        ·rw [if_pos c11] at H
         have c11b0 : decide (x19_2 < (l0.length : Int)) = true := decide_eq_true c11
         clear c11
         by_cases c12 : x19_2 < (l1.length : Int)
         ·rw [if_pos c12] at H
          have c12b0 : decide (x19_2 < (l1.length : Int)) = true := decide_eq_true c12
          clear c12
          replace H := Option.bind_eq_some_iff.mp H
          obtain ⟨t167, A130, H⟩ := H
          replace H : (if t167 < 0 then (some false) else (impl_SingOk.l0 k2 l1 l0 (l0.length : Int) (wrap64 (x19_2 + 1)))) = some r := H
          have A13 := am A130
          clear A130
          by_cases c14 : t167 < 0
          ·rw [if_pos c14] at H
           have c14b0 : decide (t167 < 0) = true := decide_eq_true c14
           clear c14
           obtain rfl := Option.some.inj H
           have p164 : 0 ≤ (x19_2 : Int) := od
           have q164 : x19_2 < (l0.length : Int) := od
           obtain ⟨ad164, e164, hx164_0, hx164_1⟩ := at_T25 HR0.out x19_2 p164 q164
           cases e164
           replace hx164_0 := (HB.out.cell (World.block_lt_of_cell? w _ hx164_0)).trans hx164_0
           replace hx164_1 := (HB.out.cell (World.block_lt_of_cell? w _ hx164_1)).trans hx164_1
           replace p164 := eq_true p164
           replace q164 := eq_true q164
           try go_wp2_with (first | ((with_reducible refine gate_dst (N := 6) rfl ?_); (try (refine gate_guard (by rfl) ?_; dsimp only)); refine box_event ?hg (N := 6) ?hd (cs := #[.int .i64 0, .bool false]) (t := 25) ?hr ?_; (case hd => rfl); (case hg => rfl); (case hr => first | (go_simp; done) | (go_simp; rfl)); intro gb165 hg w15 hbox hb; have n0_ := am (below_step (bu HB.out) hb); have n1_ := am (hbox); have n2_ := am ((by rw [hg]; exact (below_size (bu HB.out)) : w.heap.size ≤ gb165)); have n3_ := am ((by rw [hg]; exact (below_size (bu HB.out)) : w.heap.size ≤ gb165)); clear HB; have HB := n0_; have BK165 := n1_; have GW165 := n2_; have GE165 := n3_; clear n0_ n1_ n2_ n3_; clear hb hbox hg; have hcz16_0 : w15.cell? ⟨gb165, 0, none⟩ = some (.int .i64 0) := (blk_cell BK165.out 0).trans rfl; have hcz16_1 : w15.cell? ⟨gb165, 1, none⟩ = some (.bool false) := (blk_cell BK165.out 1).trans rfl; have hfz16_0 := blk_frozen BK165.out 0; have hfz16_1 := blk_frozen BK165.out 1))
           have n0_ : Aside0 (((w15.setCell ⟨gb165, 0, none⟩ (.int .i64 ((rd_T25 l0 x19_2).f0))).setCell ⟨gb165, 1, none⟩ (.bool ((rd_T25 l0 x19_2).f1))).heap[gb165]? = some (.cells #[.int .i64 ((rd_T25 l0 x19_2).f0), .bool ((rd_T25 l0 x19_2).f1)] 25 (0, 0))) := ⟨by (with_reducible repeat (first | refine blk_drewN ?_ _ | refine blk_drew ?_ | refine blk_alloc ?_ _)); refine blk_put (cs := #[.int .i64 ((rd_T25 l0 x19_2).f0), .bool false]) ?_ 1 _ rfl; (with_reducible repeat (first | refine blk_drewN ?_ _ | refine blk_drew ?_ | refine blk_alloc ?_ _)); refine blk_put (cs := #[.int .i64 0, .bool false]) ?_ 0 _ rfl; (with_reducible repeat (first | refine blk_drewN ?_ _ | refine blk_drew ?_ | refine blk_alloc ?_ _)); exact BK165.out⟩
           have n1_ : Aside0 (Below w.heap.size w ((w15.setCell ⟨gb165, 0, none⟩ (.int .i64 ((rd_T25 l0 x19_2).f0))).setCell ⟨gb165, 1, none⟩ (.bool ((rd_T25 l0 x19_2).f1)))) := ⟨bu HB.out⟩
           (try clear BK165)
           (try clear HB)
           generalize ((w15.setCell ⟨gb165, 0, none⟩ (.int .i64 ((rd_T25 l0 x19_2).f0))).setCell ⟨gb165, 1, none⟩ (.bool ((rd_T25 l0 x19_2).f1))) = w17 at n0_ n1_ ⊢
           have BK165 := n0_
           have HB := n1_
           clear n0_ n1_
           have n0_ := am (blk_drew BK165.out)
           have n1_ := am (below_drew1 HB.out)
           clear BK165
           clear HB
           have BK165 := n0_
           have HB := n1_
           clear n0_ n1_
           have p166 : 0 ≤ (x19_2 : Int) := od
           have q166 : x19_2 < (l1.length : Int) := od
           obtain ⟨ad166, e166, hx166_0⟩ := Kd.at_int HR1.out x19_2 p166 q166
           have hw166_0 := hx166_0
           cases e166
           replace hx166_0 := (HB.out.cell (World.block_lt_of_cell? w _ hx166_0)).trans hx166_0
           replace p166 := eq_true p166
           replace q166 := eq_true q166
           refine start_ (n := 7) (S := fun w' => w'.cell? ⟨gb165, 0, none⟩ = some (.int .i64 ((rd_T25 l0 x19_2).f0)) ∧ w'.cell? ⟨gb165, 1, none⟩ = some (.bool ((rd_T25 l0 x19_2).f1)) ∧ w'.cell? (ad166.add (x19_2).toNat) = some (.int .i64 (rd l1 x19_2))) (ds := []) #[F,F,F,F,F,F,F] (by kernel_rfl) rfl rfl ⟨(blk_cell BK165.out 0).trans rfl, (blk_cell BK165.out 1).trans rfl, ((HB.out.cell (World.block_lt_of_cell? w _ hw166_0)).trans hw166_0)⟩ (fun hHeld => ?_)
           generalize w17.drew = w18 at BK165 HB hx166_0 hHeld ⊢
           refine pz 0 (some 24) #[T,F,F,F,F,F,F] (by kernel_rfl) (h := ?_)
           refine pz 1 (some 25) #[T,T,F,F,F,F,F] (by kernel_rfl) (h := ?_)
           refine pz 2 (some 26) #[T,T,T,F,F,F,F] (by kernel_rfl) (h := ?_)
           refine tz hHeld 3 (some 27) #[T,T,T,T,F,F,F] (by kernel_rfl) (h := ?_)
           refine tz hHeld 4 (some 28) #[T,T,T,T,T,F,F] (by kernel_rfl) (h := ?_)
           refine one_ (i := 5) (N := some 29) #[T,T,T,T,T,T,F] rfl rfl (by kernel_rfl) (by decide) (fun K hK => ?_)
           refine goes_ Tryd.func24 (by kernel_rfl) rfl #[.int .i64 (rd l1 x19_2), .agg #[.int .i64 ((rd_T25 l0 x19_2).f0), .bool ((rd_T25 l0 x19_2).f1)]] (by rfl) rfl rfl (by (try simp only [List.map_toArray, List.map_cons, List.map_nil]); first | done | rfl | (simp only [List.length_drop, List.length_take]; rfl)) ?_
           with_reducible refine (impl_HexSyllable.calls (rd l1 x19_2) ((rd_T25 l0 x19_2).f0) ((rd_T25 l0 x19_2).f1) t167 _ ?side1 A13.out).mono ?_
           (case side1 => first | exact HTL.out | exact TabAt.below HTL.out (bu HB.out))
           rintro e w19 ⟨rfl, hb⟩
           refine ⟨_, rfl, ?_⟩
           have n0_ := am (blk_below (g := gb165) (o := .cells #[.int .i64 ((rd_T25 l0 x19_2).f0), .bool ((rd_T25 l0 x19_2).f1)] 25 (0, 0)) (gu BK165.out) hb)
           have n1_ := am (below_step (bu HB.out) hb)
           clear BK165
           clear HB
           have BK165 := n0_
           have HB := n1_
           clear n0_ n1_
           (try clear hb)
           (try clear hb2)
           (try clear hk)
           (try clear hi)
           refine hK.out _ _ ⟨(blk_cell BK165.out 0).trans rfl, (blk_cell BK165.out 1).trans rfl, ((HB.out.cell (World.block_lt_of_cell? w _ hw166_0)).trans hw166_0)⟩ (fun hHeld => ?_)
           clear hK K
           refine norm_ (a' := ?_) ?_ ?_
           rotate_left
           ·show Act.put _ (some 29) _ = _
            simp only [Act.put, sA, sZ, sS, i64_w, i32_w]
            rfl
           refine pz 6 (some 30) #[T,T,T,T,T,T,T] (by kernel_rfl) (h := ?_)
           refine done_ (by kernel_rfl) ?_
           try go_wp2
           go_ret
           exact ⟨by first | rfl | (simp [errW_none, errW_some] <;> rfl) | (simp [*, errW_none, errW_some] <;> rfl), bu HB.out⟩
          ·rw [if_neg c14] at H
           have c14b0 : decide (t167 < 0) = false := decide_eq_false c14
           clear c14
           have H' := am H
           clear H
           have p164 : 0 ≤ (x19_2 : Int) := od
           have q164 : x19_2 < (l0.length : Int) := od
           obtain ⟨ad164, e164, hx164_0, hx164_1⟩ := at_T25 HR0.out x19_2 p164 q164
           cases e164
           replace hx164_0 := (HB.out.cell (World.block_lt_of_cell? w _ hx164_0)).trans hx164_0
           replace hx164_1 := (HB.out.cell (World.block_lt_of_cell? w _ hx164_1)).trans hx164_1
           replace p164 := eq_true p164
           replace q164 := eq_true q164
           try go_wp2_with (first | ((with_reducible refine gate_dst (N := 6) rfl ?_); (try (refine gate_guard (by rfl) ?_; dsimp only)); refine box_event ?hg (N := 6) ?hd (cs := #[.int .i64 0, .bool false]) (t := 25) ?hr ?_; (case hd => rfl); (case hg => rfl); (case hr => first | (go_simp; done) | (go_simp; rfl)); intro gb165 hg w20 hbox hb; have n0_ := am (below_step (bu HB.out) hb); have n1_ := am (hbox); have n2_ := am ((by rw [hg]; exact (below_size (bu HB.out)) : w.heap.size ≤ gb165)); have n3_ := am ((by rw [hg]; exact (below_size (bu HB.out)) : w.heap.size ≤ gb165)); clear HB; have HB := n0_; have BK165 := n1_; have GW165 := n2_; have GE165 := n3_; clear n0_ n1_ n2_ n3_; clear hb hbox hg; have hcz21_0 : w20.cell? ⟨gb165, 0, none⟩ = some (.int .i64 0) := (blk_cell BK165.out 0).trans rfl; have hcz21_1 : w20.cell? ⟨gb165, 1, none⟩ = some (.bool false) := (blk_cell BK165.out 1).trans rfl; have hfz21_0 := blk_frozen BK165.out 0; have hfz21_1 := blk_frozen BK165.out 1))
           have n0_ : Aside0 (((w20.setCell ⟨gb165, 0, none⟩ (.int .i64 ((rd_T25 l0 x19_2).f0))).setCell ⟨gb165, 1, none⟩ (.bool ((rd_T25 l0 x19_2).f1))).heap[gb165]? = some (.cells #[.int .i64 ((rd_T25 l0 x19_2).f0), .bool ((rd_T25 l0 x19_2).f1)] 25 (0, 0))) := ⟨by (with_reducible repeat (first | refine blk_drewN ?_ _ | refine blk_drew ?_ | refine blk_alloc ?_ _)); refine blk_put (cs := #[.int .i64 ((rd_T25 l0 x19_2).f0), .bool false]) ?_ 1 _ rfl; (with_reducible repeat (first | refine blk_drewN ?_ _ | refine blk_drew ?_ | refine blk_alloc ?_ _)); refine blk_put (cs := #[.int .i64 0, .bool false]) ?_ 0 _ rfl; (with_reducible repeat (first | refine blk_drewN ?_ _ | refine blk_drew ?_ | refine blk_alloc ?_ _)); exact BK165.out⟩
           have n1_ : Aside0 (Below w.heap.size w ((w20.setCell ⟨gb165, 0, none⟩ (.int .i64 ((rd_T25 l0 x19_2).f0))).setCell ⟨gb165, 1, none⟩ (.bool ((rd_T25 l0 x19_2).f1)))) := ⟨bu HB.out⟩
           (try clear BK165)
           (try clear HB)
           generalize ((w20.setCell ⟨gb165, 0, none⟩ (.int .i64 ((rd_T25 l0 x19_2).f0))).setCell ⟨gb165, 1, none⟩ (.bool ((rd_T25 l0 x19_2).f1))) = w22 at n0_ n1_ ⊢
           have BK165 := n0_
           have HB := n1_
           clear n0_ n1_
           have n0_ := am (blk_drew BK165.out)
           have n1_ := am (below_drew1 HB.out)
           clear BK165
           clear HB
           have BK165 := n0_
           have HB := n1_
           clear n0_ n1_
           have p166 : 0 ≤ (x19_2 : Int) := od
           have q166 : x19_2 < (l1.length : Int) := od
           obtain ⟨ad166, e166, hx166_0⟩ := Kd.at_int HR1.out x19_2 p166 q166
           have hw166_0 := hx166_0
           cases e166
           replace hx166_0 := (HB.out.cell (World.block_lt_of_cell? w _ hx166_0)).trans hx166_0
           replace p166 := eq_true p166
           replace q166 := eq_true q166
           refine start_ (n := 7) (S := fun w' => w'.cell? ⟨gb165, 0, none⟩ = some (.int .i64 ((rd_T25 l0 x19_2).f0)) ∧ w'.cell? ⟨gb165, 1, none⟩ = some (.bool ((rd_T25 l0 x19_2).f1)) ∧ w'.cell? (ad166.add (x19_2).toNat) = some (.int .i64 (rd l1 x19_2))) (ds := []) #[F,F,F,F,F,F,F] (by kernel_rfl) rfl rfl ⟨(blk_cell BK165.out 0).trans rfl, (blk_cell BK165.out 1).trans rfl, ((HB.out.cell (World.block_lt_of_cell? w _ hw166_0)).trans hw166_0)⟩ (fun hHeld => ?_)
           generalize w22.drew = w23 at BK165 HB hx166_0 hHeld ⊢
           refine pz 0 (some 24) #[T,F,F,F,F,F,F] (by kernel_rfl) (h := ?_)
           refine pz 1 (some 25) #[T,T,F,F,F,F,F] (by kernel_rfl) (h := ?_)
           refine pz 2 (some 26) #[T,T,T,F,F,F,F] (by kernel_rfl) (h := ?_)
           refine tz hHeld 3 (some 27) #[T,T,T,T,F,F,F] (by kernel_rfl) (h := ?_)
           refine tz hHeld 4 (some 28) #[T,T,T,T,T,F,F] (by kernel_rfl) (h := ?_)
           refine one_ (i := 5) (N := some 29) #[T,T,T,T,T,T,F] rfl rfl (by kernel_rfl) (by decide) (fun K hK => ?_)
           refine goes_ Tryd.func24 (by kernel_rfl) rfl #[.int .i64 (rd l1 x19_2), .agg #[.int .i64 ((rd_T25 l0 x19_2).f0), .bool ((rd_T25 l0 x19_2).f1)]] (by rfl) rfl rfl (by (try simp only [List.map_toArray, List.map_cons, List.map_nil]); first | done | rfl | (simp only [List.length_drop, List.length_take]; rfl)) ?_
           with_reducible refine (impl_HexSyllable.calls (rd l1 x19_2) ((rd_T25 l0 x19_2).f0) ((rd_T25 l0 x19_2).f1) t167 _ ?side1 A13.out).mono ?_
           (case side1 => first | exact HTL.out | exact TabAt.below HTL.out (bu HB.out))
           rintro e w24 ⟨rfl, hb⟩
           refine ⟨_, rfl, ?_⟩
           have n0_ := am (blk_below (g := gb165) (o := .cells #[.int .i64 ((rd_T25 l0 x19_2).f0), .bool ((rd_T25 l0 x19_2).f1)] 25 (0, 0)) (gu BK165.out) hb)
           have n1_ := am (below_step (bu HB.out) hb)
           clear BK165
           clear HB
           have BK165 := n0_
           have HB := n1_
           clear n0_ n1_
           (try clear hb)
           (try clear hb2)
           (try clear hk)
           (try clear hi)
           refine hK.out _ _ ⟨(blk_cell BK165.out 0).trans rfl, (blk_cell BK165.out 1).trans rfl, ((HB.out.cell (World.block_lt_of_cell? w _ hw166_0)).trans hw166_0)⟩ (fun hHeld => ?_)
           clear hK K
           refine norm_ (a' := ?_) ?_ ?_
           rotate_left
           ·show Act.put _ (some 29) _ = _
            simp only [Act.put, sA, sZ, sS, i64_w, i32_w]
            rfl
           refine pz 6 (some 30) #[T,T,T,T,T,T,T] (by kernel_rfl) (h := ?_)
           refine done_ (by kernel_rfl) ?_
           try go_wp2
           go_roundg k2
           case measure => have := HJ2.out; have := HK2.out; omega
           case rel => exact ⟨(wrap64 (x19_2 + 1)), (by first | rfl | (simp; done) | (simp [*]; done)), H', ⟨by have := HJ2.out; have := HK2.out; omega⟩, ⟨bu HB.out⟩⟩
         ·rw [if_neg c12] at H
          exact absurd H (by simp)
        ·rw [if_neg c11] at H
         exact absurd H (by simp)
       ·rw [if_neg c10] at H
        exact absurd H (by simp)
      ·rw [if_neg c9] at H
       have c9b0 : decide (x19_2 < (l0.length : Int)) = false := decide_eq_false c9
       clear c9
       obtain rfl := Option.some.inj H
       go_wp2
       go_ret
       exact ⟨by first | rfl | (simp [errW_none, errW_some] <;> rfl) | (simp [*, errW_none, errW_some] <;> rfl), bu HB.out⟩

-- NOT PRINTED: function 73 (abi_NoEscape)

-- NOT PRINTED: function 71 (strings_Builder_copyCheck)

-- NOT PRINTED: function 74 (bytealg_MakeNoZero)

-- NOT PRINTED: function 72 (strings_Builder_grow)

-- NOT PRINTED: function 68 (strings_Builder_Grow)

-- NOT PRINTED: function 69 (strings_Builder_WriteString)

-- NOT PRINTED: function 70 (strings_Builder_String)

def nameOf (k : Nat) : ByteArray := if k = 0 then ⟨#[117, 116]⟩ else if k = 1 then ⟨#[114, 101]⟩ else if k = 2 then ⟨#[109, 105]⟩ else if k = 3 then ⟨#[102, 97]⟩ else if k = 4 then ⟨#[115, 111, 108]⟩ else ⟨#[108, 97]⟩
theorem sylGo_bd (s : Nat) (a : Int) (b : Bool) : ∀ n i, n + i ≤ 6 → -1 ≤ sylGo s a b n i ∧ sylGo s a b n i < 6
 | 0, i, _ => by simp [sylGo]
 | n + 1, i, h => by
  rw [sylGo_step]
  split
  ·omega
  ·exact sylGo_bd s a b n (i + 1) (by omega)
theorem sylOf_bd (s : Nat) (a : Int) (b : Bool) : -1 ≤ sylOf s a b ∧ sylOf s a b < 6 := sylGo_bd s a b 6 0 (by omega)
theorem nameOf_size (k : Nat) : (nameOf k).size ≤ 3 := by
 unfold nameOf
 repeat' split
 all_goals decide

/-! ### SingText, by hand (strings.Join by the shelf's contract) -/
theorem sx_ints {w : World} {A : Option Addr} {n : Nat} {xs : List Int} (h : (Kd.int .i64).C w A n xs) (hn : n = xs.length) (i : Nat) (hi : i < xs.length) : ∃ ad, A = some ad ∧ w.cell? (ad.add i) = some (.int .i64 xs[i]) := by
 obtain ⟨ad, e, hc⟩ := Kd.at_int h (i : Int) (by omega) (by omega)
 refine ⟨ad, e, ?_⟩
 rw [Int.toNat_natCast] at hc
 rw [hc]
 simp [rd, List.getD_eq_getElem?_getD, hi]
theorem sx_strs {w : World} {g n : Nat} {xs : List ByteArray} (h : Kd.string.C w (some ⟨g, 0, none⟩) n xs) (hn : n = xs.length) (j : Nat) (x : ByteArray) (hx : xs[j]? = some x) : w.cell? ⟨g, 0 + j, none⟩ = some (.string x) := by
 obtain ⟨hj, rfl⟩ := List.getElem?_eq_some_iff.1 hx
 obtain ⟨ad, e, hc⟩ := Kd.at_string h (j : Int) (by omega) (by omega)
 obtain rfl : (⟨g, 0, none⟩ : Addr) = ad := by injection e
 rw [Int.toNat_natCast] at hc
 rw [Nat.zero_add, ← add_plain, hc]
 simp [rdOf, List.getD_eq_getElem?_getD, hj]
theorem sx_empty {α : Type} (d : Kd α) (e : Nat) {W : World} {g base : Nat} (ok : Nat → Prop) (hok : ok g) (h : W.heap[g]? = some (.cells #[] e (0, 0))) (hb : base ≤ g) : d.R e W base ok (.slice (some ⟨g, 0, none⟩) 0 0) ([] : List α) :=
 ⟨fun k hk => by
  simp [Value.ownBlock] at hk
  subst hk
  exact hok, [], ⟨by simp, .inr ⟨g, 0, #[], rfl, hb, h, Nat.le_refl _, by simp [maxLen], by simp, by simp⟩⟩, Reps.none _ _⟩
theorem rdSg_at (l : List S25) (i : Nat) (h : i < l.length) : rd_T25 l (i : Int) = l[i] := by
 simp [rd_T25, List.getD_eq_getElem?_getD, h]
theorem rdSi_at (l : List Int) (i : Nat) (h : i < l.length) : rd l (i : Int) = l[i] := by
 simp [rd, List.getD_eq_getElem?_getD, h]
def sylV (h : Int) (t : S25) : Int := (impl_HexSyllable.f h t.f0 t.f1).getD (-1)
def singNames (l : List S25) (s : List Int) : List ByteArray := List.zipWith (fun t h => nameOf (sylV h t).toNat) l s
def joinSp (xs : List ByteArray) : ByteArray := ⟨(Lib.join (xs.map (·.data.toList)) [32]).toArray⟩
def impl_SingText.f (n : Nat) (l0 : List S25) (l1 : List Int) : Option ByteArray := (impl_SingOk.f n l0 l1).bind fun ok => some (if ok = true then joinSp (singNames l0 l1) else ⟨#[]⟩)
theorem sing_l0 : ∀ (k : Nat) (s : List Int) (l : List S25) (i : Nat), i ≤ l.length → l.length ≤ 24 → impl_SingOk.l0 k s l (l.length : Int) (i : Int) = some true → ∀ j (h0 : j < l.length), i ≤ j → ∃ (h1 : j < s.length) (v : Int), impl_HexSyllable.f s[j] l[j].f0 l[j].f1 = some v ∧ 0 ≤ v := by
 intro k
 induction k with
 | zero => intro s l i hi hl h; simp [impl_SingOk.l0] at h
 | succ k ih =>
  intro s l i hi hl h j h0 hij
  simp only [impl_SingOk.l0] at h
  by_cases hlt : i < l.length
  ·rw [if_pos (by omega), if_pos (by omega), if_pos (by omega)] at h
   by_cases hs : i < s.length
   ·rw [if_pos (by omega), rdSi_at s i hs, rdSg_at l i hlt] at h
    obtain ⟨v, hv, h⟩ := Option.bind_eq_some_iff.mp h
    by_cases hv0 : v < 0
    ·rw [if_pos hv0] at h
     exact absurd h (by simp)
    ·rw [if_neg hv0, show wrap64 ((i : Int) + 1) = ((i + 1 : Nat) : Int) by unfold wrap64; omega] at h
     by_cases e : j = i
     ·subst e
      exact ⟨hs, v, hv, by omega⟩
     ·exact ih s l (i + 1) (by omega) hl h j h0 (by omega)
   ·rw [if_neg (by omega)] at h
    exact absurd h (by simp)
  ·omega
theorem sing_facts {k : Nat} {l : List S25} {s : List Int} (h : impl_SingOk.f k l s = some true) : l.length ≤ 24 ∧ s.length = l.length ∧ ∀ j (h0 : j < l.length), ∃ (h1 : j < s.length) (v : Int), impl_HexSyllable.f s[j] l[j].f0 l[j].f1 = some v ∧ 0 ≤ v := by
 unfold impl_SingOk.f at h
 obtain ⟨b, hb, h⟩ := Option.bind_eq_some_iff.mp h
 cases b with
 | false =>
  rw [if_neg (by decide)] at h
  cases k with
  | zero => simp [impl_SingOk.j0] at h
  | succ k => simp only [impl_SingOk.j0, if_true] at h; exact absurd h (by simp)
 | true =>
  rw [if_pos rfl] at h
  have hl : l.length ≤ 24 := by
   unfold impl_MelodyValid.f at hb
   by_cases hl : (l.length : Int) > 24
   ·rw [if_pos hl] at hb
    exact absurd hb (by simp)
   ·omega
  cases k with
  | zero => simp [impl_SingOk.j0] at h
  | succ k =>
   simp only [impl_SingOk.j0] at h
   by_cases hn : (l.length : Int) = (s.length : Int)
   ·rw [if_neg (by simp; omega)] at h
    exact ⟨hl, by omega, fun j h0 => sing_l0 k s l 0 (Nat.zero_le _) hl h j h0 (Nat.zero_le _)⟩
   ·rw [if_pos (by simp; omega)] at h
    exact absurd h (by simp)
theorem syl_six {h : Int} {t : S25} {v : Int} (hv : impl_HexSyllable.f h t.f0 t.f1 = some v) (h0 : 0 ≤ v) : v < 6 := by
 unfold impl_HexSyllable.f at hv
 obtain ⟨b, _, hv⟩ := Option.bind_eq_some_iff.mp hv
 have e := Option.some.inj hv
 have := (sylOf_bd h.toNat t.f0 t.f1).2
 split at e
 ·split at e <;> omega
 ·omega
theorem singNames_snoc {l : List S25} {s : List Int} (hn : s.length = l.length) {i : Nat} (h0 : i < l.length) (h1 : i < s.length) {v : Int} (hv : impl_HexSyllable.f s[i] l[i].f0 l[i].f1 = some v) : (singNames l s).take (i + 1) = (singNames l s).take i ++ [nameOf v.toNat] := by
 have hl : i < (singNames l s).length := by unfold singNames; rw [List.length_zipWith]; omega
 rw [List.take_succ_eq_append_getElem hl]
 congr 1
 simp only [singNames, List.getElem_zipWith, sylV, hv, Option.getD_some]
theorem infoStr : (Tryd.prog.info? 9).map (fun i => (i.zero, i.size, i.bytes)) = some (some (.string ⟨#[]⟩), 1, 16) := by kernel_rfl
theorem tabS_at {w : World} (h : TabS w) (n : Nat) (hn : n < 6) : w.cell? ⟨0, n, none⟩ = some (.string (nameOf n)) := by
 have key : n = 0 ∨ n = 1 ∨ n = 2 ∨ n = 3 ∨ n = 4 ∨ n = 5 := by omega
 rcases key with rfl | rfl | rfl | rfl | rfl | rfl <;> exact h _ _ rfl
theorem singNames_len {l : List S25} {s : List Int} (hn : s.length = l.length) : (singNames l s).length = l.length := by
 unfold singNames
 rw [List.length_zipWith]
 omega
theorem lens_small : ∀ (xs : List (List UInt8)), (∀ x ∈ xs, x.length ≤ 3) → Lib.lens xs ≤ 3 * xs.length
 | [], _ => by simp [Lib.lens]
 | x :: xs, h => by
  have ih := lens_small xs (fun z hz => h z (List.mem_cons_of_mem _ hz))
  have := h x (List.mem_cons_self ..)
  simp only [Lib.lens, List.map_cons, List.sum_cons, List.length_cons] at ih ⊢
  omega
theorem join_len (xs : List (List UInt8)) (h : ∀ x ∈ xs, x.length ≤ 3) : (Lib.join xs [32]).length ≤ 4 * xs.length := by
 cases xs with
 | nil => simp [Lib.join_nil]
 | cons x r =>
  have h1 := h x (List.mem_cons_self ..)
  have h2 := lens_small r (fun z hz => h z (List.mem_cons_of_mem _ hz))
  rw [Lib.join_cons, List.length_append, Lib.joinTail_length, List.length_cons, List.length_cons, List.length_nil]
  omega
theorem names_small (l : List S25) (s : List Int) (hl : l.length ≤ 24) : (Lib.join ((singNames l s).map (·.data.toList)) [32]).length ≤ 140737488355328 := by
 have hm : ∀ b ∈ singNames l s, b.size ≤ 3 := by
  intro b hb
  unfold singNames at hb
  obtain ⟨i, hi, rfl⟩ := List.getElem_of_mem hb
  rw [List.getElem_zipWith]
  exact nameOf_size _
 have h := join_len ((singNames l s).map (·.data.toList)) (by
  intro x hx
  obtain ⟨b, hb, rfl⟩ := List.mem_map.1 hx
  exact hm b hb)
 rw [List.length_map] at h
 have : (singNames l s).length ≤ l.length := by unfold singNames; rw [List.length_zipWith]; omega
 omega
set_option maxHeartbeats 8000000 in
set_option maxRecDepth 100000 in
theorem singText_yes (n : Nat) (A0 : Option Addr) (c0 : Nat) (l0 : List S25) (A1 : Option Addr) (c1 : Nat) (l1 : List Int) (w : World) (hr0 : Kd.C k25 w A0 l0.length l0) (hc0 : l0.length ≤ c0) (hr1 : Kd.C (Kd.int .i64) w A1 l1.length l1) (hc1 : l1.length ≤ c1) (hTL : TabL w) (hTS : TabS w) (h : impl_SingOk.f n l0 l1 = some true) :
  Calls Tryd.prog 48 #[.slice A0 l0.length c0, .slice A1 l1.length c1] w fun e w' => e = .returned (.string (joinSp (singNames l0 l1))) ∧ Below w.heap.size w w' := by
 obtain ⟨hl, hn, hf⟩ := sing_facts h
 have hu2 := Tryd.underlying25
 have HR0 := am hr0
 have HC0 := am hc0
 have HR1 := am hr1
 have HC1 := am hc1
 have HTL := am hTL
 have HTS := am hTS
 have H := am h
 have HF := am hf
 have HN := am hn
 clear hr0 hc0 hr1 hc1 hTL hTS h hf hn
 go_enter Tryd.func48, Tryd.ntmps48
 go_wp2_with fail
 refine (impl_SingOk.calls n A0 c0 l0 A1 c1 l1 true _ HR0.out HC0.out HR1.out HC1.out HTL.out H.out).mono ?_
 rintro e w1 ⟨rfl, hb⟩
 have HB1 := am hb
 have HS1 := am hb.size
 clear hb
 go_wp2_with fail
 have HZ1 := am (blk_new w1 (.cells #[] 9))
 have HB2 := am (below_alloc HB1.out (.cells #[] 9))
 clear HB1
 go_loopg [5, 15] l0.length (fun kq v5 v15 w' => ∃ i : Nat, v15 = .int .i64 (i : Int) ∧ Aside0 (i ≤ l0.length ∧ kq = l0.length - i) ∧ Aside0 (Kd.R Kd.string 9 w' w.heap.size (fun _ => True) v5 ((singNames l0 l1).take i)) ∧ Aside0 (Below w.heap.size w w'))
 case atStart => exact ⟨0, rfl, ⟨by omega, by omega⟩, ⟨sx_empty _ _ _ trivial HZ1.out HS1.out⟩, HB2⟩
 case round =>
  obtain ⟨i, rfl, HI, HO, HB⟩ := hrel
  clear HZ1 HB2
  by_cases hlt : i < l0.length
  ·obtain ⟨h1i, v, hv, hv0⟩ := HF.out i hlt
   have HV6 := syl_six hv hv0
   obtain ⟨ad0, e1, hx0, hx1⟩ := at_T25 (Kd.C_below HR0.out HB.out) (i : Int) (by omega) (by omega)
   cases e1
   simp only [Int.toNat_natCast] at hx0 hx1
   rw [rdSg_at l0 i hlt] at hx0 hx1
   obtain ⟨ad1, rfl, hy⟩ := sx_ints (Kd.C_below HR1.out HB.out) rfl i h1i
   have HSN := am (singNames_snoc HN.out hlt h1i hv)
   obtain ⟨vn, rfl⟩ := Int.eq_ofNat_of_zero_le hv0
   have hvn : vn < 6 := by omega
   rw [Int.toNat_natCast] at HSN
   obtain ⟨t, ht⟩ : ∃ t, t = l0[i] := ⟨_, rfl⟩
   obtain ⟨h, hh⟩ : ∃ h, h = l1[i] := ⟨_, rfl⟩
   rw [← ht] at hx0 hx1 hv
   rw [← hh] at hy hv
   have hsy := tabS_at (TabAt.below HTS.out HB.out) vn hvn
   obtain ⟨nm, hnm⟩ : ∃ nm, nm = nameOf vn := ⟨_, rfl⟩
   rw [← hnm] at HSN hsy
   have HV := am hv
   have HY := am hy
   have HSY := am hsy
   have p0 : 0 ≤ (i : Int) := by omega
   have p1 : (i : Int) < (l0.length : Int) := by omega
   have p2 : (i : Int) < (l1.length : Int) := by omega
   have p3 : 0 ≤ (vn : Int) := by omega
   have p4 : (vn : Int) < 6 := by omega
   replace p0 := eq_true p0
   replace p1 := eq_true p1
   replace p2 := eq_true p2
   replace p3 := eq_true p3
   replace p4 := eq_true p4
   clear hv0 HV6 hvn ht hh hnm hv hy hsy h1i
   go_wp2_with fail
   have hx := below_drew1 (below_alloc (Below.refl wr.heap.size wr) (.cells #[.int .i64 t.f0, .bool t.f1] 25))
   have HX := am (below_drew1 (below_alloc HB.out (.cells #[.int .i64 t.f0, .bool t.f1] 25)))
   have HZ := am (blk_drew (blk_new wr (.cells #[.int .i64 t.f0, .bool t.f1] 25)))
   have HO2 := am (Kd.R_drew (Kd.R_alloc HO.out (.cells #[.int .i64 t.f0, .bool t.f1] 25)))
   refine start_ (n := 12) (S := fun w' => w'.cell? (ad1.add i) = some (.int .i64 h) ∧ w'.cell? ⟨wr.heap.size, 0, none⟩ = some (.int .i64 t.f0) ∧ w'.cell? ⟨wr.heap.size, 1, none⟩ = some (.bool t.f1) ∧ w'.cell? ⟨0, vn, none⟩ = some (.string nm)) (ds := [10]) #[F,F,F,F,F,F,F,F,F,F,F,F] (by kernel_rfl) rfl rfl ⟨pw_cell_below hx HY.out, blk_cell HZ.out 0, blk_cell HZ.out 1, pw_cell_below hx HSY.out⟩ (fun hHeld => ?_)
   generalize (wr.alloc (.cells #[.int .i64 t.f0, .bool t.f1] 25)).drew = wd at HX HZ HO2 hHeld hx ⊢
   refine pz 0 (some 20) #[T,F,F,F,F,F,F,F,F,F,F,F] (by kernel_rfl) (h := ?_)
   refine pz 1 (some 21) #[T,T,F,F,F,F,F,F,F,F,F,F] (by kernel_rfl) (h := ?_)
   refine pz 2 (some 22) #[T,T,T,F,F,F,F,F,F,F,F,F] (by kernel_rfl) (h := ?_)
   refine pz 3 (some 23) #[T,T,T,T,F,F,F,F,F,F,F,F] (by kernel_rfl) (h := ?_)
   refine tz hHeld 4 (some 24) #[T,T,T,T,T,F,F,F,F,F,F,F] (by kernel_rfl) (h := ?_)
   refine tz hHeld 5 (some 25) #[T,T,T,T,T,T,F,F,F,F,F,F] (by kernel_rfl) (h := ?_)
   have HTD : Aside0 (TabL wd) := ⟨TabAt.below HTL.out HX.out⟩
   refine one_ (i := 6) (N := some 26) #[T,T,T,T,T,T,T,F,F,F,F,F] rfl rfl (by kernel_rfl) (by decide) (fun K hK => ?_)
   refine goes_ Tryd.func24 (by kernel_rfl) rfl #[.int .i64 h, .agg #[.int .i64 t.f0, .bool t.f1]] (by rfl) rfl rfl (by (try simp only [List.map_toArray, List.map_cons, List.map_nil]); first | done | rfl) ?_
   with_reducible refine (impl_HexSyllable.calls h t.f0 t.f1 (vn : Int) _ HTD.out HV.out).mono ?_
   rintro e we ⟨rfl, hb⟩
   refine ⟨_, rfl, ?_⟩
   have HX' := am (below_step HX.out hb)
   have HO' := am (Kd.R_below HO2.out hb)
   have hb' := hb
   clear HX HZ hb HO2
   refine hK.out _ _ ⟨pw_cell_below hb' hHeld.1, pw_cell_below hb' hHeld.2.1, pw_cell_below hb' hHeld.2.2.1, pw_cell_below hb' hHeld.2.2.2⟩ (fun hHeld => ?_)
   clear hK K
   refine norm_ (a' := ?_) ?_ ?_
   rotate_left
   ·show Act.put _ (some 26) _ = _
    simp only [Act.put, sA, sZ, sS, i64_w, i32_w]
    rfl
   clear hb'
   refine pz 7 (some 27) #[T,T,T,T,T,T,T,T,F,F,F,F] (by kernel_rfl) (h := ?_)
   refine tz hHeld 8 (some 28) #[T,T,T,T,T,T,T,T,T,F,F,F] (by kernel_rfl) (h := ?_)
   refine one_ (i := 9) (N := some 29) #[T,T,T,T,T,T,T,T,T,T,F,F] rfl rfl (by kernel_rfl) (by decide) (fun K hK => ?_)
   refine value_ (w1 := ?_) (v := ?_) (by rfl) rfl ?_ ?_
   rotate_left 2
   ·go_simp
    constructor
    ·rfl
    ·rfl
   refine hK.out _ _ ⟨pw_cell_below (below_alloc (Below.refl _ _) _) hHeld.1, pw_cell_below (below_alloc (Below.refl _ _) _) hHeld.2.1, pw_cell_below (below_alloc (Below.refl _ _) _) hHeld.2.2.1, pw_cell_below (below_alloc (Below.refl _ _) _) hHeld.2.2.2⟩ (fun hHeld => ?_)
   clear hK K
   refine norm_ (a' := ?_) ?_ ?_
   rotate_left
   ·show Act.put _ (some 29) _ = _
    simp only [Act.put, sA, sZ, sS, i64_w, i32_w]
    rfl
   refine last_ (i := 10) (N := some 30) #[T,T,T,T,T,T,T,T,T,T,T,F] rfl rfl (by kernel_rfl) (by decide) (fun K hK => ?_)
   refine Kd.R_append_step Kd.string (w0 := w) w.heap.size (by rfl) (.tmp 20) (.tmp 29) 86 9 (.string ⟨#[]⟩) 16 rfl Tryd.underlying86 infoStr rfl (by decide) (by omega) u5 ((singNames l0 l1).take i) nm [.string nm] (fun _ => True) (fun _ => False) rfl rfl ?aP (fun _ hk => hk.elim) ?aF ?aO ?aB ?aS ?aL ?_
   (case aP => exact rfl)
   (case aB => exact HX'.out)
   (case aF => exact (fun _ _ => trivial))
   (case aO => exact HO'.out)
   (case aS => exact (below_size HX'.out))
   (case aL => rw [List.length_take]; omega)
   intro v1 w6 ho hb hg hat
   have HO6 := am ho
   have HB6 := am hb
   clear ho hb hg hat
   refine hK.out _ _ ?_
   clear hK K
   refine norm_ (a' := ?_) ?_ ?_
   rotate_left
   ·show Act.put _ (some 30) _ = _
    simp only [Act.put, sA, sZ, sS, i64_w, i32_w]
    rfl
   refine pz 11 (some 5) #[T,T,T,T,T,T,T,T,T,T,T,T] (by kernel_rfl) (h := ?_)
   refine done_ (by kernel_rfl) ?_
   clear hHeld hx HX' HO'
   go_wp2_with fail
   go_roundg (l0.length - (i + 1))
   case measure => have := HI.out; omega
   case rel => exact ⟨i + 1, by simp, ⟨by omega, rfl⟩, ⟨by rw [HSN.out]; exact HO6.out⟩, HB6⟩
  ·have ei : i = l0.length := by have := HI.out; omega
   subst ei
   have ho := HO.out
   rw [List.take_of_length_le (by rw [singNames_len HN.out]; exact Nat.le_refl _)] at ho
   by_cases hz : l0.length = 0
   ·obtain ⟨A5, c5, rfl⟩ := Kd.R_slice ho
    have e0 : (singNames l0 l1).length = 0 := by rw [singNames_len HN.out, hz]
    have e1 : singNames l0 l1 = [] := List.eq_nil_of_length_eq_zero e0
    have E1 := am e1
    rw [e0]
    clear ho e1
    go_wp2_with fail
    refine (Tryd.strings_Join_none A5 c5 ⟨#[32]⟩ _).mono ?_
    rintro e w9 ⟨rfl, rfl⟩
    go_wp2_with fail
    go_ret
    exact ⟨by rw [E1.out]; rfl, HB.out⟩
   ·obtain ⟨g5, c5, rfl, _, hg5, _⟩ := Kd.R_form ho (by rw [singNames_len HN.out]; omega)
    have HG9 := am hg5
    have HC9 := am (Kd.R_reads' ho)
    clear ho hg5
    go_wp2_with fail
    refine (Tryd.strings_Join g5 0 c5 (singNames l0 l1) ⟨#[32]⟩ _ (fun j x hx => sx_strs HC9.out.2.2 rfl j x hx) HG9.out (by rw [singNames_len HN.out]; omega) HC9.out.2.1 (names_small l0 l1 hl)).mono ?_
    rintro e w9 ⟨rfl, hb9⟩
    have HB9 := am (below_step HB.out hb9)
    clear hb9
    go_wp2_with fail
    go_ret
    exact ⟨rfl, HB9.out⟩
theorem impl_SingText.calls (n : Nat) (A0 : Option Addr) (c0 : Nat) (l0 : List S25) (A1 : Option Addr) (c1 : Nat) (l1 : List Int) (r : ByteArray) (w : World) (hr0 : Kd.C k25 w A0 l0.length l0) (hc0 : l0.length ≤ c0) (hr1 : Kd.C (Kd.int .i64) w A1 l1.length l1) (hc1 : l1.length ≤ c1) (hTL : TabL w) (hTS : TabS w) (h : impl_SingText.f n l0 l1 = some r) :
  Calls Tryd.prog 48 #[.slice A0 l0.length c0, .slice A1 l1.length c1] w fun e w' => e = .returned (.string r) ∧ Below w.heap.size w w' := by
 unfold impl_SingText.f at h
 obtain ⟨b, hb, h⟩ := Option.bind_eq_some_iff.mp h
 have h := Option.some.inj h
 cases b with
 | true =>
  rw [if_pos rfl] at h
  rw [← h]
  exact singText_yes n A0 c0 l0 A1 c1 l1 w hr0 hc0 hr1 hc1 hTL hTS hb
 | false =>
  rw [if_neg (by decide)] at h
  rw [← h]
  clear h
  have HR0 := am hr0
  have HC0 := am hc0
  have HR1 := am hr1
  have HC1 := am hc1
  have HTL := am hTL
  have H := am hb
  clear hr0 hc0 hr1 hc1 hTL hTS hb
  go_enter Tryd.func48, Tryd.ntmps48
  go_wp2_with fail
  refine (impl_SingOk.calls n A0 c0 l0 A1 c1 l1 false _ HR0.out HC0.out HR1.out HC1.out HTL.out H.out).mono ?_
  rintro e w1 ⟨rfl, hb⟩
  have HB1 := am hb
  clear hb
  go_wp2_with fail
  go_ret
  exact ⟨rfl, HB1.out⟩


/-! ### laws_FnExactSingText: function 14 -/
def laws_FnExactSingText.f (k : Nat) (l0 : List (S30)) (l1 : List Int) : Option (Bool) := if (l1.length : Int) > 1048576 then (some true) else ((laws_szToneS.f l0 1048576).bind fun t168 => (if t168 < 0 then (some true) else ((laws_toToneS.f k l0).bind fun t169 => ((laws_toIntS.f k l1).bind fun t172 => ((spec_SingText.f k t169 t172).bind fun t175 => ((laws_toToneS.f k l0).bind fun t176 => ((laws_toIntS.f k l1).bind fun t179 => ((impl_SingText.f k t176 t179).bind fun t182 => (if t182.toList = t175.toList then ((laws_toToneS.f k l0).bind fun t183 => ((laws_eqToneS.f k t176 t183).bind fun t186 => (if t186 = true then ((laws_toIntS.f k l1).bind fun t187 => ((laws_eqIntS.f k t179 t187).bind fun t190 => (if t190 = true then (some true) else (some false)))) else (some false)))) else (some false))))))))))
set_option maxHeartbeats 8000000 in
set_option maxRecDepth 100000 in
theorem laws_FnExactSingText.calls (k : Nat) (A0 : Option Addr) (c0 : Nat) (l0 : List (S30)) (A1 : Option Addr) (c1 : Nat) (l1 : List Int) (r : Bool) (w : World) (hr0 : Kd.C k30 w A0 l0.length l0) (hc0 : l0.length ≤ c0) (hr1 : Kd.C (Kd.int .i64) w A1 l1.length l1) (hc1 : l1.length ≤ c1) (hTL : TabL w) (hTS : TabS w) (h : laws_FnExactSingText.f k l0 l1 = some r) :
  Calls Tryd.prog 14 #[.slice A0 l0.length c0, .slice A1 l1.length c1] w fun e w' => e = .returned (.bool r) ∧ Below w.heap.size w w' := by
 have HTL := am hTL
 clear hTL
 have HTS := am hTS
 clear hTS
 have HR0 := am hr0
 have HC0 := am hc0
 clear hr0 hc0
 have HR1 := am hr1
 have HC1 := am hc1
 clear hr1 hc1
 have HB := am (Below.refl w.heap.size w)
 have H : (if (l1.length : Int) > 1048576 then (some true) else ((laws_szToneS.f l0 1048576).bind fun t168 => (if t168 < 0 then (some true) else ((laws_toToneS.f k l0).bind fun t169 => ((laws_toIntS.f k l1).bind fun t172 => ((spec_SingText.f k t169 t172).bind fun t175 => ((laws_toToneS.f k l0).bind fun t176 => ((laws_toIntS.f k l1).bind fun t179 => ((impl_SingText.f k t176 t179).bind fun t182 => (if t182.toList = t175.toList then ((laws_toToneS.f k l0).bind fun t183 => ((laws_eqToneS.f k t176 t183).bind fun t186 => (if t186 = true then ((laws_toIntS.f k l1).bind fun t187 => ((laws_eqIntS.f k t179 t187).bind fun t190 => (if t190 = true then (some true) else (some false)))) else (some false)))) else (some false))))))))))) = some r := h
 clear h
 by_cases c3 : (l1.length : Int) > 1048576
 ·rw [if_pos c3] at H
  have c3b0 : decide (1048576 < (l1.length : Int)) = true := decide_eq_true c3
  have c3b1 : decide (1048576 < l1.length) = true := decide_eq_true (by omega)
  clear c3
  obtain rfl := Option.some.inj H
  go_enter Tryd.func14, Tryd.ntmps14
  go_wp2
  go_ret
  exact ⟨by first | rfl | (simp [errW_none, errW_some] <;> rfl) | (simp [*, errW_none, errW_some] <;> rfl), bu HB.out⟩
 ·rw [if_neg c3] at H
  have c3b0 : decide (1048576 < (l1.length : Int)) = false := decide_eq_false c3
  have c3b1 : decide (1048576 < l1.length) = false := decide_eq_false (by omega)
  clear c3
  replace H := Option.bind_eq_some_iff.mp H
  obtain ⟨t168, A40, H⟩ := H
  replace H : (if t168 < 0 then (some true) else ((laws_toToneS.f k l0).bind fun t169 => ((laws_toIntS.f k l1).bind fun t172 => ((spec_SingText.f k t169 t172).bind fun t175 => ((laws_toToneS.f k l0).bind fun t176 => ((laws_toIntS.f k l1).bind fun t179 => ((impl_SingText.f k t176 t179).bind fun t182 => (if t182.toList = t175.toList then ((laws_toToneS.f k l0).bind fun t183 => ((laws_eqToneS.f k t176 t183).bind fun t186 => (if t186 = true then ((laws_toIntS.f k l1).bind fun t187 => ((laws_eqIntS.f k t179 t187).bind fun t190 => (if t190 = true then (some true) else (some false)))) else (some false)))) else (some false))))))))) = some r := H
  have A4 := am A40
  clear A40
  by_cases c5 : t168 < 0
  ·rw [if_pos c5] at H
   have c5b0 : decide (t168 < 0) = true := decide_eq_true c5
   clear c5
   obtain rfl := Option.some.inj H
   go_enter Tryd.func14, Tryd.ntmps14
   go_wp2_with (first | ((with_reducible refine gate_callee (f := 37) rfl ?_); refine goesL_ (some 15) rfl rfl Tryd.func37 (by kernel_rfl) rfl #[.slice A0 l0.length c0, .int .i64 1048576] rfl (by (try simp only [List.map_toArray, List.map_cons, List.map_nil]); first | done | rfl | (simp only [List.length_drop, List.length_take]; rfl)) ?_; (with_reducible refine (laws_szToneS.calls _ _ l0 1048576 t168 _ ?side1 ?side2 A4.out).mono ?_); (case side1 => exact cu HR0.out); (case side2 => exact HC0.out); rintro e w' ⟨rfl, ⟨nd, rfl⟩⟩; refine ⟨_, rfl, ?_⟩))
   go_ret
   exact ⟨by first | rfl | (simp [errW_none, errW_some] <;> rfl) | (simp [*, errW_none, errW_some] <;> rfl), bu HB.out⟩
  ·rw [if_neg c5] at H
   have c5b0 : decide (t168 < 0) = false := decide_eq_false c5
   clear c5
   replace H := Option.bind_eq_some_iff.mp H
   obtain ⟨t169, A60, H⟩ := H
   replace H : ((laws_toIntS.f k l1).bind fun t172 => ((spec_SingText.f k t169 t172).bind fun t175 => ((laws_toToneS.f k l0).bind fun t176 => ((laws_toIntS.f k l1).bind fun t179 => ((impl_SingText.f k t176 t179).bind fun t182 => (if t182.toList = t175.toList then ((laws_toToneS.f k l0).bind fun t183 => ((laws_eqToneS.f k t176 t183).bind fun t186 => (if t186 = true then ((laws_toIntS.f k l1).bind fun t187 => ((laws_eqIntS.f k t179 t187).bind fun t190 => (if t190 = true then (some true) else (some false)))) else (some false)))) else (some false))))))) = some r := H
   have A6 := am A60
   clear A60
   replace H := Option.bind_eq_some_iff.mp H
   obtain ⟨t172, A70, H⟩ := H
   replace H : ((spec_SingText.f k t169 t172).bind fun t175 => ((laws_toToneS.f k l0).bind fun t176 => ((laws_toIntS.f k l1).bind fun t179 => ((impl_SingText.f k t176 t179).bind fun t182 => (if t182.toList = t175.toList then ((laws_toToneS.f k l0).bind fun t183 => ((laws_eqToneS.f k t176 t183).bind fun t186 => (if t186 = true then ((laws_toIntS.f k l1).bind fun t187 => ((laws_eqIntS.f k t179 t187).bind fun t190 => (if t190 = true then (some true) else (some false)))) else (some false)))) else (some false)))))) = some r := H
   have A7 := am A70
   clear A70
   replace H := Option.bind_eq_some_iff.mp H
   obtain ⟨t175, A80, H⟩ := H
   replace H : ((laws_toToneS.f k l0).bind fun t176 => ((laws_toIntS.f k l1).bind fun t179 => ((impl_SingText.f k t176 t179).bind fun t182 => (if t182.toList = t175.toList then ((laws_toToneS.f k l0).bind fun t183 => ((laws_eqToneS.f k t176 t183).bind fun t186 => (if t186 = true then ((laws_toIntS.f k l1).bind fun t187 => ((laws_eqIntS.f k t179 t187).bind fun t190 => (if t190 = true then (some true) else (some false)))) else (some false)))) else (some false))))) = some r := H
   have A8 := am A80
   clear A80
   replace H := Option.bind_eq_some_iff.mp H
   obtain ⟨t176, A90, H⟩ := H
   replace H : ((laws_toIntS.f k l1).bind fun t179 => ((impl_SingText.f k t176 t179).bind fun t182 => (if t182.toList = t175.toList then ((laws_toToneS.f k l0).bind fun t183 => ((laws_eqToneS.f k t176 t183).bind fun t186 => (if t186 = true then ((laws_toIntS.f k l1).bind fun t187 => ((laws_eqIntS.f k t179 t187).bind fun t190 => (if t190 = true then (some true) else (some false)))) else (some false)))) else (some false)))) = some r := H
   have A9 := am A90
   clear A90
   replace H := Option.bind_eq_some_iff.mp H
   obtain ⟨t179, A100, H⟩ := H
   replace H : ((impl_SingText.f k t176 t179).bind fun t182 => (if t182.toList = t175.toList then ((laws_toToneS.f k l0).bind fun t183 => ((laws_eqToneS.f k t176 t183).bind fun t186 => (if t186 = true then ((laws_toIntS.f k l1).bind fun t187 => ((laws_eqIntS.f k t179 t187).bind fun t190 => (if t190 = true then (some true) else (some false)))) else (some false)))) else (some false))) = some r := H
   have A10 := am A100
   clear A100
   replace H := Option.bind_eq_some_iff.mp H
   obtain ⟨t182, A110, H⟩ := H
   replace H : (if t182.toList = t175.toList then ((laws_toToneS.f k l0).bind fun t183 => ((laws_eqToneS.f k t176 t183).bind fun t186 => (if t186 = true then ((laws_toIntS.f k l1).bind fun t187 => ((laws_eqIntS.f k t179 t187).bind fun t190 => (if t190 = true then (some true) else (some false)))) else (some false)))) else (some false)) = some r := H
   have A11 := am A110
   clear A110
   by_cases c12 : t182.toList = t175.toList
   ·rw [if_pos c12] at H
    have c12b0 : (t182.toList == t175.toList) = true := beq_iff_eq.mpr c12
    have c12b1 : (t182.toList != t175.toList) = false := bne_eq_false_iff_eq.mpr c12
    clear c12
    replace H := Option.bind_eq_some_iff.mp H
    obtain ⟨t183, A130, H⟩ := H
    replace H : ((laws_eqToneS.f k t176 t183).bind fun t186 => (if t186 = true then ((laws_toIntS.f k l1).bind fun t187 => ((laws_eqIntS.f k t179 t187).bind fun t190 => (if t190 = true then (some true) else (some false)))) else (some false))) = some r := H
    have A13 := am A130
    clear A130
    replace H := Option.bind_eq_some_iff.mp H
    obtain ⟨t186, A140, H⟩ := H
    replace H : (if t186 = true then ((laws_toIntS.f k l1).bind fun t187 => ((laws_eqIntS.f k t179 t187).bind fun t190 => (if t190 = true then (some true) else (some false)))) else (some false)) = some r := H
    have A14 := am A140
    clear A140
    by_cases c15 : t186 = true
    ·subst c15
     have H1 : ((laws_toIntS.f k l1).bind fun t187 => ((laws_eqIntS.f k t179 t187).bind fun t190 => (if t190 = true then (some true) else (some false)))) = some r := by rw [if_pos rfl] at H; exact H
     clear H
     have H := H1
     clear H1
     replace H := Option.bind_eq_some_iff.mp H
     obtain ⟨t187, A160, H⟩ := H
     replace H : ((laws_eqIntS.f k t179 t187).bind fun t190 => (if t190 = true then (some true) else (some false))) = some r := H
     have A16 := am A160
     clear A160
     replace H := Option.bind_eq_some_iff.mp H
     obtain ⟨t190, A170, H⟩ := H
     replace H : (if t190 = true then (some true) else (some false)) = some r := H
     have A17 := am A170
     clear A170
     by_cases c18 : t190 = true
     ·subst c18
      have H1 : (some true) = some r := by rw [if_pos rfl] at H; exact H
      clear H
      have H := H1
      clear H1
      obtain rfl := Option.some.inj H
      go_enter Tryd.func14, Tryd.ntmps14
      go_wp2_with (first | ((with_reducible refine gate_callee (f := 37) rfl ?_); refine goesL_ (some 15) rfl rfl Tryd.func37 (by kernel_rfl) rfl #[.slice A0 l0.length c0, .int .i64 1048576] rfl (by (try simp only [List.map_toArray, List.map_cons, List.map_nil]); first | done | rfl | (simp only [List.length_drop, List.length_take]; rfl)) ?_; (with_reducible refine (laws_szToneS.calls _ _ l0 1048576 t168 _ ?side1 ?side2 A4.out).mono ?_); (case side1 => exact cu HR0.out); (case side2 => exact HC0.out); rintro e w' ⟨rfl, ⟨nd, rfl⟩⟩; refine ⟨_, rfl, ?_⟩) | ((with_reducible refine gate_callee (f := 39) rfl ?_); refine goesL_ (some 19) rfl rfl Tryd.func39 (by kernel_rfl) rfl #[.slice A0 l0.length c0] rfl (by (try simp only [List.map_toArray, List.map_cons, List.map_nil]); first | done | rfl | (simp only [List.length_drop, List.length_take]; rfl)) ?_; (with_reducible refine (laws_toToneS.calls k _ _ l0 t169 _ ?side1 ?side2 A6.out).mono ?_); (case side1 => exact cu HR0.out); (case side2 => exact HC0.out); rintro e w19 ⟨v170, rfl, ho0, hb⟩; refine ⟨_, rfl, ?_⟩; have n0_ := am (Kd.R_lower ho0 (below_size (bu HB.out))); have n1_ := am (below_step (bu HB.out) hb); clear HB; have HO171 := n0_; have HB := n1_; clear n0_ n1_; (try clear hb); (try clear hb2); (try clear hk); (try clear hi); (try clear ho0)) | ((with_reducible refine gate_callee (f := 40) rfl ?_); refine goesL_ (some 21) rfl rfl Tryd.func40 (by kernel_rfl) rfl #[.slice A1 l1.length c1] rfl (by (try simp only [List.map_toArray, List.map_cons, List.map_nil]); first | done | rfl | (simp only [List.length_drop, List.length_take]; rfl)) ?_; (with_reducible refine (laws_toIntS.calls k _ _ l1 t172 _ ?side1 ?side2 A7.out).mono ?_); (case side1 => repeat (first | exact (Kd.C_below HR1.out HB.out) | (with_reducible refine Kd.C_alloc ?_ _) | (with_reducible refine Kd.C_drewN ?_ _) | (with_reducible refine Kd.C_drew ?_))); (case side2 => exact HC1.out); rintro e w20 ⟨v173, rfl, ho0, hb⟩; refine ⟨_, rfl, ?_⟩; have n0_ := am (Kd.R_below (ru HO171.out) hb); have n1_ := am (Kd.R_lower ho0 (below_size (bu HB.out))); have n2_ := am (below_step (bu HB.out) hb); clear HO171; clear HB; have HO171 := n0_; have HO174 := n1_; have HB := n2_; clear n0_ n1_ n2_; (try clear hb); (try clear hb2); (try clear hk); (try clear hi); (try clear ho0); obtain ⟨Ao21, co21, eo21⟩ := Kd.R_slice HO171.out; subst eo21; obtain ⟨Ao22, co22, eo22⟩ := Kd.R_slice HO174.out; subst eo22) | ((with_reducible refine gate_callee (f := 47) rfl ?_); refine goesL_ (some 22) rfl rfl Tryd.func47 (by kernel_rfl) rfl #[.slice Ao21 t169.length co21, .slice Ao22 t172.length co22] rfl (by (try simp only [List.map_toArray, List.map_cons, List.map_nil]); first | done | rfl | (simp only [List.length_drop, List.length_take]; rfl)) ?_; (with_reducible refine (spec_SingText.calls k _ _ t169 _ _ t172 t175 _ ?side1 ?side2 ?side3 ?side4 A8.out).mono ?_); (case side1 => exact cu (Kd.R_reads' HO171.out).2.2); (case side2 => exact (Kd.R_reads' HO171.out).2.1); (case side3 => exact cu (Kd.R_reads' HO174.out).2.2); (case side4 => exact (Kd.R_reads' HO174.out).2.1); rintro e w23 ⟨rfl, hb⟩; refine ⟨_, rfl, ?_⟩; have n0_ := am (Kd.R_below (ru HO171.out) hb); have n1_ := am (Kd.R_below (ru HO174.out) hb); have n2_ := am (below_step (bu HB.out) hb); clear HO171; clear HO174; clear HB; have HO171 := n0_; have HO174 := n1_; have HB := n2_; clear n0_ n1_ n2_; (try clear hb); (try clear hb2); (try clear hk); (try clear hi)) | ((with_reducible refine gate_callee (f := 39) rfl ?_); refine goesL_ (some 24) rfl rfl Tryd.func39 (by kernel_rfl) rfl #[.slice A0 l0.length c0] rfl (by (try simp only [List.map_toArray, List.map_cons, List.map_nil]); first | done | rfl | (simp only [List.length_drop, List.length_take]; rfl)) ?_; (with_reducible refine (laws_toToneS.calls k _ _ l0 t176 _ ?side1 ?side2 A9.out).mono ?_); (case side1 => repeat (first | exact (Kd.C_below HR0.out HB.out) | (with_reducible refine Kd.C_alloc ?_ _) | (with_reducible refine Kd.C_drewN ?_ _) | (with_reducible refine Kd.C_drew ?_))); (case side2 => exact HC0.out); rintro e w24 ⟨v177, rfl, ho0, hb⟩; refine ⟨_, rfl, ?_⟩; have n0_ := am (Kd.R_elder' (ru HO171.out) (Kd.R_base ho0) hb); have n1_ := am (Kd.R_below (ru HO174.out) hb); have n2_ := am (Kd.R_lower (Kd.R_new' ho0 (Kd.R_lt (ru HO171.out))) (below_size (bu HB.out))); have n3_ := am (below_step (bu HB.out) hb); clear HO171; clear HO174; clear HB; have HO171 := n0_; have HO174 := n1_; have HO178 := n2_; have HB := n3_; clear n0_ n1_ n2_ n3_; (try clear hb); (try clear hb2); (try clear hk); (try clear hi); (try clear ho0)) | ((with_reducible refine gate_callee (f := 40) rfl ?_); refine goesL_ (some 26) rfl rfl Tryd.func40 (by kernel_rfl) rfl #[.slice A1 l1.length c1] rfl (by (try simp only [List.map_toArray, List.map_cons, List.map_nil]); first | done | rfl | (simp only [List.length_drop, List.length_take]; rfl)) ?_; (with_reducible refine (laws_toIntS.calls k _ _ l1 t179 _ ?side1 ?side2 A10.out).mono ?_); (case side1 => repeat (first | exact (Kd.C_below HR1.out HB.out) | (with_reducible refine Kd.C_alloc ?_ _) | (with_reducible refine Kd.C_drewN ?_ _) | (with_reducible refine Kd.C_drew ?_))); (case side2 => exact HC1.out); rintro e w25 ⟨v180, rfl, ho0, hb⟩; refine ⟨_, rfl, ?_⟩; have n0_ := am (Kd.R_below (ru HO171.out) hb); have n1_ := am (Kd.R_elder' (ru HO174.out) (Kd.R_base ho0) hb); have n2_ := am (Kd.R_below (ru HO178.out) hb); have n3_ := am (Kd.R_lower (Kd.R_new' ho0 (Kd.R_lt (ru HO174.out))) (below_size (bu HB.out))); have n4_ := am (below_step (bu HB.out) hb); clear HO171; clear HO174; clear HO178; clear HB; have HO171 := n0_; have HO174 := n1_; have HO178 := n2_; have HO181 := n3_; have HB := n4_; clear n0_ n1_ n2_ n3_ n4_; (try clear hb); (try clear hb2); (try clear hk); (try clear hi); (try clear ho0); obtain ⟨Ao26, co26, eo26⟩ := Kd.R_slice HO178.out; subst eo26; obtain ⟨Ao27, co27, eo27⟩ := Kd.R_slice HO181.out; subst eo27) | ((with_reducible refine gate_callee (f := 48) rfl ?_); refine goesL_ (some 29) rfl rfl Tryd.func48 (by kernel_rfl) rfl #[.slice Ao26 t176.length co26, .slice Ao27 t179.length co27] rfl (by (try simp only [List.map_toArray, List.map_cons, List.map_nil]); first | done | rfl | (simp only [List.length_drop, List.length_take]; rfl)) ?_; (with_reducible refine (impl_SingText.calls k _ _ t176 _ _ t179 t182 _ ?side1 ?side2 ?side3 ?side4 ?side5 ?side6 A11.out).mono ?_); (case side1 => exact cu (Kd.R_reads' HO178.out).2.2); (case side2 => exact (Kd.R_reads' HO178.out).2.1); (case side3 => exact cu (Kd.R_reads' HO181.out).2.2); (case side4 => exact (Kd.R_reads' HO181.out).2.1); (case side5 => first | exact HTL.out | exact TabAt.below HTL.out (bu HB.out)); (case side6 => first | exact HTS.out | exact TabAt.below HTS.out (bu HB.out)); rintro e w28 ⟨rfl, hb⟩; refine ⟨_, rfl, ?_⟩; have n0_ := am (Kd.R_below (ru HO171.out) hb); have n1_ := am (Kd.R_below (ru HO174.out) hb); have n2_ := am (Kd.R_below (ru HO178.out) hb); have n3_ := am (Kd.R_below (ru HO181.out) hb); have n4_ := am (below_step (bu HB.out) hb); clear HO171; clear HO174; clear HO178; clear HO181; clear HB; have HO171 := n0_; have HO174 := n1_; have HO178 := n2_; have HO181 := n3_; have HB := n4_; clear n0_ n1_ n2_ n3_ n4_; (try clear hb); (try clear hb2); (try clear hk); (try clear hi)) | ((with_reducible refine gate_callee (f := 39) rfl ?_); refine goesL_ (some 35) rfl rfl Tryd.func39 (by kernel_rfl) rfl #[.slice A0 l0.length c0] rfl (by (try simp only [List.map_toArray, List.map_cons, List.map_nil]); first | done | rfl | (simp only [List.length_drop, List.length_take]; rfl)) ?_; (with_reducible refine (laws_toToneS.calls k _ _ l0 t183 _ ?side1 ?side2 A13.out).mono ?_); (case side1 => repeat (first | exact (Kd.C_below HR0.out HB.out) | (with_reducible refine Kd.C_alloc ?_ _) | (with_reducible refine Kd.C_drewN ?_ _) | (with_reducible refine Kd.C_drew ?_))); (case side2 => exact HC0.out); rintro e w29 ⟨v184, rfl, ho0, hb⟩; refine ⟨_, rfl, ?_⟩; have n0_ := am (Kd.R_elder' (ru HO171.out) (Kd.R_base ho0) hb); have n1_ := am (Kd.R_below (ru HO174.out) hb); have n2_ := am (Kd.R_elder' (ru HO178.out) (Kd.R_base ho0) hb); have n3_ := am (Kd.R_below (ru HO181.out) hb); have n4_ := am (Kd.R_lower (Kd.R_new' (Kd.R_new' ho0 (Kd.R_lt (ru HO171.out))) (Kd.R_lt (ru HO178.out))) (below_size (bu HB.out))); have n5_ := am (below_step (bu HB.out) hb); clear HO171; clear HO174; clear HO178; clear HO181; clear HB; have HO171 := n0_; have HO174 := n1_; have HO178 := n2_; have HO181 := n3_; have HO185 := n4_; have HB := n5_; clear n0_ n1_ n2_ n3_ n4_ n5_; (try clear hb); (try clear hb2); (try clear hk); (try clear hi); (try clear ho0); obtain ⟨Ao30, co30, eo30⟩ := Kd.R_slice HO185.out; subst eo30) | ((with_reducible refine gate_callee (f := 42) rfl ?_); refine goesL_ (some 36) rfl rfl Tryd.func42 (by kernel_rfl) rfl #[.slice Ao26 t176.length co26, .slice Ao30 t183.length co30] rfl (by (try simp only [List.map_toArray, List.map_cons, List.map_nil]); first | done | rfl | (simp only [List.length_drop, List.length_take]; rfl)) ?_; (with_reducible refine (laws_eqToneS.calls k _ _ t176 _ _ t183 true _ ?side1 ?side2 ?side3 ?side4 A14.out).mono ?_); (case side1 => exact cu (Kd.R_reads' HO178.out).2.2); (case side2 => exact (Kd.R_reads' HO178.out).2.1); (case side3 => exact cu (Kd.R_reads' HO185.out).2.2); (case side4 => exact (Kd.R_reads' HO185.out).2.1); rintro e w31 ⟨rfl, hb⟩; refine ⟨_, rfl, ?_⟩; have n0_ := am (Kd.R_below (ru HO171.out) hb); have n1_ := am (Kd.R_below (ru HO174.out) hb); have n2_ := am (Kd.R_below (ru HO178.out) hb); have n3_ := am (Kd.R_below (ru HO181.out) hb); have n4_ := am (Kd.R_below (ru HO185.out) hb); have n5_ := am (below_step (bu HB.out) hb); clear HO171; clear HO174; clear HO178; clear HO181; clear HO185; clear HB; have HO171 := n0_; have HO174 := n1_; have HO178 := n2_; have HO181 := n3_; have HO185 := n4_; have HB := n5_; clear n0_ n1_ n2_ n3_ n4_ n5_; (try clear hb); (try clear hb2); (try clear hk); (try clear hi)) | ((with_reducible refine gate_callee (f := 40) rfl ?_); refine goesL_ (some 40) rfl rfl Tryd.func40 (by kernel_rfl) rfl #[.slice A1 l1.length c1] rfl (by (try simp only [List.map_toArray, List.map_cons, List.map_nil]); first | done | rfl | (simp only [List.length_drop, List.length_take]; rfl)) ?_; (with_reducible refine (laws_toIntS.calls k _ _ l1 t187 _ ?side1 ?side2 A16.out).mono ?_); (case side1 => repeat (first | exact (Kd.C_below HR1.out HB.out) | (with_reducible refine Kd.C_alloc ?_ _) | (with_reducible refine Kd.C_drewN ?_ _) | (with_reducible refine Kd.C_drew ?_))); (case side2 => exact HC1.out); rintro e w32 ⟨v188, rfl, ho0, hb⟩; refine ⟨_, rfl, ?_⟩; have n0_ := am (Kd.R_below (ru HO171.out) hb); have n1_ := am (Kd.R_elder' (ru HO174.out) (Kd.R_base ho0) hb); have n2_ := am (Kd.R_below (ru HO178.out) hb); have n3_ := am (Kd.R_elder' (ru HO181.out) (Kd.R_base ho0) hb); have n4_ := am (Kd.R_below (ru HO185.out) hb); have n5_ := am (Kd.R_lower (Kd.R_new' (Kd.R_new' ho0 (Kd.R_lt (ru HO174.out))) (Kd.R_lt (ru HO181.out))) (below_size (bu HB.out))); have n6_ := am (below_step (bu HB.out) hb); clear HO171; clear HO174; clear HO178; clear HO181; clear HO185; clear HB; have HO171 := n0_; have HO174 := n1_; have HO178 := n2_; have HO181 := n3_; have HO185 := n4_; have HO189 := n5_; have HB := n6_; clear n0_ n1_ n2_ n3_ n4_ n5_ n6_; (try clear hb); (try clear hb2); (try clear hk); (try clear hi); (try clear ho0); obtain ⟨Ao33, co33, eo33⟩ := Kd.R_slice HO189.out; subst eo33) | ((with_reducible refine gate_callee (f := 43) rfl ?_); refine goesL_ (some 41) rfl rfl Tryd.func43 (by kernel_rfl) rfl #[.slice Ao27 t179.length co27, .slice Ao33 t187.length co33] rfl (by (try simp only [List.map_toArray, List.map_cons, List.map_nil]); first | done | rfl | (simp only [List.length_drop, List.length_take]; rfl)) ?_; (with_reducible refine (laws_eqIntS.calls k _ _ t179 _ _ t187 true _ ?side1 ?side2 ?side3 ?side4 A17.out).mono ?_); (case side1 => exact cu (Kd.R_reads' HO181.out).2.2); (case side2 => exact (Kd.R_reads' HO181.out).2.1); (case side3 => exact cu (Kd.R_reads' HO189.out).2.2); (case side4 => exact (Kd.R_reads' HO189.out).2.1); rintro e w' ⟨rfl, ⟨nd, rfl⟩⟩; refine ⟨_, rfl, ?_⟩))
      go_ret
      exact ⟨by first | rfl | (simp [errW_none, errW_some] <;> rfl) | (simp [*, errW_none, errW_some] <;> rfl), bu HB.out⟩
     ·replace c18 := Bool.eq_false_iff.mpr c18
      subst c18
      have H1 : (some false) = some r := by rw [if_neg (show ¬ (false = true) by decide)] at H; exact H
      clear H
      have H := H1
      clear H1
      obtain rfl := Option.some.inj H
      go_enter Tryd.func14, Tryd.ntmps14
      go_wp2_with (first | ((with_reducible refine gate_callee (f := 37) rfl ?_); refine goesL_ (some 15) rfl rfl Tryd.func37 (by kernel_rfl) rfl #[.slice A0 l0.length c0, .int .i64 1048576] rfl (by (try simp only [List.map_toArray, List.map_cons, List.map_nil]); first | done | rfl | (simp only [List.length_drop, List.length_take]; rfl)) ?_; (with_reducible refine (laws_szToneS.calls _ _ l0 1048576 t168 _ ?side1 ?side2 A4.out).mono ?_); (case side1 => exact cu HR0.out); (case side2 => exact HC0.out); rintro e w' ⟨rfl, ⟨nd, rfl⟩⟩; refine ⟨_, rfl, ?_⟩) | ((with_reducible refine gate_callee (f := 39) rfl ?_); refine goesL_ (some 19) rfl rfl Tryd.func39 (by kernel_rfl) rfl #[.slice A0 l0.length c0] rfl (by (try simp only [List.map_toArray, List.map_cons, List.map_nil]); first | done | rfl | (simp only [List.length_drop, List.length_take]; rfl)) ?_; (with_reducible refine (laws_toToneS.calls k _ _ l0 t169 _ ?side1 ?side2 A6.out).mono ?_); (case side1 => exact cu HR0.out); (case side2 => exact HC0.out); rintro e w34 ⟨v170, rfl, ho0, hb⟩; refine ⟨_, rfl, ?_⟩; have n0_ := am (Kd.R_lower ho0 (below_size (bu HB.out))); have n1_ := am (below_step (bu HB.out) hb); clear HB; have HO171 := n0_; have HB := n1_; clear n0_ n1_; (try clear hb); (try clear hb2); (try clear hk); (try clear hi); (try clear ho0)) | ((with_reducible refine gate_callee (f := 40) rfl ?_); refine goesL_ (some 21) rfl rfl Tryd.func40 (by kernel_rfl) rfl #[.slice A1 l1.length c1] rfl (by (try simp only [List.map_toArray, List.map_cons, List.map_nil]); first | done | rfl | (simp only [List.length_drop, List.length_take]; rfl)) ?_; (with_reducible refine (laws_toIntS.calls k _ _ l1 t172 _ ?side1 ?side2 A7.out).mono ?_); (case side1 => repeat (first | exact (Kd.C_below HR1.out HB.out) | (with_reducible refine Kd.C_alloc ?_ _) | (with_reducible refine Kd.C_drewN ?_ _) | (with_reducible refine Kd.C_drew ?_))); (case side2 => exact HC1.out); rintro e w35 ⟨v173, rfl, ho0, hb⟩; refine ⟨_, rfl, ?_⟩; have n0_ := am (Kd.R_below (ru HO171.out) hb); have n1_ := am (Kd.R_lower ho0 (below_size (bu HB.out))); have n2_ := am (below_step (bu HB.out) hb); clear HO171; clear HB; have HO171 := n0_; have HO174 := n1_; have HB := n2_; clear n0_ n1_ n2_; (try clear hb); (try clear hb2); (try clear hk); (try clear hi); (try clear ho0); obtain ⟨Ao36, co36, eo36⟩ := Kd.R_slice HO171.out; subst eo36; obtain ⟨Ao37, co37, eo37⟩ := Kd.R_slice HO174.out; subst eo37) | ((with_reducible refine gate_callee (f := 47) rfl ?_); refine goesL_ (some 22) rfl rfl Tryd.func47 (by kernel_rfl) rfl #[.slice Ao36 t169.length co36, .slice Ao37 t172.length co37] rfl (by (try simp only [List.map_toArray, List.map_cons, List.map_nil]); first | done | rfl | (simp only [List.length_drop, List.length_take]; rfl)) ?_; (with_reducible refine (spec_SingText.calls k _ _ t169 _ _ t172 t175 _ ?side1 ?side2 ?side3 ?side4 A8.out).mono ?_); (case side1 => exact cu (Kd.R_reads' HO171.out).2.2); (case side2 => exact (Kd.R_reads' HO171.out).2.1); (case side3 => exact cu (Kd.R_reads' HO174.out).2.2); (case side4 => exact (Kd.R_reads' HO174.out).2.1); rintro e w38 ⟨rfl, hb⟩; refine ⟨_, rfl, ?_⟩; have n0_ := am (Kd.R_below (ru HO171.out) hb); have n1_ := am (Kd.R_below (ru HO174.out) hb); have n2_ := am (below_step (bu HB.out) hb); clear HO171; clear HO174; clear HB; have HO171 := n0_; have HO174 := n1_; have HB := n2_; clear n0_ n1_ n2_; (try clear hb); (try clear hb2); (try clear hk); (try clear hi)) | ((with_reducible refine gate_callee (f := 39) rfl ?_); refine goesL_ (some 24) rfl rfl Tryd.func39 (by kernel_rfl) rfl #[.slice A0 l0.length c0] rfl (by (try simp only [List.map_toArray, List.map_cons, List.map_nil]); first | done | rfl | (simp only [List.length_drop, List.length_take]; rfl)) ?_; (with_reducible refine (laws_toToneS.calls k _ _ l0 t176 _ ?side1 ?side2 A9.out).mono ?_); (case side1 => repeat (first | exact (Kd.C_below HR0.out HB.out) | (with_reducible refine Kd.C_alloc ?_ _) | (with_reducible refine Kd.C_drewN ?_ _) | (with_reducible refine Kd.C_drew ?_))); (case side2 => exact HC0.out); rintro e w39 ⟨v177, rfl, ho0, hb⟩; refine ⟨_, rfl, ?_⟩; have n0_ := am (Kd.R_elder' (ru HO171.out) (Kd.R_base ho0) hb); have n1_ := am (Kd.R_below (ru HO174.out) hb); have n2_ := am (Kd.R_lower (Kd.R_new' ho0 (Kd.R_lt (ru HO171.out))) (below_size (bu HB.out))); have n3_ := am (below_step (bu HB.out) hb); clear HO171; clear HO174; clear HB; have HO171 := n0_; have HO174 := n1_; have HO178 := n2_; have HB := n3_; clear n0_ n1_ n2_ n3_; (try clear hb); (try clear hb2); (try clear hk); (try clear hi); (try clear ho0)) | ((with_reducible refine gate_callee (f := 40) rfl ?_); refine goesL_ (some 26) rfl rfl Tryd.func40 (by kernel_rfl) rfl #[.slice A1 l1.length c1] rfl (by (try simp only [List.map_toArray, List.map_cons, List.map_nil]); first | done | rfl | (simp only [List.length_drop, List.length_take]; rfl)) ?_; (with_reducible refine (laws_toIntS.calls k _ _ l1 t179 _ ?side1 ?side2 A10.out).mono ?_); (case side1 => repeat (first | exact (Kd.C_below HR1.out HB.out) | (with_reducible refine Kd.C_alloc ?_ _) | (with_reducible refine Kd.C_drewN ?_ _) | (with_reducible refine Kd.C_drew ?_))); (case side2 => exact HC1.out); rintro e w40 ⟨v180, rfl, ho0, hb⟩; refine ⟨_, rfl, ?_⟩; have n0_ := am (Kd.R_below (ru HO171.out) hb); have n1_ := am (Kd.R_elder' (ru HO174.out) (Kd.R_base ho0) hb); have n2_ := am (Kd.R_below (ru HO178.out) hb); have n3_ := am (Kd.R_lower (Kd.R_new' ho0 (Kd.R_lt (ru HO174.out))) (below_size (bu HB.out))); have n4_ := am (below_step (bu HB.out) hb); clear HO171; clear HO174; clear HO178; clear HB; have HO171 := n0_; have HO174 := n1_; have HO178 := n2_; have HO181 := n3_; have HB := n4_; clear n0_ n1_ n2_ n3_ n4_; (try clear hb); (try clear hb2); (try clear hk); (try clear hi); (try clear ho0); obtain ⟨Ao41, co41, eo41⟩ := Kd.R_slice HO178.out; subst eo41; obtain ⟨Ao42, co42, eo42⟩ := Kd.R_slice HO181.out; subst eo42) | ((with_reducible refine gate_callee (f := 48) rfl ?_); refine goesL_ (some 29) rfl rfl Tryd.func48 (by kernel_rfl) rfl #[.slice Ao41 t176.length co41, .slice Ao42 t179.length co42] rfl (by (try simp only [List.map_toArray, List.map_cons, List.map_nil]); first | done | rfl | (simp only [List.length_drop, List.length_take]; rfl)) ?_; (with_reducible refine (impl_SingText.calls k _ _ t176 _ _ t179 t182 _ ?side1 ?side2 ?side3 ?side4 ?side5 ?side6 A11.out).mono ?_); (case side1 => exact cu (Kd.R_reads' HO178.out).2.2); (case side2 => exact (Kd.R_reads' HO178.out).2.1); (case side3 => exact cu (Kd.R_reads' HO181.out).2.2); (case side4 => exact (Kd.R_reads' HO181.out).2.1); (case side5 => first | exact HTL.out | exact TabAt.below HTL.out (bu HB.out)); (case side6 => first | exact HTS.out | exact TabAt.below HTS.out (bu HB.out)); rintro e w43 ⟨rfl, hb⟩; refine ⟨_, rfl, ?_⟩; have n0_ := am (Kd.R_below (ru HO171.out) hb); have n1_ := am (Kd.R_below (ru HO174.out) hb); have n2_ := am (Kd.R_below (ru HO178.out) hb); have n3_ := am (Kd.R_below (ru HO181.out) hb); have n4_ := am (below_step (bu HB.out) hb); clear HO171; clear HO174; clear HO178; clear HO181; clear HB; have HO171 := n0_; have HO174 := n1_; have HO178 := n2_; have HO181 := n3_; have HB := n4_; clear n0_ n1_ n2_ n3_ n4_; (try clear hb); (try clear hb2); (try clear hk); (try clear hi)) | ((with_reducible refine gate_callee (f := 39) rfl ?_); refine goesL_ (some 35) rfl rfl Tryd.func39 (by kernel_rfl) rfl #[.slice A0 l0.length c0] rfl (by (try simp only [List.map_toArray, List.map_cons, List.map_nil]); first | done | rfl | (simp only [List.length_drop, List.length_take]; rfl)) ?_; (with_reducible refine (laws_toToneS.calls k _ _ l0 t183 _ ?side1 ?side2 A13.out).mono ?_); (case side1 => repeat (first | exact (Kd.C_below HR0.out HB.out) | (with_reducible refine Kd.C_alloc ?_ _) | (with_reducible refine Kd.C_drewN ?_ _) | (with_reducible refine Kd.C_drew ?_))); (case side2 => exact HC0.out); rintro e w44 ⟨v184, rfl, ho0, hb⟩; refine ⟨_, rfl, ?_⟩; have n0_ := am (Kd.R_elder' (ru HO171.out) (Kd.R_base ho0) hb); have n1_ := am (Kd.R_below (ru HO174.out) hb); have n2_ := am (Kd.R_elder' (ru HO178.out) (Kd.R_base ho0) hb); have n3_ := am (Kd.R_below (ru HO181.out) hb); have n4_ := am (Kd.R_lower (Kd.R_new' (Kd.R_new' ho0 (Kd.R_lt (ru HO171.out))) (Kd.R_lt (ru HO178.out))) (below_size (bu HB.out))); have n5_ := am (below_step (bu HB.out) hb); clear HO171; clear HO174; clear HO178; clear HO181; clear HB; have HO171 := n0_; have HO174 := n1_; have HO178 := n2_; have HO181 := n3_; have HO185 := n4_; have HB := n5_; clear n0_ n1_ n2_ n3_ n4_ n5_; (try clear hb); (try clear hb2); (try clear hk); (try clear hi); (try clear ho0); obtain ⟨Ao45, co45, eo45⟩ := Kd.R_slice HO185.out; subst eo45) | ((with_reducible refine gate_callee (f := 42) rfl ?_); refine goesL_ (some 36) rfl rfl Tryd.func42 (by kernel_rfl) rfl #[.slice Ao41 t176.length co41, .slice Ao45 t183.length co45] rfl (by (try simp only [List.map_toArray, List.map_cons, List.map_nil]); first | done | rfl | (simp only [List.length_drop, List.length_take]; rfl)) ?_; (with_reducible refine (laws_eqToneS.calls k _ _ t176 _ _ t183 true _ ?side1 ?side2 ?side3 ?side4 A14.out).mono ?_); (case side1 => exact cu (Kd.R_reads' HO178.out).2.2); (case side2 => exact (Kd.R_reads' HO178.out).2.1); (case side3 => exact cu (Kd.R_reads' HO185.out).2.2); (case side4 => exact (Kd.R_reads' HO185.out).2.1); rintro e w46 ⟨rfl, hb⟩; refine ⟨_, rfl, ?_⟩; have n0_ := am (Kd.R_below (ru HO171.out) hb); have n1_ := am (Kd.R_below (ru HO174.out) hb); have n2_ := am (Kd.R_below (ru HO178.out) hb); have n3_ := am (Kd.R_below (ru HO181.out) hb); have n4_ := am (Kd.R_below (ru HO185.out) hb); have n5_ := am (below_step (bu HB.out) hb); clear HO171; clear HO174; clear HO178; clear HO181; clear HO185; clear HB; have HO171 := n0_; have HO174 := n1_; have HO178 := n2_; have HO181 := n3_; have HO185 := n4_; have HB := n5_; clear n0_ n1_ n2_ n3_ n4_ n5_; (try clear hb); (try clear hb2); (try clear hk); (try clear hi)) | ((with_reducible refine gate_callee (f := 40) rfl ?_); refine goesL_ (some 40) rfl rfl Tryd.func40 (by kernel_rfl) rfl #[.slice A1 l1.length c1] rfl (by (try simp only [List.map_toArray, List.map_cons, List.map_nil]); first | done | rfl | (simp only [List.length_drop, List.length_take]; rfl)) ?_; (with_reducible refine (laws_toIntS.calls k _ _ l1 t187 _ ?side1 ?side2 A16.out).mono ?_); (case side1 => repeat (first | exact (Kd.C_below HR1.out HB.out) | (with_reducible refine Kd.C_alloc ?_ _) | (with_reducible refine Kd.C_drewN ?_ _) | (with_reducible refine Kd.C_drew ?_))); (case side2 => exact HC1.out); rintro e w47 ⟨v188, rfl, ho0, hb⟩; refine ⟨_, rfl, ?_⟩; have n0_ := am (Kd.R_below (ru HO171.out) hb); have n1_ := am (Kd.R_elder' (ru HO174.out) (Kd.R_base ho0) hb); have n2_ := am (Kd.R_below (ru HO178.out) hb); have n3_ := am (Kd.R_elder' (ru HO181.out) (Kd.R_base ho0) hb); have n4_ := am (Kd.R_below (ru HO185.out) hb); have n5_ := am (Kd.R_lower (Kd.R_new' (Kd.R_new' ho0 (Kd.R_lt (ru HO174.out))) (Kd.R_lt (ru HO181.out))) (below_size (bu HB.out))); have n6_ := am (below_step (bu HB.out) hb); clear HO171; clear HO174; clear HO178; clear HO181; clear HO185; clear HB; have HO171 := n0_; have HO174 := n1_; have HO178 := n2_; have HO181 := n3_; have HO185 := n4_; have HO189 := n5_; have HB := n6_; clear n0_ n1_ n2_ n3_ n4_ n5_ n6_; (try clear hb); (try clear hb2); (try clear hk); (try clear hi); (try clear ho0); obtain ⟨Ao48, co48, eo48⟩ := Kd.R_slice HO189.out; subst eo48) | ((with_reducible refine gate_callee (f := 43) rfl ?_); refine goesL_ (some 41) rfl rfl Tryd.func43 (by kernel_rfl) rfl #[.slice Ao42 t179.length co42, .slice Ao48 t187.length co48] rfl (by (try simp only [List.map_toArray, List.map_cons, List.map_nil]); first | done | rfl | (simp only [List.length_drop, List.length_take]; rfl)) ?_; (with_reducible refine (laws_eqIntS.calls k _ _ t179 _ _ t187 false _ ?side1 ?side2 ?side3 ?side4 A17.out).mono ?_); (case side1 => exact cu (Kd.R_reads' HO181.out).2.2); (case side2 => exact (Kd.R_reads' HO181.out).2.1); (case side3 => exact cu (Kd.R_reads' HO189.out).2.2); (case side4 => exact (Kd.R_reads' HO189.out).2.1); rintro e w' ⟨rfl, ⟨nd, rfl⟩⟩; refine ⟨_, rfl, ?_⟩))
      go_ret
      exact ⟨by first | rfl | (simp [errW_none, errW_some] <;> rfl) | (simp [*, errW_none, errW_some] <;> rfl), bu HB.out⟩
    ·replace c15 := Bool.eq_false_iff.mpr c15
     subst c15
     have H1 : (some false) = some r := by rw [if_neg (show ¬ (false = true) by decide)] at H; exact H
     clear H
     have H := H1
     clear H1
     obtain rfl := Option.some.inj H
     go_enter Tryd.func14, Tryd.ntmps14
     go_wp2_with (first | ((with_reducible refine gate_callee (f := 37) rfl ?_); refine goesL_ (some 15) rfl rfl Tryd.func37 (by kernel_rfl) rfl #[.slice A0 l0.length c0, .int .i64 1048576] rfl (by (try simp only [List.map_toArray, List.map_cons, List.map_nil]); first | done | rfl | (simp only [List.length_drop, List.length_take]; rfl)) ?_; (with_reducible refine (laws_szToneS.calls _ _ l0 1048576 t168 _ ?side1 ?side2 A4.out).mono ?_); (case side1 => exact cu HR0.out); (case side2 => exact HC0.out); rintro e w' ⟨rfl, ⟨nd, rfl⟩⟩; refine ⟨_, rfl, ?_⟩) | ((with_reducible refine gate_callee (f := 39) rfl ?_); refine goesL_ (some 19) rfl rfl Tryd.func39 (by kernel_rfl) rfl #[.slice A0 l0.length c0] rfl (by (try simp only [List.map_toArray, List.map_cons, List.map_nil]); first | done | rfl | (simp only [List.length_drop, List.length_take]; rfl)) ?_; (with_reducible refine (laws_toToneS.calls k _ _ l0 t169 _ ?side1 ?side2 A6.out).mono ?_); (case side1 => exact cu HR0.out); (case side2 => exact HC0.out); rintro e w49 ⟨v170, rfl, ho0, hb⟩; refine ⟨_, rfl, ?_⟩; have n0_ := am (Kd.R_lower ho0 (below_size (bu HB.out))); have n1_ := am (below_step (bu HB.out) hb); clear HB; have HO171 := n0_; have HB := n1_; clear n0_ n1_; (try clear hb); (try clear hb2); (try clear hk); (try clear hi); (try clear ho0)) | ((with_reducible refine gate_callee (f := 40) rfl ?_); refine goesL_ (some 21) rfl rfl Tryd.func40 (by kernel_rfl) rfl #[.slice A1 l1.length c1] rfl (by (try simp only [List.map_toArray, List.map_cons, List.map_nil]); first | done | rfl | (simp only [List.length_drop, List.length_take]; rfl)) ?_; (with_reducible refine (laws_toIntS.calls k _ _ l1 t172 _ ?side1 ?side2 A7.out).mono ?_); (case side1 => repeat (first | exact (Kd.C_below HR1.out HB.out) | (with_reducible refine Kd.C_alloc ?_ _) | (with_reducible refine Kd.C_drewN ?_ _) | (with_reducible refine Kd.C_drew ?_))); (case side2 => exact HC1.out); rintro e w50 ⟨v173, rfl, ho0, hb⟩; refine ⟨_, rfl, ?_⟩; have n0_ := am (Kd.R_below (ru HO171.out) hb); have n1_ := am (Kd.R_lower ho0 (below_size (bu HB.out))); have n2_ := am (below_step (bu HB.out) hb); clear HO171; clear HB; have HO171 := n0_; have HO174 := n1_; have HB := n2_; clear n0_ n1_ n2_; (try clear hb); (try clear hb2); (try clear hk); (try clear hi); (try clear ho0); obtain ⟨Ao51, co51, eo51⟩ := Kd.R_slice HO171.out; subst eo51; obtain ⟨Ao52, co52, eo52⟩ := Kd.R_slice HO174.out; subst eo52) | ((with_reducible refine gate_callee (f := 47) rfl ?_); refine goesL_ (some 22) rfl rfl Tryd.func47 (by kernel_rfl) rfl #[.slice Ao51 t169.length co51, .slice Ao52 t172.length co52] rfl (by (try simp only [List.map_toArray, List.map_cons, List.map_nil]); first | done | rfl | (simp only [List.length_drop, List.length_take]; rfl)) ?_; (with_reducible refine (spec_SingText.calls k _ _ t169 _ _ t172 t175 _ ?side1 ?side2 ?side3 ?side4 A8.out).mono ?_); (case side1 => exact cu (Kd.R_reads' HO171.out).2.2); (case side2 => exact (Kd.R_reads' HO171.out).2.1); (case side3 => exact cu (Kd.R_reads' HO174.out).2.2); (case side4 => exact (Kd.R_reads' HO174.out).2.1); rintro e w53 ⟨rfl, hb⟩; refine ⟨_, rfl, ?_⟩; have n0_ := am (Kd.R_below (ru HO171.out) hb); have n1_ := am (Kd.R_below (ru HO174.out) hb); have n2_ := am (below_step (bu HB.out) hb); clear HO171; clear HO174; clear HB; have HO171 := n0_; have HO174 := n1_; have HB := n2_; clear n0_ n1_ n2_; (try clear hb); (try clear hb2); (try clear hk); (try clear hi)) | ((with_reducible refine gate_callee (f := 39) rfl ?_); refine goesL_ (some 24) rfl rfl Tryd.func39 (by kernel_rfl) rfl #[.slice A0 l0.length c0] rfl (by (try simp only [List.map_toArray, List.map_cons, List.map_nil]); first | done | rfl | (simp only [List.length_drop, List.length_take]; rfl)) ?_; (with_reducible refine (laws_toToneS.calls k _ _ l0 t176 _ ?side1 ?side2 A9.out).mono ?_); (case side1 => repeat (first | exact (Kd.C_below HR0.out HB.out) | (with_reducible refine Kd.C_alloc ?_ _) | (with_reducible refine Kd.C_drewN ?_ _) | (with_reducible refine Kd.C_drew ?_))); (case side2 => exact HC0.out); rintro e w54 ⟨v177, rfl, ho0, hb⟩; refine ⟨_, rfl, ?_⟩; have n0_ := am (Kd.R_elder' (ru HO171.out) (Kd.R_base ho0) hb); have n1_ := am (Kd.R_below (ru HO174.out) hb); have n2_ := am (Kd.R_lower (Kd.R_new' ho0 (Kd.R_lt (ru HO171.out))) (below_size (bu HB.out))); have n3_ := am (below_step (bu HB.out) hb); clear HO171; clear HO174; clear HB; have HO171 := n0_; have HO174 := n1_; have HO178 := n2_; have HB := n3_; clear n0_ n1_ n2_ n3_; (try clear hb); (try clear hb2); (try clear hk); (try clear hi); (try clear ho0)) | ((with_reducible refine gate_callee (f := 40) rfl ?_); refine goesL_ (some 26) rfl rfl Tryd.func40 (by kernel_rfl) rfl #[.slice A1 l1.length c1] rfl (by (try simp only [List.map_toArray, List.map_cons, List.map_nil]); first | done | rfl | (simp only [List.length_drop, List.length_take]; rfl)) ?_; (with_reducible refine (laws_toIntS.calls k _ _ l1 t179 _ ?side1 ?side2 A10.out).mono ?_); (case side1 => repeat (first | exact (Kd.C_below HR1.out HB.out) | (with_reducible refine Kd.C_alloc ?_ _) | (with_reducible refine Kd.C_drewN ?_ _) | (with_reducible refine Kd.C_drew ?_))); (case side2 => exact HC1.out); rintro e w55 ⟨v180, rfl, ho0, hb⟩; refine ⟨_, rfl, ?_⟩; have n0_ := am (Kd.R_below (ru HO171.out) hb); have n1_ := am (Kd.R_elder' (ru HO174.out) (Kd.R_base ho0) hb); have n2_ := am (Kd.R_below (ru HO178.out) hb); have n3_ := am (Kd.R_lower (Kd.R_new' ho0 (Kd.R_lt (ru HO174.out))) (below_size (bu HB.out))); have n4_ := am (below_step (bu HB.out) hb); clear HO171; clear HO174; clear HO178; clear HB; have HO171 := n0_; have HO174 := n1_; have HO178 := n2_; have HO181 := n3_; have HB := n4_; clear n0_ n1_ n2_ n3_ n4_; (try clear hb); (try clear hb2); (try clear hk); (try clear hi); (try clear ho0); obtain ⟨Ao56, co56, eo56⟩ := Kd.R_slice HO178.out; subst eo56; obtain ⟨Ao57, co57, eo57⟩ := Kd.R_slice HO181.out; subst eo57) | ((with_reducible refine gate_callee (f := 48) rfl ?_); refine goesL_ (some 29) rfl rfl Tryd.func48 (by kernel_rfl) rfl #[.slice Ao56 t176.length co56, .slice Ao57 t179.length co57] rfl (by (try simp only [List.map_toArray, List.map_cons, List.map_nil]); first | done | rfl | (simp only [List.length_drop, List.length_take]; rfl)) ?_; (with_reducible refine (impl_SingText.calls k _ _ t176 _ _ t179 t182 _ ?side1 ?side2 ?side3 ?side4 ?side5 ?side6 A11.out).mono ?_); (case side1 => exact cu (Kd.R_reads' HO178.out).2.2); (case side2 => exact (Kd.R_reads' HO178.out).2.1); (case side3 => exact cu (Kd.R_reads' HO181.out).2.2); (case side4 => exact (Kd.R_reads' HO181.out).2.1); (case side5 => first | exact HTL.out | exact TabAt.below HTL.out (bu HB.out)); (case side6 => first | exact HTS.out | exact TabAt.below HTS.out (bu HB.out)); rintro e w58 ⟨rfl, hb⟩; refine ⟨_, rfl, ?_⟩; have n0_ := am (Kd.R_below (ru HO171.out) hb); have n1_ := am (Kd.R_below (ru HO174.out) hb); have n2_ := am (Kd.R_below (ru HO178.out) hb); have n3_ := am (Kd.R_below (ru HO181.out) hb); have n4_ := am (below_step (bu HB.out) hb); clear HO171; clear HO174; clear HO178; clear HO181; clear HB; have HO171 := n0_; have HO174 := n1_; have HO178 := n2_; have HO181 := n3_; have HB := n4_; clear n0_ n1_ n2_ n3_ n4_; (try clear hb); (try clear hb2); (try clear hk); (try clear hi)) | ((with_reducible refine gate_callee (f := 39) rfl ?_); refine goesL_ (some 35) rfl rfl Tryd.func39 (by kernel_rfl) rfl #[.slice A0 l0.length c0] rfl (by (try simp only [List.map_toArray, List.map_cons, List.map_nil]); first | done | rfl | (simp only [List.length_drop, List.length_take]; rfl)) ?_; (with_reducible refine (laws_toToneS.calls k _ _ l0 t183 _ ?side1 ?side2 A13.out).mono ?_); (case side1 => repeat (first | exact (Kd.C_below HR0.out HB.out) | (with_reducible refine Kd.C_alloc ?_ _) | (with_reducible refine Kd.C_drewN ?_ _) | (with_reducible refine Kd.C_drew ?_))); (case side2 => exact HC0.out); rintro e w59 ⟨v184, rfl, ho0, hb⟩; refine ⟨_, rfl, ?_⟩; have n0_ := am (Kd.R_elder' (ru HO171.out) (Kd.R_base ho0) hb); have n1_ := am (Kd.R_below (ru HO174.out) hb); have n2_ := am (Kd.R_elder' (ru HO178.out) (Kd.R_base ho0) hb); have n3_ := am (Kd.R_below (ru HO181.out) hb); have n4_ := am (Kd.R_lower (Kd.R_new' (Kd.R_new' ho0 (Kd.R_lt (ru HO171.out))) (Kd.R_lt (ru HO178.out))) (below_size (bu HB.out))); have n5_ := am (below_step (bu HB.out) hb); clear HO171; clear HO174; clear HO178; clear HO181; clear HB; have HO171 := n0_; have HO174 := n1_; have HO178 := n2_; have HO181 := n3_; have HO185 := n4_; have HB := n5_; clear n0_ n1_ n2_ n3_ n4_ n5_; (try clear hb); (try clear hb2); (try clear hk); (try clear hi); (try clear ho0); obtain ⟨Ao60, co60, eo60⟩ := Kd.R_slice HO185.out; subst eo60) | ((with_reducible refine gate_callee (f := 42) rfl ?_); refine goesL_ (some 36) rfl rfl Tryd.func42 (by kernel_rfl) rfl #[.slice Ao56 t176.length co56, .slice Ao60 t183.length co60] rfl (by (try simp only [List.map_toArray, List.map_cons, List.map_nil]); first | done | rfl | (simp only [List.length_drop, List.length_take]; rfl)) ?_; (with_reducible refine (laws_eqToneS.calls k _ _ t176 _ _ t183 false _ ?side1 ?side2 ?side3 ?side4 A14.out).mono ?_); (case side1 => exact cu (Kd.R_reads' HO178.out).2.2); (case side2 => exact (Kd.R_reads' HO178.out).2.1); (case side3 => exact cu (Kd.R_reads' HO185.out).2.2); (case side4 => exact (Kd.R_reads' HO185.out).2.1); rintro e w61 ⟨rfl, hb⟩; refine ⟨_, rfl, ?_⟩; have n0_ := am (Kd.R_below (ru HO171.out) hb); have n1_ := am (Kd.R_below (ru HO174.out) hb); have n2_ := am (Kd.R_below (ru HO178.out) hb); have n3_ := am (Kd.R_below (ru HO181.out) hb); have n4_ := am (Kd.R_below (ru HO185.out) hb); have n5_ := am (below_step (bu HB.out) hb); clear HO171; clear HO174; clear HO178; clear HO181; clear HO185; clear HB; have HO171 := n0_; have HO174 := n1_; have HO178 := n2_; have HO181 := n3_; have HO185 := n4_; have HB := n5_; clear n0_ n1_ n2_ n3_ n4_ n5_; (try clear hb); (try clear hb2); (try clear hk); (try clear hi)))
     go_ret
     exact ⟨by first | rfl | (simp [errW_none, errW_some] <;> rfl) | (simp [*, errW_none, errW_some] <;> rfl), bu HB.out⟩
   ·rw [if_neg c12] at H
    have c12b0 : (t182.toList == t175.toList) = false := beq_eq_false_iff_ne.mpr c12
    have c12b1 : (t182.toList != t175.toList) = true := bne_iff_ne.mpr c12
    obtain rfl := Option.some.inj H
    go_enter Tryd.func14, Tryd.ntmps14
    go_wp2_with (first | ((with_reducible refine gate_callee (f := 37) rfl ?_); refine goesL_ (some 15) rfl rfl Tryd.func37 (by kernel_rfl) rfl #[.slice A0 l0.length c0, .int .i64 1048576] rfl (by (try simp only [List.map_toArray, List.map_cons, List.map_nil]); first | done | rfl | (simp only [List.length_drop, List.length_take]; rfl)) ?_; (with_reducible refine (laws_szToneS.calls _ _ l0 1048576 t168 _ ?side1 ?side2 A4.out).mono ?_); (case side1 => exact cu HR0.out); (case side2 => exact HC0.out); rintro e w' ⟨rfl, ⟨nd, rfl⟩⟩; refine ⟨_, rfl, ?_⟩) | ((with_reducible refine gate_callee (f := 39) rfl ?_); refine goesL_ (some 19) rfl rfl Tryd.func39 (by kernel_rfl) rfl #[.slice A0 l0.length c0] rfl (by (try simp only [List.map_toArray, List.map_cons, List.map_nil]); first | done | rfl | (simp only [List.length_drop, List.length_take]; rfl)) ?_; (with_reducible refine (laws_toToneS.calls k _ _ l0 t169 _ ?side1 ?side2 A6.out).mono ?_); (case side1 => exact cu HR0.out); (case side2 => exact HC0.out); rintro e w62 ⟨v170, rfl, ho0, hb⟩; refine ⟨_, rfl, ?_⟩; have n0_ := am (Kd.R_lower ho0 (below_size (bu HB.out))); have n1_ := am (below_step (bu HB.out) hb); clear HB; have HO171 := n0_; have HB := n1_; clear n0_ n1_; (try clear hb); (try clear hb2); (try clear hk); (try clear hi); (try clear ho0)) | ((with_reducible refine gate_callee (f := 40) rfl ?_); refine goesL_ (some 21) rfl rfl Tryd.func40 (by kernel_rfl) rfl #[.slice A1 l1.length c1] rfl (by (try simp only [List.map_toArray, List.map_cons, List.map_nil]); first | done | rfl | (simp only [List.length_drop, List.length_take]; rfl)) ?_; (with_reducible refine (laws_toIntS.calls k _ _ l1 t172 _ ?side1 ?side2 A7.out).mono ?_); (case side1 => repeat (first | exact (Kd.C_below HR1.out HB.out) | (with_reducible refine Kd.C_alloc ?_ _) | (with_reducible refine Kd.C_drewN ?_ _) | (with_reducible refine Kd.C_drew ?_))); (case side2 => exact HC1.out); rintro e w63 ⟨v173, rfl, ho0, hb⟩; refine ⟨_, rfl, ?_⟩; have n0_ := am (Kd.R_below (ru HO171.out) hb); have n1_ := am (Kd.R_lower ho0 (below_size (bu HB.out))); have n2_ := am (below_step (bu HB.out) hb); clear HO171; clear HB; have HO171 := n0_; have HO174 := n1_; have HB := n2_; clear n0_ n1_ n2_; (try clear hb); (try clear hb2); (try clear hk); (try clear hi); (try clear ho0); obtain ⟨Ao64, co64, eo64⟩ := Kd.R_slice HO171.out; subst eo64; obtain ⟨Ao65, co65, eo65⟩ := Kd.R_slice HO174.out; subst eo65) | ((with_reducible refine gate_callee (f := 47) rfl ?_); refine goesL_ (some 22) rfl rfl Tryd.func47 (by kernel_rfl) rfl #[.slice Ao64 t169.length co64, .slice Ao65 t172.length co65] rfl (by (try simp only [List.map_toArray, List.map_cons, List.map_nil]); first | done | rfl | (simp only [List.length_drop, List.length_take]; rfl)) ?_; (with_reducible refine (spec_SingText.calls k _ _ t169 _ _ t172 t175 _ ?side1 ?side2 ?side3 ?side4 A8.out).mono ?_); (case side1 => exact cu (Kd.R_reads' HO171.out).2.2); (case side2 => exact (Kd.R_reads' HO171.out).2.1); (case side3 => exact cu (Kd.R_reads' HO174.out).2.2); (case side4 => exact (Kd.R_reads' HO174.out).2.1); rintro e w66 ⟨rfl, hb⟩; refine ⟨_, rfl, ?_⟩; have n0_ := am (Kd.R_below (ru HO171.out) hb); have n1_ := am (Kd.R_below (ru HO174.out) hb); have n2_ := am (below_step (bu HB.out) hb); clear HO171; clear HO174; clear HB; have HO171 := n0_; have HO174 := n1_; have HB := n2_; clear n0_ n1_ n2_; (try clear hb); (try clear hb2); (try clear hk); (try clear hi)) | ((with_reducible refine gate_callee (f := 39) rfl ?_); refine goesL_ (some 24) rfl rfl Tryd.func39 (by kernel_rfl) rfl #[.slice A0 l0.length c0] rfl (by (try simp only [List.map_toArray, List.map_cons, List.map_nil]); first | done | rfl | (simp only [List.length_drop, List.length_take]; rfl)) ?_; (with_reducible refine (laws_toToneS.calls k _ _ l0 t176 _ ?side1 ?side2 A9.out).mono ?_); (case side1 => repeat (first | exact (Kd.C_below HR0.out HB.out) | (with_reducible refine Kd.C_alloc ?_ _) | (with_reducible refine Kd.C_drewN ?_ _) | (with_reducible refine Kd.C_drew ?_))); (case side2 => exact HC0.out); rintro e w67 ⟨v177, rfl, ho0, hb⟩; refine ⟨_, rfl, ?_⟩; have n0_ := am (Kd.R_elder' (ru HO171.out) (Kd.R_base ho0) hb); have n1_ := am (Kd.R_below (ru HO174.out) hb); have n2_ := am (Kd.R_lower (Kd.R_new' ho0 (Kd.R_lt (ru HO171.out))) (below_size (bu HB.out))); have n3_ := am (below_step (bu HB.out) hb); clear HO171; clear HO174; clear HB; have HO171 := n0_; have HO174 := n1_; have HO178 := n2_; have HB := n3_; clear n0_ n1_ n2_ n3_; (try clear hb); (try clear hb2); (try clear hk); (try clear hi); (try clear ho0)) | ((with_reducible refine gate_callee (f := 40) rfl ?_); refine goesL_ (some 26) rfl rfl Tryd.func40 (by kernel_rfl) rfl #[.slice A1 l1.length c1] rfl (by (try simp only [List.map_toArray, List.map_cons, List.map_nil]); first | done | rfl | (simp only [List.length_drop, List.length_take]; rfl)) ?_; (with_reducible refine (laws_toIntS.calls k _ _ l1 t179 _ ?side1 ?side2 A10.out).mono ?_); (case side1 => repeat (first | exact (Kd.C_below HR1.out HB.out) | (with_reducible refine Kd.C_alloc ?_ _) | (with_reducible refine Kd.C_drewN ?_ _) | (with_reducible refine Kd.C_drew ?_))); (case side2 => exact HC1.out); rintro e w68 ⟨v180, rfl, ho0, hb⟩; refine ⟨_, rfl, ?_⟩; have n0_ := am (Kd.R_below (ru HO171.out) hb); have n1_ := am (Kd.R_elder' (ru HO174.out) (Kd.R_base ho0) hb); have n2_ := am (Kd.R_below (ru HO178.out) hb); have n3_ := am (Kd.R_lower (Kd.R_new' ho0 (Kd.R_lt (ru HO174.out))) (below_size (bu HB.out))); have n4_ := am (below_step (bu HB.out) hb); clear HO171; clear HO174; clear HO178; clear HB; have HO171 := n0_; have HO174 := n1_; have HO178 := n2_; have HO181 := n3_; have HB := n4_; clear n0_ n1_ n2_ n3_ n4_; (try clear hb); (try clear hb2); (try clear hk); (try clear hi); (try clear ho0); obtain ⟨Ao69, co69, eo69⟩ := Kd.R_slice HO178.out; subst eo69; obtain ⟨Ao70, co70, eo70⟩ := Kd.R_slice HO181.out; subst eo70) | ((with_reducible refine gate_callee (f := 48) rfl ?_); refine goesL_ (some 29) rfl rfl Tryd.func48 (by kernel_rfl) rfl #[.slice Ao69 t176.length co69, .slice Ao70 t179.length co70] rfl (by (try simp only [List.map_toArray, List.map_cons, List.map_nil]); first | done | rfl | (simp only [List.length_drop, List.length_take]; rfl)) ?_; (with_reducible refine (impl_SingText.calls k _ _ t176 _ _ t179 t182 _ ?side1 ?side2 ?side3 ?side4 ?side5 ?side6 A11.out).mono ?_); (case side1 => exact cu (Kd.R_reads' HO178.out).2.2); (case side2 => exact (Kd.R_reads' HO178.out).2.1); (case side3 => exact cu (Kd.R_reads' HO181.out).2.2); (case side4 => exact (Kd.R_reads' HO181.out).2.1); (case side5 => first | exact HTL.out | exact TabAt.below HTL.out (bu HB.out)); (case side6 => first | exact HTS.out | exact TabAt.below HTS.out (bu HB.out)); rintro e w71 ⟨rfl, hb⟩; refine ⟨_, rfl, ?_⟩; have n0_ := am (Kd.R_below (ru HO171.out) hb); have n1_ := am (Kd.R_below (ru HO174.out) hb); have n2_ := am (Kd.R_below (ru HO178.out) hb); have n3_ := am (Kd.R_below (ru HO181.out) hb); have n4_ := am (below_step (bu HB.out) hb); clear HO171; clear HO174; clear HO178; clear HO181; clear HB; have HO171 := n0_; have HO174 := n1_; have HO178 := n2_; have HO181 := n3_; have HB := n4_; clear n0_ n1_ n2_ n3_ n4_; (try clear hb); (try clear hb2); (try clear hk); (try clear hi)))
    go_ret
    exact ⟨by first | rfl | (simp [errW_none, errW_some] <;> rfl) | (simp [*, errW_none, errW_some] <;> rfl), bu HB.out⟩

end Go.Proofs.YtjefoedojglhpaaDoor.ST
