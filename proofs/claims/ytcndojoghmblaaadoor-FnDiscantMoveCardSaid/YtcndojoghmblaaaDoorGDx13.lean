-- Made by this session's gprint.py out of the translation. Not trusted: Lean checks it.
import Derived.Test.YtcndojoghmblaaaDoorGDx0
import Derived.Test.YtcndojoghmblaaaDoorGDx1
import Derived.Test.YtcndojoghmblaaaDoorGDx2
import Derived.Test.YtcndojoghmblaaaDoorGDx3
import Derived.Test.YtcndojoghmblaaaDoorGDx5
import Derived.Test.YtcndojoghmblaaaDoorGDx6
import Derived.Test.YtcndojoghmblaaaDoorGDx7
import Derived.Test.YtcndojoghmblaaaDoorGDx8
import Derived.Test.YtcndojoghmblaaaDoorGDx9
import Derived.Test.YtcndojoghmblaaaDoorGDx12
namespace Go.Proofs.YtcndojoghmblaaaDoor.GD
open Go.RowKit Go.Proofs.YtcndojoghmblaaaDoorW.PrintWords Go.Proofs.YtcndojoghmblaaaDoorW.PrintLast Go.Proofs.YtcndojoghmblaaaDoorW.PrintMore
attribute [local go_sem] max2_int min2_int max_two min_two max_three min_three max_four min_four   -- for this text's walks alone
set_option linter.unusedVariables false
set_option linter.unusedSimpArgs false

attribute [local go_sem high] eqA30 eqA44
/-! ### spec_DiscantMove: function 27 -/
def spec_DiscantMove.l0 : Nat → List (S44) → Int → List (S30) → List Int → Int → Option ((List (S44)) × Bool)
 | 0, _, _, _, _, _ => none
 | k + 1, x0, x1, x6, x7, x8 => if x8 < (x0.length : Int) then (if 0 ≤ x8 then (if x6.length < 8796093022208 then (if x7.length < 17592186044416 then (spec_DiscantMove.l0 k x0 x1 (x6 ++ [(⟨(rd_T44 x0 x8).f0.f0, (rd_T44 x0 x8).f0.f1⟩ : S30)]) (x7 ++ [(rd_T44 x0 x8).f1]) (wrap64 (x8 + 1))) else (none)) else (none)) else (none)) else ((spec_MelodyMove.f k x6 x1).bind fun bt296 => (if bt296.2 = true then ((spec_PartMake.f k bt296.1 x7).bind fun bt300 => (some (bt300.1, bt300.2))) else (some ((([] : List (S44))), false))))
def spec_DiscantMove.f (k : Nat) (l0 : List (S44)) (a1 : Int) : Option ((List (S44)) × Bool) := (spec_PartValid.f k l0).bind fun t278 => (if t278 = true then (spec_DiscantMove.l0 k l0 a1 (([] : List (S30))) (([] : List Int)) 0) else (some ((([] : List (S44))), false)))
set_option maxHeartbeats 8000000 in
set_option maxRecDepth 100000 in
theorem spec_DiscantMove.calls (k : Nat) (A0 : Option Addr) (c0 : Nat) (l0 : List (S44)) (a1 : Int) (r1 : List (S44)) (r2 : Bool) (w : World) (hr0 : Kd.C k44 w A0 l0.length l0) (hc0 : l0.length ≤ c0) (h : spec_DiscantMove.f k l0 a1 = some (r1, r2)) :
  Calls Tryd.prog 27 #[.slice A0 l0.length c0, .int .i64 a1] w fun e w' => ∃ v0_ : Value, e = .returned (.tuple #[v0_, .bool r2]) ∧ Kd.R k44 44 w' w.heap.size (fun _ => True) v0_ r1 ∧ Below w.heap.size w w' := by
 have hu30 := Tryd.underlying30
 have HR0 := am hr0
 have HC0 := am hc0
 clear hr0 hc0
 have HB := am (Below.refl w.heap.size w)
 have H : ((spec_PartValid.f k l0).bind fun t278 => (if t278 = true then (spec_DiscantMove.l0 k l0 a1 (([] : List (S30))) (([] : List Int)) 0) else (some ((([] : List (S44))), false)))) = some (r1, r2) := h
 clear h
 replace H := Option.bind_eq_some_iff.mp H
 obtain ⟨t278, A30, H⟩ := H
 replace H : (if t278 = true then (spec_DiscantMove.l0 k l0 a1 (([] : List (S30))) (([] : List Int)) 0) else (some ((([] : List (S44))), false))) = some (r1, r2) := H
 have A3 := am A30
 clear A30
 by_cases c4 : t278 = true
 ·subst c4
  have H1 : (spec_DiscantMove.l0 k l0 a1 (([] : List (S30))) (([] : List Int)) 0) = some (r1, r2) := by rw [if_pos rfl] at H; exact H
  clear H
  have H := H1
  clear H1
  obtain ⟨y282, hy282⟩ : ∃ y_ : List (S30), y_ = (([] : List (S30))) := ⟨_, rfl⟩
  replace H : (spec_DiscantMove.l0 k l0 a1 y282 (([] : List Int)) 0) = some (r1, r2) := by first | (rw [hy282]; with_reducible exact H) | (have H2_ := (Option.bind_some _ _).symm.trans H; rw [hy282]; with_reducible exact H2_) | (have H2_ := (Option.bind_some _ _).symm.trans H; with_reducible exact H2_) | with_reducible exact H | (rw [hy282]; exact H) | exact H
  have Ny282 := am hy282
  clear hy282
  obtain ⟨y285, hy285⟩ : ∃ y_ : List Int, y_ = (([] : List Int)) := ⟨_, rfl⟩
  replace H : (spec_DiscantMove.l0 k l0 a1 y282 y285 0) = some (r1, r2) := by first | (rw [hy285]; with_reducible exact H) | (have H2_ := (Option.bind_some _ _).symm.trans H; rw [hy285]; with_reducible exact H2_) | (have H2_ := (Option.bind_some _ _).symm.trans H; with_reducible exact H2_) | with_reducible exact H | (rw [hy285]; exact H) | exact H
  have Ny285 := am hy285
  clear hy285
  have H' := am H
  clear H
  go_enter Tryd.func27, Tryd.ntmps27
  go_wp2_with (first | ((with_reducible refine gate_callee (f := 85) rfl ?_); refine goesL_ (some 12) rfl rfl Tryd.func85 (by kernel_rfl) rfl #[.slice A0 l0.length c0] rfl (by (try simp only [List.map_toArray, List.map_cons, List.map_nil]); first | done | rfl | (simp only [List.length_drop, List.length_take]; rfl)) ?_; (with_reducible refine (spec_PartValid.calls k _ _ l0 true _ ?side1 ?side2 A3.out).mono ?_); (case side1 => exact cu HR0.out); (case side2 => exact HC0.out); rintro e w5 ⟨rfl, hb⟩; refine ⟨_, rfl, ?_⟩; have n0_ := am (below_step (bu HB.out) hb); clear HB; have HB := n0_; clear n0_; (try clear hb); (try clear hb2); (try clear hk); (try clear hi)) | ((with_reducible refine gate_dst (N := 15) rfl ?_); refine Kd.R_lit k30 _ 30 ?hg (N := 15) ?hd (xs := ([] : List (S30))) (inner := []) (ok := fun _ => True) (okp := fun _ => True) ?hr ?hp (fun _ hk => hk) trivial (Below.refl _ _) (Nat.le_refl _) (by simp) ?_; (case hd => rfl); (case hg => rfl); (case hr => first | (go_simp; done) | (go_simp; rfl)); (case hp => exact (Reps.none _ _)); intro v283 w6 ho7 hb hg_ hnew_; clear hg_ hnew_; (first | rw [← Ny282.out] at ho7 | (simp only [Int.reduceToNat] at ho7; rw [← Ny282.out] at ho7)); have n0_ := am (Kd.R_lower ho7 (below_size (bu HB.out))); have n1_ := am (below_step (bu HB.out) hb); clear HB; have HO284 := n0_; have HB := n1_; clear n0_ n1_; clear hb ho7) | ((with_reducible refine gate_dst (N := 16) rfl ?_); refine Kd.R_lit (Kd.int .i64) _ 3 ?hg (N := 16) ?hd (xs := ([] : List Int)) (inner := []) (ok := fun _ => True) (okp := fun _ => True) ?hr ?hp (fun _ hk => hk) trivial (Below.refl _ _) (Nat.le_refl _) (by simp) ?_; (case hd => rfl); (case hg => rfl); (case hr => first | (go_simp; done) | (go_simp; rfl)); (case hp => exact (Reps.none _ _)); intro v286 w8 ho9 hb hg_ hnew_; clear hg_ hnew_; (first | rw [← Ny285.out] at ho9 | (simp only [Int.reduceToNat] at ho9; rw [← Ny285.out] at ho9)); have n0_ := am (Kd.R_below (ru HO284.out) hb); have n1_ := am (Kd.R_lower ho9 (below_size (bu HB.out))); have n2_ := am (below_step (bu HB.out) hb); clear HO284; clear HB; have HO284 := n0_; have HO287 := n1_; have HB := n2_; clear n0_ n1_ n2_; clear hb ho9))
  go_loopg [6, 7, 8] k (fun kq v6 v7 v8 w' => ∃ (x6_1 : List (S30)) (x7_1 : List Int) (x8_1 : Int), v8 = .int .i64 x8_1 ∧ Aside0 (spec_DiscantMove.l0 kq l0 a1 x6_1 x7_1 x8_1 = some (r1, r2)) ∧ Aside0 (kq ≤ k) ∧ Aside0 (Kd.R k30 30 w' w.heap.size (fun _ => True) v6 x6_1) ∧ Aside0 (Kd.R (Kd.int .i64) 3 w' w.heap.size (fun _ => True) v7 x7_1) ∧ Aside0 (Below w.heap.size w w'))
  case atStart => exact ⟨(y282), (y285), (0), (by first | rfl | (simp; done) | (simp [*]; done)), H', ⟨Nat.le_refl _⟩, ⟨ru HO284.out⟩, ⟨ru HO287.out⟩, ⟨bu HB.out⟩⟩
  case round =>
   clear H'
   try clear c2
   try clear p2
   try clear c4
   try clear c8
   obtain ⟨x6_1, x7_1, x8_1, rfl, HA, HK1, HO_6, HO_7, HB⟩ := hrel
   cases gk with
   | zero => exact absurd HA.out (by simp [spec_DiscantMove.l0])
   | succ k1 =>
    have H := HA.out
    clear HA
    simp only [spec_DiscantMove.l0] at H
    by_cases c10 : x8_1 < (l0.length : Int)
    ·rw [if_pos c10] at H
     have c10b0 : decide (x8_1 < (l0.length : Int)) = true := decide_eq_true c10
     clear c10
     by_cases c11 : 0 ≤ x8_1
     ·rw [if_pos c11] at H
      have c11b0 : decide (0 ≤ x8_1) = true := decide_eq_true c11
      clear c11
      by_cases c12 : x6_1.length < 8796093022208
      ·rw [if_pos c12] at H
       have LMc12 := am c12
       clear c12
       obtain ⟨y289, hy289⟩ : ∃ y_ : List (S30), y_ = (x6_1 ++ [(⟨(rd_T44 l0 x8_1).f0.f0, (rd_T44 l0 x8_1).f0.f1⟩ : S30)]) := ⟨_, rfl⟩
       replace H : (if x7_1.length < 17592186044416 then (spec_DiscantMove.l0 k1 l0 a1 y289 (x7_1 ++ [(rd_T44 l0 x8_1).f1]) (wrap64 (x8_1 + 1))) else (none)) = some (r1, r2) := by first | (rw [hy289]; with_reducible exact H) | (have H2_ := (Option.bind_some _ _).symm.trans H; rw [hy289]; with_reducible exact H2_) | (have H2_ := (Option.bind_some _ _).symm.trans H; with_reducible exact H2_) | with_reducible exact H | (rw [hy289]; exact H) | exact H
       have Ny289 := am hy289
       clear hy289
       by_cases c13 : x7_1.length < 17592186044416
       ·rw [if_pos c13] at H
        have LMc13 := am c13
        clear c13
        obtain ⟨y293, hy293⟩ : ∃ y_ : List Int, y_ = (x7_1 ++ [(rd_T44 l0 x8_1).f1]) := ⟨_, rfl⟩
        replace H : (spec_DiscantMove.l0 k1 l0 a1 y289 y293 (wrap64 (x8_1 + 1))) = some (r1, r2) := by first | (rw [hy293]; with_reducible exact H) | (have H2_ := (Option.bind_some _ _).symm.trans H; rw [hy293]; with_reducible exact H2_) | (have H2_ := (Option.bind_some _ _).symm.trans H; with_reducible exact H2_) | with_reducible exact H | (rw [hy293]; exact H) | exact H
        have Ny293 := am hy293
        clear hy293
        have H' := am H
        clear H
        have p288 : 0 ≤ (x8_1 : Int) := od
        have q288 : x8_1 < (l0.length : Int) := od
        obtain ⟨ad288, e288, hx288_0, hx288_1, hx288_2⟩ := at_T44 HR0.out x8_1 p288 q288
        cases e288
        replace hx288_0 := (HB.out.cell (World.block_lt_of_cell? w _ hx288_0)).trans hx288_0
        replace hx288_1 := (HB.out.cell (World.block_lt_of_cell? w _ hx288_1)).trans hx288_1
        replace hx288_2 := (HB.out.cell (World.block_lt_of_cell? w _ hx288_2)).trans hx288_2
        replace p288 := eq_true p288
        replace q288 := eq_true q288
        go_wp2_with (first | ((with_reducible refine gate_builtin (b := .append) (xs := #[.tmp 23, .tmp 29]) rfl ?_); at_builtin; refine Kd.R_append k30 (w0 := w) w.heap.size rfl (.tmp 23) (.tmp 29) 42 30 (.agg #[(.int .i64 0), (.bool false)]) 16 rfl Tryd.underlying42 info30 rfl (by decide) (by omega) u6 x6_1 (⟨(rd_T44 l0 x8_1).f0.f0, (rd_T44 l0 x8_1).f0.f1⟩ : S30) [.int .i64 ((rd_T44 l0 x8_1).f0.f0), .bool ((rd_T44 l0 x8_1).f0.f1)] (fun _ => True) (fun _ => False) rfl rfl ?aP (fun _ hk => hk.elim) ?aF ?aO ?aB ?aS ?aL ?_; (case aP => exact k30_mkM _ _ _ (⟨(rd_T44 l0 x8_1).f0.f0, (rd_T44 l0 x8_1).f0.f1⟩ : S30)); (case aB => exact (bu HB.out)); (case aF => exact (fun _ _ => trivial)); (case aO => exact (ru HO_6.out)); (case aS => exact (below_size (bu HB.out))); (case aL => have := LMc12.out; omega); intro v290 w14 ho hb hg hat; rw [← Ny289.out] at ho; have n0_ := am (Kd.R_over' (ru HO_7.out) (Kd.R_typed (ru HO_6.out)) (by decide) hg); have n1_ := am (hb); have n2_ := am (ho); clear HO_7; clear HB; clear HO_6; have HO_7 := n0_; have HB := n1_; have HO291 := n2_; clear n0_ n1_ n2_; clear ho hb hg hat; have p292 : 0 ≤ (x8_1 : Int) := od; have q292 : x8_1 < (l0.length : Int) := od; obtain ⟨ad292, e292, hx292_0, hx292_1, hx292_2⟩ := at_T44 HR0.out x8_1 p292 q292; obtain rfl : ad288 = ad292 := (by injection e292); replace hx292_0 := (HB.out.cell (World.block_lt_of_cell? w _ hx292_0)).trans hx292_0; replace hx292_1 := (HB.out.cell (World.block_lt_of_cell? w _ hx292_1)).trans hx292_1; replace hx292_2 := (HB.out.cell (World.block_lt_of_cell? w _ hx292_2)).trans hx292_2; replace p292 := eq_true p292; replace q292 := eq_true q292) | ((with_reducible refine gate_builtin (b := .append) (xs := #[.tmp 31, .tmp 37]) rfl ?_); at_builtin; refine Kd.R_append (Kd.int .i64) (w0 := w) w.heap.size rfl (.tmp 31) (.tmp 37) 26 3 (.int .i64 0) 8 rfl Tryd.underlying26 info3 rfl (by decide) (by omega) u7 x7_1 ((rd_T44 l0 x8_1).f1) [.int .i64 ((rd_T44 l0 x8_1).f1)] (fun _ => True) (fun _ => False) rfl rfl ?aP (fun _ hk => hk.elim) ?aF ?aO ?aB ?aS ?aL ?_; (case aP => exact rfl); (case aB => exact (bu HB.out)); (case aF => exact (fun _ _ => trivial)); (case aO => exact (ru HO_7.out)); (case aS => exact (below_size (bu HB.out))); (case aL => have := LMc13.out; omega); intro v294 w15 ho hb hg hat; rw [← Ny293.out] at ho; have n0_ := am (Kd.R_over' (ru HO291.out) (Kd.R_typed (ru HO_7.out)) (by decide) hg); have n1_ := am (hb); have n2_ := am (ho); clear HO291; clear HB; clear HO_7; have HO291 := n0_; have HB := n1_; have HO295 := n2_; clear n0_ n1_ n2_; clear ho hb hg hat))
        go_roundg k1
        case measure => have := HK1.out; omega
        case rel => exact ⟨(y289), (y293), (wrap64 (x8_1 + 1)), (by first | rfl | (simp; done) | (simp [*]; done)), H', ⟨by have := HK1.out; omega⟩, ⟨ru HO291.out⟩, ⟨ru HO295.out⟩, ⟨bu HB.out⟩⟩
       ·rw [if_neg c13] at H
        exact absurd H (by simp)
      ·rw [if_neg c12] at H
       exact absurd H (by simp)
     ·rw [if_neg c11] at H
      exact absurd H (by simp)
    ·rw [if_neg c10] at H
     have c10b0 : decide (x8_1 < (l0.length : Int)) = false := decide_eq_false c10
     clear c10
     replace H := Option.bind_eq_some_iff.mp H
     obtain ⟨⟨t296, t297⟩, A160, H⟩ := H
     replace H : (if t297 = true then ((spec_PartMake.f k1 t296 x7_1).bind fun bt300 => (some (bt300.1, bt300.2))) else (some ((([] : List (S44))), false))) = some (r1, r2) := H
     have A16 := am A160
     clear A160
     by_cases c17 : t297 = true
     ·subst c17
      have H1 : ((spec_PartMake.f k1 t296 x7_1).bind fun bt300 => (some (bt300.1, bt300.2))) = some (r1, r2) := by rw [if_pos rfl] at H; exact H
      clear H
      have H := H1
      clear H1
      replace H := Option.bind_eq_some_iff.mp H
      obtain ⟨⟨t300, t301⟩, A180, H⟩ := H
      replace H : (some (t300, t301)) = some (r1, r2) := H
      have A18 := am A180
      clear A180
      simp only [Option.some.injEq, Prod.mk.injEq] at H
      obtain ⟨rfl, rfl⟩ := H
      obtain ⟨Ao19, co19, eo19⟩ := Kd.R_slice HO_6.out
      subst eo19
      go_wp2_with (first | ((with_reducible refine gate_callee (f := 86) rfl ?_); refine goesL_ (some 42) rfl rfl Tryd.func86 (by kernel_rfl) rfl #[.slice Ao19 x6_1.length co19, .int .i64 a1] rfl (by (try simp only [List.map_toArray, List.map_cons, List.map_nil]); first | done | rfl | (simp only [List.length_drop, List.length_take]; rfl)) ?_; (with_reducible refine (spec_MelodyMove.calls k1 _ _ x6_1 a1 t296 true _ ?side1 ?side2 A16.out).mono ?_); (case side1 => exact cu (Kd.R_reads' HO_6.out).2.2); (case side2 => exact (Kd.R_reads' HO_6.out).2.1); rintro e w20 ⟨v298, rfl, ho0, hb⟩; refine ⟨_, rfl, ?_⟩; have n0_ := am (Kd.R_elder' (ru HO_6.out) (Kd.R_base ho0) hb); have n1_ := am (Kd.R_below (ru HO_7.out) hb); have n2_ := am (Kd.R_lower (Kd.R_new' ho0 (Kd.R_lt (ru HO_6.out))) (below_size (bu HB.out))); have n3_ := am (below_step (bu HB.out) hb); clear HO_6; clear HO_7; clear HB; have HO_6 := n0_; have HO_7 := n1_; have HO299 := n2_; have HB := n3_; clear n0_ n1_ n2_ n3_; (try clear hb); (try clear hb2); (try clear hk); (try clear hi); (try clear ho0); obtain ⟨Ao21, co21, eo21⟩ := Kd.R_slice HO299.out; subst eo21; obtain ⟨Ao22, co22, eo22⟩ := Kd.R_slice HO_7.out; subst eo22) | ((with_reducible refine gate_callee (f := 87) rfl ?_); refine goesL_ (some 50) rfl rfl Tryd.func87 (by kernel_rfl) rfl #[.slice Ao21 t296.length co21, .slice Ao22 x7_1.length co22] rfl (by (try simp only [List.map_toArray, List.map_cons, List.map_nil]); first | done | rfl | (simp only [List.length_drop, List.length_take]; rfl)) ?_; (with_reducible refine (spec_PartMake.calls k1 _ _ t296 _ _ x7_1 t300 t301 _ ?side1 ?side2 ?side3 ?side4 A18.out).mono ?_); (case side1 => exact cu (Kd.R_reads' HO299.out).2.2); (case side2 => exact (Kd.R_reads' HO299.out).2.1); (case side3 => exact cu (Kd.R_reads' HO_7.out).2.2); (case side4 => exact (Kd.R_reads' HO_7.out).2.1); rintro e w23 ⟨v302, rfl, ho0, hb⟩; refine ⟨_, rfl, ?_⟩; have n0_ := am (Kd.R_below (ru HO_6.out) hb); have n1_ := am (Kd.R_below (ru HO_7.out) hb); have n2_ := am (Kd.R_below (ru HO299.out) hb); have n3_ := am (Kd.R_lower ho0 (below_size (bu HB.out))); have n4_ := am (below_step (bu HB.out) hb); clear HO_6; clear HO_7; clear HO299; clear HB; have HO_6 := n0_; have HO_7 := n1_; have HO299 := n2_; have HO303 := n3_; have HB := n4_; clear n0_ n1_ n2_ n3_ n4_; (try clear hb); (try clear hb2); (try clear hk); (try clear hi); (try clear ho0)))
      go_ret2
      exact ⟨_, by first | rfl | (simp [errW_none, errW_some] <;> rfl) | (simp [*, errW_none, errW_some] <;> rfl), ru HO303.out, bu HB.out⟩
     ·replace c17 := Bool.eq_false_iff.mpr c17
      subst c17
      have H1 : (some ((([] : List (S44))), false)) = some (r1, r2) := by rw [if_neg (show ¬ (false = true) by decide)] at H; exact H
      clear H
      have H := H1
      clear H1
      obtain ⟨y304, hy304⟩ : ∃ y_ : List (S44), y_ = (([] : List (S44))) := ⟨_, rfl⟩
      replace H : (some (y304, false)) = some (r1, r2) := by first | (rw [hy304]; with_reducible exact H) | (have H2_ := (Option.bind_some _ _).symm.trans H; rw [hy304]; with_reducible exact H2_) | (have H2_ := (Option.bind_some _ _).symm.trans H; with_reducible exact H2_) | with_reducible exact H | (rw [hy304]; exact H) | exact H
      have Ny304 := am hy304
      clear hy304
      simp only [Option.some.injEq, Prod.mk.injEq] at H
      obtain ⟨rfl, rfl⟩ := H
      obtain ⟨Ao24, co24, eo24⟩ := Kd.R_slice HO_6.out
      subst eo24
      go_wp2_with (first | ((with_reducible refine gate_callee (f := 86) rfl ?_); refine goesL_ (some 42) rfl rfl Tryd.func86 (by kernel_rfl) rfl #[.slice Ao24 x6_1.length co24, .int .i64 a1] rfl (by (try simp only [List.map_toArray, List.map_cons, List.map_nil]); first | done | rfl | (simp only [List.length_drop, List.length_take]; rfl)) ?_; (with_reducible refine (spec_MelodyMove.calls k1 _ _ x6_1 a1 t296 false _ ?side1 ?side2 A16.out).mono ?_); (case side1 => exact cu (Kd.R_reads' HO_6.out).2.2); (case side2 => exact (Kd.R_reads' HO_6.out).2.1); rintro e w25 ⟨v298, rfl, ho0, hb⟩; refine ⟨_, rfl, ?_⟩; have n0_ := am (Kd.R_elder' (ru HO_6.out) (Kd.R_base ho0) hb); have n1_ := am (Kd.R_below (ru HO_7.out) hb); have n2_ := am (Kd.R_lower (Kd.R_new' ho0 (Kd.R_lt (ru HO_6.out))) (below_size (bu HB.out))); have n3_ := am (below_step (bu HB.out) hb); clear HO_6; clear HO_7; clear HB; have HO_6 := n0_; have HO_7 := n1_; have HO299 := n2_; have HB := n3_; clear n0_ n1_ n2_ n3_; (try clear hb); (try clear hb2); (try clear hk); (try clear hi); (try clear ho0)) | ((with_reducible refine gate_dst (N := 47) rfl ?_); refine Kd.R_lit k44 _ 44 ?hg (N := 47) ?hd (xs := ([] : List (S44))) (inner := []) (ok := fun _ => True) (okp := fun _ => True) ?hr ?hp (fun _ hk => hk) trivial (Below.refl _ _) (Nat.le_refl _) (by simp) ?_; (case hd => rfl); (case hg => rfl); (case hr => first | (go_simp; done) | (go_simp; rfl)); (case hp => exact (Reps.none _ _)); intro v305 w26 ho27 hb hg_ hnew_; clear hg_ hnew_; (first | rw [← Ny304.out] at ho27 | (simp only [Int.reduceToNat] at ho27; rw [← Ny304.out] at ho27)); have n0_ := am (Kd.R_below (ru HO_6.out) hb); have n1_ := am (Kd.R_below (ru HO_7.out) hb); have n2_ := am (Kd.R_below (ru HO299.out) hb); have n3_ := am (Kd.R_lower ho27 (below_size (bu HB.out))); have n4_ := am (below_step (bu HB.out) hb); clear HO_6; clear HO_7; clear HO299; clear HB; have HO_6 := n0_; have HO_7 := n1_; have HO299 := n2_; have HO306 := n3_; have HB := n4_; clear n0_ n1_ n2_ n3_ n4_; clear hb ho27))
      go_ret2
      exact ⟨_, by first | rfl | (simp [errW_none, errW_some] <;> rfl) | (simp [*, errW_none, errW_some] <;> rfl), ru HO306.out, bu HB.out⟩
 ·replace c4 := Bool.eq_false_iff.mpr c4
  subst c4
  have H1 : (some ((([] : List (S44))), false)) = some (r1, r2) := by rw [if_neg (show ¬ (false = true) by decide)] at H; exact H
  clear H
  have H := H1
  clear H1
  obtain ⟨y279, hy279⟩ : ∃ y_ : List (S44), y_ = (([] : List (S44))) := ⟨_, rfl⟩
  replace H : (some (y279, false)) = some (r1, r2) := by first | (rw [hy279]; with_reducible exact H) | (have H2_ := (Option.bind_some _ _).symm.trans H; rw [hy279]; with_reducible exact H2_) | (have H2_ := (Option.bind_some _ _).symm.trans H; with_reducible exact H2_) | with_reducible exact H | (rw [hy279]; exact H) | exact H
  have Ny279 := am hy279
  clear hy279
  simp only [Option.some.injEq, Prod.mk.injEq] at H
  obtain ⟨rfl, rfl⟩ := H
  go_enter Tryd.func27, Tryd.ntmps27
  go_wp2_with (first | ((with_reducible refine gate_callee (f := 85) rfl ?_); refine goesL_ (some 12) rfl rfl Tryd.func85 (by kernel_rfl) rfl #[.slice A0 l0.length c0] rfl (by (try simp only [List.map_toArray, List.map_cons, List.map_nil]); first | done | rfl | (simp only [List.length_drop, List.length_take]; rfl)) ?_; (with_reducible refine (spec_PartValid.calls k _ _ l0 false _ ?side1 ?side2 A3.out).mono ?_); (case side1 => exact cu HR0.out); (case side2 => exact HC0.out); rintro e w28 ⟨rfl, hb⟩; refine ⟨_, rfl, ?_⟩; have n0_ := am (below_step (bu HB.out) hb); clear HB; have HB := n0_; clear n0_; (try clear hb); (try clear hb2); (try clear hk); (try clear hi)) | ((with_reducible refine gate_dst (N := 14) rfl ?_); refine Kd.R_lit k44 _ 44 ?hg (N := 14) ?hd (xs := ([] : List (S44))) (inner := []) (ok := fun _ => True) (okp := fun _ => True) ?hr ?hp (fun _ hk => hk) trivial (Below.refl _ _) (Nat.le_refl _) (by simp) ?_; (case hd => rfl); (case hg => rfl); (case hr => first | (go_simp; done) | (go_simp; rfl)); (case hp => exact (Reps.none _ _)); intro v280 w29 ho30 hb hg_ hnew_; clear hg_ hnew_; (first | rw [← Ny279.out] at ho30 | (simp only [Int.reduceToNat] at ho30; rw [← Ny279.out] at ho30)); have n0_ := am (Kd.R_lower ho30 (below_size (bu HB.out))); have n1_ := am (below_step (bu HB.out) hb); clear HB; have HO281 := n0_; have HB := n1_; clear n0_ n1_; clear hb ho30))
  go_ret2
  exact ⟨_, by first | rfl | (simp [errW_none, errW_some] <;> rfl) | (simp [*, errW_none, errW_some] <;> rfl), ru HO281.out, bu HB.out⟩

/-! ### laws_sameVoices: function 28 -/
def laws_sameVoices.l0 : Nat → List (S44) → List (S44) → Int → Option (Bool)
 | 0, _, _, _ => none
 | k + 1, x0, x1, x5 => if x5 < (x0.length : Int) then (if 0 ≤ x5 then (if x5 < (x1.length : Int) then (if ((!(((rd_T44 x0 x5).f0.f0) == ((rd_T44 x1 x5).f0.f0)) || (!(((rd_T44 x0 x5).f0.f1) == ((rd_T44 x1 x5).f0.f1)))) || (!(((rd_T44 x0 x5).f1) == ((rd_T44 x1 x5).f1)))) = true then (some false) else (laws_sameVoices.l0 k x0 x1 (wrap64 (x5 + 1)))) else (none)) else (none)) else (some true)
def laws_sameVoices.f (k : Nat) (l0 : List (S44)) (l1 : List (S44)) : Option (Bool) := if (l0.length : Int) = (l1.length : Int) then (laws_sameVoices.l0 k l0 l1 0) else (some false)
set_option maxHeartbeats 8000000 in
set_option maxRecDepth 100000 in
theorem laws_sameVoices.calls (k : Nat) (A0 : Option Addr) (c0 : Nat) (l0 : List (S44)) (A1 : Option Addr) (c1 : Nat) (l1 : List (S44)) (r : Bool) (w : World) (hr0 : Kd.C k44 w A0 l0.length l0) (hc0 : l0.length ≤ c0) (hr1 : Kd.C k44 w A1 l1.length l1) (hc1 : l1.length ≤ c1) (h : laws_sameVoices.f k l0 l1 = some r) :
  Calls Tryd.prog 28 #[.slice A0 l0.length c0, .slice A1 l1.length c1] w fun e w' => e = .returned (.bool r) ∧ Drawn0 w w' := by
 have hu44 := Tryd.underlying44
 have HR0 := am hr0
 have HC0 := am hc0
 clear hr0 hc0
 have HR1 := am hr1
 have HC1 := am hc1
 clear hr1 hc1
 have H : (if (l0.length : Int) = (l1.length : Int) then (laws_sameVoices.l0 k l0 l1 0) else (some false)) = some r := h
 clear h
 by_cases c3 : (l0.length : Int) = (l1.length : Int)
 ·rw [if_pos c3] at H
  have c3b0 : ((l0.length : Int) == (l1.length : Int)) = true := beq_iff_eq.mpr c3
  have c3b1 : ((l0.length : Int) != (l1.length : Int)) = false := bne_eq_false_iff_eq.mpr c3
  have c3b2 : (l0.length == l1.length) = true := by first | simpa using c3 | (simp at c3 ⊢; omega)
  clear c3
  have H' := am H
  clear H
  go_enter Tryd.func28, Tryd.ntmps28
  go_wp2
  repeat (go_quiet (fail); try go_wp2)
  go_loopg [5] k (fun kq v5 w' => ∃ (x5_1 : Int), v5 = .int .i64 x5_1 ∧ Aside0 (laws_sameVoices.l0 kq l0 l1 x5_1 = some r) ∧ Aside0 (kq ≤ k) ∧ Drawn0 w w')
  case atStart => exact ⟨(0), (by first | rfl | (simp; done) | (simp [*]; done)), H', ⟨Nat.le_refl _⟩, by repeat (first | exact Drawn0.refl _ | apply Drawn0.step)⟩
  case round =>
   clear H'
   try clear c1
   try clear c2
   try clear p2
   try clear c3
   try clear c3b0
   try clear c3b1
   try clear c3b2
   obtain ⟨x5_1, rfl, HA, HK1, ⟨m1, rfl⟩⟩ := hrel
   cases gk with
   | zero => exact absurd HA.out (by simp [laws_sameVoices.l0])
   | succ k1 =>
    have H := HA.out
    clear HA
    simp only [laws_sameVoices.l0] at H
    by_cases c4 : x5_1 < (l0.length : Int)
    ·rw [if_pos c4] at H
     have c4b0 : decide (x5_1 < (l0.length : Int)) = true := decide_eq_true c4
     clear c4
     by_cases c5 : 0 ≤ x5_1
     ·rw [if_pos c5] at H
      have c5b0 : decide (0 ≤ x5_1) = true := decide_eq_true c5
      clear c5
      by_cases c6 : x5_1 < (l1.length : Int)
      ·rw [if_pos c6] at H
       have c6b0 : decide (x5_1 < (l1.length : Int)) = true := decide_eq_true c6
       clear c6
       by_cases c7 : ((!(((rd_T44 l0 x5_1).f0.f0) == ((rd_T44 l1 x5_1).f0.f0)) || (!(((rd_T44 l0 x5_1).f0.f1) == ((rd_T44 l1 x5_1).f0.f1)))) || (!(((rd_T44 l0 x5_1).f1) == ((rd_T44 l1 x5_1).f1)))) = true
       ·rw [if_pos c7] at H
        have c7b0 : ((!(((rd_T44 l0 x5_1).f0.f0) == ((rd_T44 l1 x5_1).f0.f0)) || (!(((rd_T44 l0 x5_1).f0.f1) == ((rd_T44 l1 x5_1).f0.f1)))) || (!(((rd_T44 l0 x5_1).f1) == ((rd_T44 l1 x5_1).f1)))) = true := c7
        clear c7
        obtain rfl := Option.some.inj H
        have p307 : 0 ≤ (x5_1 : Int) := od
        have q307 : x5_1 < (l0.length : Int) := od
        obtain ⟨ad307, e307, hx307_0, hx307_1, hx307_2⟩ := at_T44 HR0.out x5_1 p307 q307
        cases e307
        replace p307 := eq_true p307
        replace q307 := eq_true q307
        have p308 : 0 ≤ (x5_1 : Int) := od
        have q308 : x5_1 < (l1.length : Int) := od
        obtain ⟨ad308, e308, hx308_0, hx308_1, hx308_2⟩ := at_T44 HR1.out x5_1 p308 q308
        cases e308
        replace p308 := eq_true p308
        replace q308 := eq_true q308
        go_wp2
        repeat (go_quiet (fail); try go_wp2)
        go_ret
        exact ⟨by first | rfl | (simp; done) | (simp [*]; done), by repeat (first | exact Drawn0.refl _ | apply Drawn0.step)⟩
       ·rw [if_neg c7] at H
        have c7b0 : ((!(((rd_T44 l0 x5_1).f0.f0) == ((rd_T44 l1 x5_1).f0.f0)) || (!(((rd_T44 l0 x5_1).f0.f1) == ((rd_T44 l1 x5_1).f0.f1)))) || (!(((rd_T44 l0 x5_1).f1) == ((rd_T44 l1 x5_1).f1)))) = false := by simpa using c7
        clear c7
        have H' := am H
        clear H
        have p307 : 0 ≤ (x5_1 : Int) := od
        have q307 : x5_1 < (l0.length : Int) := od
        obtain ⟨ad307, e307, hx307_0, hx307_1, hx307_2⟩ := at_T44 HR0.out x5_1 p307 q307
        cases e307
        replace p307 := eq_true p307
        replace q307 := eq_true q307
        have p308 : 0 ≤ (x5_1 : Int) := od
        have q308 : x5_1 < (l1.length : Int) := od
        obtain ⟨ad308, e308, hx308_0, hx308_1, hx308_2⟩ := at_T44 HR1.out x5_1 p308 q308
        cases e308
        replace p308 := eq_true p308
        replace q308 := eq_true q308
        go_wp2
        repeat (go_quiet (fail); try go_wp2)
        go_roundg k1
        case measure => have := HK1.out; omega
        case rel => exact ⟨(wrap64 (x5_1 + 1)), (by first | rfl | (simp; done) | (simp [*]; done)), H', ⟨by have := HK1.out; omega⟩, by repeat (first | exact Drawn0.refl _ | apply Drawn0.step)⟩
      ·rw [if_neg c6] at H
       exact absurd H (by simp)
     ·rw [if_neg c5] at H
      exact absurd H (by simp)
    ·rw [if_neg c4] at H
     have c4b0 : decide (x5_1 < (l0.length : Int)) = false := decide_eq_false c4
     clear c4
     obtain rfl := Option.some.inj H
     go_wp2
     repeat (go_quiet (fail); try go_wp2)
     go_ret
     exact ⟨by first | rfl | (simp; done) | (simp [*]; done), by repeat (first | exact Drawn0.refl _ | apply Drawn0.step)⟩
 ·rw [if_neg c3] at H
  have c3b0 : ((l0.length : Int) == (l1.length : Int)) = false := beq_eq_false_iff_ne.mpr c3
  have c3b1 : ((l0.length : Int) != (l1.length : Int)) = true := bne_iff_ne.mpr c3
  have c3b2 : (l0.length == l1.length) = false := by first | simpa using c3 | (simp at c3 ⊢; omega)
  obtain rfl := Option.some.inj H
  go_enter Tryd.func28, Tryd.ntmps28
  go_wp2
  repeat (go_quiet (fail); try go_wp2)
  go_ret
  exact ⟨by first | rfl | (simp; done) | (simp [*]; done), by repeat (first | exact Drawn0.refl _ | apply Drawn0.step)⟩

/-! ### laws_sameTones: function 30 -/
def laws_sameTones.l0 : Nat → List (S30) → List (S30) → Int → Option (Bool)
 | 0, _, _, _ => none
 | k + 1, x0, x1, x5 => if x5 < (x0.length : Int) then (if 0 ≤ x5 then (if x5 < (x1.length : Int) then (if (!(((rd_T30 x0 x5).f0) == ((rd_T30 x1 x5).f0)) || (!(((rd_T30 x0 x5).f1) == ((rd_T30 x1 x5).f1)))) = true then (some false) else (laws_sameTones.l0 k x0 x1 (wrap64 (x5 + 1)))) else (none)) else (none)) else (some true)
def laws_sameTones.f (k : Nat) (l0 : List (S30)) (l1 : List (S30)) : Option (Bool) := if (l0.length : Int) = (l1.length : Int) then (laws_sameTones.l0 k l0 l1 0) else (some false)
set_option maxHeartbeats 8000000 in
set_option maxRecDepth 100000 in
theorem laws_sameTones.calls (k : Nat) (A0 : Option Addr) (c0 : Nat) (l0 : List (S30)) (A1 : Option Addr) (c1 : Nat) (l1 : List (S30)) (r : Bool) (w : World) (hr0 : Kd.C k30 w A0 l0.length l0) (hc0 : l0.length ≤ c0) (hr1 : Kd.C k30 w A1 l1.length l1) (hc1 : l1.length ≤ c1) (h : laws_sameTones.f k l0 l1 = some r) :
  Calls Tryd.prog 30 #[.slice A0 l0.length c0, .slice A1 l1.length c1] w fun e w' => e = .returned (.bool r) ∧ Drawn0 w w' := by
 have hu30 := Tryd.underlying30
 have HR0 := am hr0
 have HC0 := am hc0
 clear hr0 hc0
 have HR1 := am hr1
 have HC1 := am hc1
 clear hr1 hc1
 have H : (if (l0.length : Int) = (l1.length : Int) then (laws_sameTones.l0 k l0 l1 0) else (some false)) = some r := h
 clear h
 by_cases c3 : (l0.length : Int) = (l1.length : Int)
 ·rw [if_pos c3] at H
  have c3b0 : ((l0.length : Int) == (l1.length : Int)) = true := beq_iff_eq.mpr c3
  have c3b1 : ((l0.length : Int) != (l1.length : Int)) = false := bne_eq_false_iff_eq.mpr c3
  have c3b2 : (l0.length == l1.length) = true := by first | simpa using c3 | (simp at c3 ⊢; omega)
  clear c3
  have H' := am H
  clear H
  go_enter Tryd.func30, Tryd.ntmps30
  go_wp2
  repeat (go_quiet (fail); try go_wp2)
  go_loopg [5] k (fun kq v5 w' => ∃ (x5_1 : Int), v5 = .int .i64 x5_1 ∧ Aside0 (laws_sameTones.l0 kq l0 l1 x5_1 = some r) ∧ Aside0 (kq ≤ k) ∧ Drawn0 w w')
  case atStart => exact ⟨(0), (by first | rfl | (simp; done) | (simp [*]; done)), H', ⟨Nat.le_refl _⟩, by repeat (first | exact Drawn0.refl _ | apply Drawn0.step)⟩
  case round =>
   clear H'
   try clear c1
   try clear p2
   try clear c3
   try clear c3b0
   try clear c3b1
   try clear c3b2
   obtain ⟨x5_1, rfl, HA, HK1, ⟨m1, rfl⟩⟩ := hrel
   cases gk with
   | zero => exact absurd HA.out (by simp [laws_sameTones.l0])
   | succ k1 =>
    have H := HA.out
    clear HA
    simp only [laws_sameTones.l0] at H
    by_cases c4 : x5_1 < (l0.length : Int)
    ·rw [if_pos c4] at H
     have c4b0 : decide (x5_1 < (l0.length : Int)) = true := decide_eq_true c4
     clear c4
     by_cases c5 : 0 ≤ x5_1
     ·rw [if_pos c5] at H
      have c5b0 : decide (0 ≤ x5_1) = true := decide_eq_true c5
      clear c5
      by_cases c6 : x5_1 < (l1.length : Int)
      ·rw [if_pos c6] at H
       have c6b0 : decide (x5_1 < (l1.length : Int)) = true := decide_eq_true c6
       clear c6
       by_cases c7 : (!(((rd_T30 l0 x5_1).f0) == ((rd_T30 l1 x5_1).f0)) || (!(((rd_T30 l0 x5_1).f1) == ((rd_T30 l1 x5_1).f1)))) = true
       ·rw [if_pos c7] at H
        have c7b0 : (!(((rd_T30 l0 x5_1).f0) == ((rd_T30 l1 x5_1).f0)) || (!(((rd_T30 l0 x5_1).f1) == ((rd_T30 l1 x5_1).f1)))) = true := c7
        clear c7
        obtain rfl := Option.some.inj H
        have p309 : 0 ≤ (x5_1 : Int) := od
        have q309 : x5_1 < (l0.length : Int) := od
        obtain ⟨ad309, e309, hx309_0, hx309_1⟩ := at_T30 HR0.out x5_1 p309 q309
        cases e309
        replace p309 := eq_true p309
        replace q309 := eq_true q309
        have p310 : 0 ≤ (x5_1 : Int) := od
        have q310 : x5_1 < (l1.length : Int) := od
        obtain ⟨ad310, e310, hx310_0, hx310_1⟩ := at_T30 HR1.out x5_1 p310 q310
        cases e310
        replace p310 := eq_true p310
        replace q310 := eq_true q310
        go_wp2
        repeat (go_quiet (fail); try go_wp2)
        go_ret
        exact ⟨by first | rfl | (simp; done) | (simp [*]; done), by repeat (first | exact Drawn0.refl _ | apply Drawn0.step)⟩
       ·rw [if_neg c7] at H
        have c7b0 : (!(((rd_T30 l0 x5_1).f0) == ((rd_T30 l1 x5_1).f0)) || (!(((rd_T30 l0 x5_1).f1) == ((rd_T30 l1 x5_1).f1)))) = false := by simpa using c7
        clear c7
        have H' := am H
        clear H
        have p309 : 0 ≤ (x5_1 : Int) := od
        have q309 : x5_1 < (l0.length : Int) := od
        obtain ⟨ad309, e309, hx309_0, hx309_1⟩ := at_T30 HR0.out x5_1 p309 q309
        cases e309
        replace p309 := eq_true p309
        replace q309 := eq_true q309
        have p310 : 0 ≤ (x5_1 : Int) := od
        have q310 : x5_1 < (l1.length : Int) := od
        obtain ⟨ad310, e310, hx310_0, hx310_1⟩ := at_T30 HR1.out x5_1 p310 q310
        cases e310
        replace p310 := eq_true p310
        replace q310 := eq_true q310
        go_wp2
        repeat (go_quiet (fail); try go_wp2)
        go_roundg k1
        case measure => have := HK1.out; omega
        case rel => exact ⟨(wrap64 (x5_1 + 1)), (by first | rfl | (simp; done) | (simp [*]; done)), H', ⟨by have := HK1.out; omega⟩, by repeat (first | exact Drawn0.refl _ | apply Drawn0.step)⟩
      ·rw [if_neg c6] at H
       exact absurd H (by simp)
     ·rw [if_neg c5] at H
      exact absurd H (by simp)
    ·rw [if_neg c4] at H
     have c4b0 : decide (x5_1 < (l0.length : Int)) = false := decide_eq_false c4
     clear c4
     obtain rfl := Option.some.inj H
     go_wp2
     repeat (go_quiet (fail); try go_wp2)
     go_ret
     exact ⟨by first | rfl | (simp; done) | (simp [*]; done), by repeat (first | exact Drawn0.refl _ | apply Drawn0.step)⟩
 ·rw [if_neg c3] at H
  have c3b0 : ((l0.length : Int) == (l1.length : Int)) = false := beq_eq_false_iff_ne.mpr c3
  have c3b1 : ((l0.length : Int) != (l1.length : Int)) = true := bne_iff_ne.mpr c3
  have c3b2 : (l0.length == l1.length) = false := by first | simpa using c3 | (simp at c3 ⊢; omega)
  obtain rfl := Option.some.inj H
  go_enter Tryd.func30, Tryd.ntmps30
  go_wp2
  repeat (go_quiet (fail); try go_wp2)
  go_ret
  exact ⟨by first | rfl | (simp; done) | (simp [*]; done), by repeat (first | exact Drawn0.refl _ | apply Drawn0.step)⟩

/-! ### impl_DiscantTogether: function 31 -/
def impl_DiscantTogether.f (k : Nat) (l0 : List (S44)) (l1 : List (S44)) : Option (Bool) := (impl_soundsOf.f k l0 l1).bind fun bt311 => (some bt311.2)
set_option maxHeartbeats 8000000 in
set_option maxRecDepth 100000 in
theorem impl_DiscantTogether.calls (k : Nat) (A0 : Option Addr) (c0 : Nat) (l0 : List (S44)) (A1 : Option Addr) (c1 : Nat) (l1 : List (S44)) (r : Bool) (w : World) (hr0 : Kd.C k44 w A0 l0.length l0) (hc0 : l0.length ≤ c0) (hr1 : Kd.C k44 w A1 l1.length l1) (hc1 : l1.length ≤ c1) (h : impl_DiscantTogether.f k l0 l1 = some r) :
  Calls Tryd.prog 31 #[.slice A0 l0.length c0, .slice A1 l1.length c1] w fun e w' => e = .returned (.bool r) ∧ Below w.heap.size w w' := by
 have HR0 := am hr0
 have HC0 := am hc0
 clear hr0 hc0
 have HR1 := am hr1
 have HC1 := am hc1
 clear hr1 hc1
 have HB := am (Below.refl w.heap.size w)
 have H : ((impl_soundsOf.f k l0 l1).bind fun bt311 => (some bt311.2)) = some r := h
 clear h
 replace H := Option.bind_eq_some_iff.mp H
 obtain ⟨⟨t311, t312⟩, A30, H⟩ := H
 replace H : (some t312) = some r := H
 have A3 := am A30
 clear A30
 obtain rfl := Option.some.inj H
 go_enter Tryd.func31, Tryd.ntmps31
 go_wp2_with (first | ((with_reducible refine gate_callee (f := 68) rfl ?_); refine goesL_ (some 10) rfl rfl Tryd.func68 (by kernel_rfl) rfl #[.slice A0 l0.length c0, .slice A1 l1.length c1] rfl (by (try simp only [List.map_toArray, List.map_cons, List.map_nil]); first | done | rfl | (simp only [List.length_drop, List.length_take]; rfl)) ?_; (with_reducible refine (impl_soundsOf.calls k _ _ l0 _ _ l1 t311 t312 _ ?side1 ?side2 ?side3 ?side4 A3.out).mono ?_); (case side1 => exact cu HR0.out); (case side2 => exact HC0.out); (case side3 => exact cu HR1.out); (case side4 => exact HC1.out); rintro e w4 ⟨v313, rfl, ho0, hb⟩; refine ⟨_, rfl, ?_⟩; have n0_ := am (Kd.R_lower ho0 (below_size (bu HB.out))); have n1_ := am (below_step (bu HB.out) hb); clear HB; have HO314 := n0_; have HB := n1_; clear n0_ n1_; (try clear hb); (try clear hb2); (try clear hk); (try clear hi); (try clear ho0)))
 go_ret
 exact ⟨by first | rfl | (simp [errW_none, errW_some] <;> rfl) | (simp [*, errW_none, errW_some] <;> rfl), bu HB.out⟩

/-! ### laws_FnDiscantMove: function 5 -/
mutual
def laws_FnDiscantMove.j0 : Nat → List (S44) → Int → List (S44) → Bool → List (S44) → Bool → Bool → Option (Bool)
 | 0, _, _, _, _, _, _, _ => none
 | k + 1, x3, x4, x5, x6, x7, x8, x46 => if x46 = true then (if (x6 == x8) = true then ((laws_sameVoices.f k x5 x7).bind fun t328 => (some t328)) else (some false)) else (laws_FnDiscantMove.l0 k x3 x4 x5 (([] : List (S30))) (([] : List (S30))) 0)
def laws_FnDiscantMove.l0 : Nat → List (S44) → Int → List (S44) → List (S30) → List (S30) → Int → Option (Bool)
 | 0, _, _, _, _, _, _ => none
 | k + 1, x3, x4, x5, x9, x10, x11 => if x11 < (x3.length : Int) then (if 0 ≤ x11 then (if x9.length < 8796093022208 then (if x11 < (x5.length : Int) then (if x10.length < 8796093022208 then (if ((rd_T44 x5 x11).f1) = ((rd_T44 x3 x11).f1) then (laws_FnDiscantMove.l0 k x3 x4 x5 (x9 ++ [(⟨(rd_T44 x3 x11).f0.f0, (rd_T44 x3 x11).f0.f1⟩ : S30)]) (x10 ++ [(⟨(rd_T44 x5 x11).f0.f0, (rd_T44 x5 x11).f0.f1⟩ : S30)]) (wrap64 (x11 + 1))) else (some false)) else (none)) else (none)) else (none)) else (none)) else ((impl_MelodyMove.f k x9 x4).bind fun bt345 => (if bt345.2 = true then ((laws_sameTones.f k x10 bt345.1).bind fun t349 => (if t349 = true then ((impl_DiscantTogether.f k x3 x5).bind fun t350 => (if t350 = true then ((impl_DiscantContrary.f k x3 x5).bind fun t351 => (if t351 = 0 then ((impl_DiscantParallels.f k x3 x5).bind fun t352 => ((impl_DiscantParallels.f k x3 x3).bind fun t353 => (some (decide (t352 ≤ t353))))) else (some false))) else (some false))) else (some false))) else (some false)))
end
def laws_FnDiscantMove.f (k : Nat) (l0 : List Int) : Option (Bool) := if (l0.length : Int) > 1048576 then (some true) else ((spec_DrawDiscantMove.f k l0).bind fun bt315 => ((impl_DiscantMove.f k bt315.1 bt315.2).bind fun bt319 => ((spec_DiscantMove.f k bt315.1 bt315.2).bind fun bt323 => (if (bt319.2 != bt323.2) = true then (laws_FnDiscantMove.j0 k bt315.1 bt315.2 bt319.1 bt319.2 bt323.1 bt323.2 true) else ((laws_sameVoices.f k bt319.1 bt323.1).bind fun t327 => (if t327 = true then (laws_FnDiscantMove.j0 k bt315.1 bt315.2 bt319.1 bt319.2 bt323.1 bt323.2 (!bt319.2)) else (laws_FnDiscantMove.j0 k bt315.1 bt315.2 bt319.1 bt319.2 bt323.1 bt323.2 true)))))))
set_option maxHeartbeats 8000000 in
set_option maxRecDepth 100000 in
theorem laws_FnDiscantMove.calls (k : Nat) (A0 : Option Addr) (c0 : Nat) (l0 : List Int) (r : Bool) (w : World) (hr0 : Kd.C (Kd.int .u8) w A0 l0.length l0) (hc0 : l0.length ≤ c0) (hTH : TabH w) (hTI : TabI w) (h : laws_FnDiscantMove.f k l0 = some r) :
  Calls Tryd.prog 5 #[.slice A0 l0.length c0] w fun e w' => e = .returned (.bool r) ∧ Below w.heap.size w w' := by
 have hu30 := Tryd.underlying30
 have HTH := am hTH
 clear hTH
 have HTI := am hTI
 clear hTI
 have HR0 := am hr0
 have HC0 := am hc0
 clear hr0 hc0
 have HB := am (Below.refl w.heap.size w)
 have H : (if (l0.length : Int) > 1048576 then (some true) else ((spec_DrawDiscantMove.f k l0).bind fun bt315 => ((impl_DiscantMove.f k bt315.1 bt315.2).bind fun bt319 => ((spec_DiscantMove.f k bt315.1 bt315.2).bind fun bt323 => (if (bt319.2 != bt323.2) = true then (laws_FnDiscantMove.j0 k bt315.1 bt315.2 bt319.1 bt319.2 bt323.1 bt323.2 true) else ((laws_sameVoices.f k bt319.1 bt323.1).bind fun t327 => (if t327 = true then (laws_FnDiscantMove.j0 k bt315.1 bt315.2 bt319.1 bt319.2 bt323.1 bt323.2 (!bt319.2)) else (laws_FnDiscantMove.j0 k bt315.1 bt315.2 bt319.1 bt319.2 bt323.1 bt323.2 true)))))))) = some r := h
 clear h
 by_cases c2 : (l0.length : Int) > 1048576
 ·rw [if_pos c2] at H
  have c2b0 : decide (1048576 < (l0.length : Int)) = true := decide_eq_true c2
  have c2b1 : decide (1048576 < l0.length) = true := decide_eq_true (by omega)
  clear c2
  obtain rfl := Option.some.inj H
  go_enter Tryd.func5, Tryd.ntmps5
  go_wp2
  repeat (go_quiet (fail); try go_wp2)
  go_ret
  exact ⟨by first | rfl | (simp [errW_none, errW_some] <;> rfl) | (simp [*, errW_none, errW_some] <;> rfl), bu HB.out⟩
 ·rw [if_neg c2] at H
  have c2b0 : decide (1048576 < (l0.length : Int)) = false := decide_eq_false c2
  have c2b1 : decide (1048576 < l0.length) = false := decide_eq_false (by omega)
  clear c2
  replace H := Option.bind_eq_some_iff.mp H
  obtain ⟨⟨t315, t316⟩, A30, H⟩ := H
  replace H : ((impl_DiscantMove.f k t315 t316).bind fun bt319 => ((spec_DiscantMove.f k t315 t316).bind fun bt323 => (if (bt319.2 != bt323.2) = true then (laws_FnDiscantMove.j0 k t315 t316 bt319.1 bt319.2 bt323.1 bt323.2 true) else ((laws_sameVoices.f k bt319.1 bt323.1).bind fun t327 => (if t327 = true then (laws_FnDiscantMove.j0 k t315 t316 bt319.1 bt319.2 bt323.1 bt323.2 (!bt319.2)) else (laws_FnDiscantMove.j0 k t315 t316 bt319.1 bt319.2 bt323.1 bt323.2 true)))))) = some r := H
  have A3 := am A30
  clear A30
  replace H := Option.bind_eq_some_iff.mp H
  obtain ⟨⟨t319, t320⟩, A40, H⟩ := H
  replace H : ((spec_DiscantMove.f k t315 t316).bind fun bt323 => (if (t320 != bt323.2) = true then (laws_FnDiscantMove.j0 k t315 t316 t319 t320 bt323.1 bt323.2 true) else ((laws_sameVoices.f k t319 bt323.1).bind fun t327 => (if t327 = true then (laws_FnDiscantMove.j0 k t315 t316 t319 t320 bt323.1 bt323.2 (!t320)) else (laws_FnDiscantMove.j0 k t315 t316 t319 t320 bt323.1 bt323.2 true))))) = some r := H
  have A4 := am A40
  clear A40
  replace H := Option.bind_eq_some_iff.mp H
  obtain ⟨⟨t323, t324⟩, A50, H⟩ := H
  replace H : (if (t320 != t324) = true then (laws_FnDiscantMove.j0 k t315 t316 t319 t320 t323 t324 true) else ((laws_sameVoices.f k t319 t323).bind fun t327 => (if t327 = true then (laws_FnDiscantMove.j0 k t315 t316 t319 t320 t323 t324 (!t320)) else (laws_FnDiscantMove.j0 k t315 t316 t319 t320 t323 t324 true)))) = some r := H
  have A5 := am A50
  clear A50
  have HC6 := am H
  clear H
  go_enter Tryd.func5, Tryd.ntmps5
  go_upto_region 6 with (first | (go_at_call 25; (with_reducible refine (spec_DrawDiscantMove.calls k _ _ l0 t315 t316 _ ?side1 ?side2 A3.out).mono ?_); (case side1 => exact cu HR0.out); (case side2 => exact HC0.out); rintro e w7 ⟨v317, rfl, ho0, hb⟩; have n0_ := am (Kd.R_lower ho0 (below_size (bu HB.out))); have n1_ := am (below_step (bu HB.out) hb); clear HB; have HO318 := n0_; have HB := n1_; clear n0_ n1_; (try clear hb); (try clear hb2); (try clear hk); (try clear hi); (try clear ho0); obtain ⟨Ao8, co8, eo8⟩ := Kd.R_slice HO318.out; subst eo8) | (go_at_call 26; (with_reducible refine (impl_DiscantMove.calls k _ _ t315 t316 t319 t320 _ ?side1 ?side2 ?side3 A4.out).mono ?_); (case side1 => exact cu (Kd.R_reads' HO318.out).2.2); (case side2 => exact (Kd.R_reads' HO318.out).2.1); (case side3 => first | exact HTH.out | exact TabAt.below HTH.out (bu HB.out)); rintro e w9 ⟨v321, rfl, ho0, hb⟩; have n0_ := am (Kd.R_elder' (ru HO318.out) (Kd.R_base ho0) hb); have n1_ := am (Kd.R_lower (Kd.R_new' ho0 (Kd.R_lt (ru HO318.out))) (below_size (bu HB.out))); have n2_ := am (below_step (bu HB.out) hb); clear HO318; clear HB; have HO318 := n0_; have HO322 := n1_; have HB := n2_; clear n0_ n1_ n2_; (try clear hb); (try clear hb2); (try clear hk); (try clear hi); (try clear ho0)) | (go_at_call 27; (with_reducible refine (spec_DiscantMove.calls k _ _ t315 t316 t323 t324 _ ?side1 ?side2 A5.out).mono ?_); (case side1 => exact cu (Kd.R_reads' HO318.out).2.2); (case side2 => exact (Kd.R_reads' HO318.out).2.1); rintro e w10 ⟨v325, rfl, ho0, hb⟩; have n0_ := am (Kd.R_elder' (ru HO318.out) (Kd.R_base ho0) hb); have n1_ := am (Kd.R_elder' (ru HO322.out) (Kd.R_base ho0) hb); have n2_ := am (Kd.R_lower (Kd.R_new' (Kd.R_new' ho0 (Kd.R_lt (ru HO318.out))) (Kd.R_lt (ru HO322.out))) (below_size (bu HB.out))); have n3_ := am (below_step (bu HB.out) hb); clear HO318; clear HO322; clear HB; have HO318 := n0_; have HO322 := n1_; have HO326 := n2_; have HB := n3_; clear n0_ n1_ n2_ n3_; (try clear hb); (try clear hb2); (try clear hk); (try clear hi); (try clear ho0)))
  repeat (go_quiet (first | (go_at_call 25; (with_reducible refine (spec_DrawDiscantMove.calls k _ _ l0 t315 t316 _ ?side1 ?side2 A3.out).mono ?_); (case side1 => exact cu HR0.out); (case side2 => exact HC0.out); rintro e w7 ⟨v317, rfl, ho0, hb⟩; have n0_ := am (Kd.R_lower ho0 (below_size (bu HB.out))); have n1_ := am (below_step (bu HB.out) hb); clear HB; have HO318 := n0_; have HB := n1_; clear n0_ n1_; (try clear hb); (try clear hb2); (try clear hk); (try clear hi); (try clear ho0); obtain ⟨Ao8, co8, eo8⟩ := Kd.R_slice HO318.out; subst eo8) | (go_at_call 26; (with_reducible refine (impl_DiscantMove.calls k _ _ t315 t316 t319 t320 _ ?side1 ?side2 ?side3 A4.out).mono ?_); (case side1 => exact cu (Kd.R_reads' HO318.out).2.2); (case side2 => exact (Kd.R_reads' HO318.out).2.1); (case side3 => first | exact HTH.out | exact TabAt.below HTH.out (bu HB.out)); rintro e w9 ⟨v321, rfl, ho0, hb⟩; have n0_ := am (Kd.R_elder' (ru HO318.out) (Kd.R_base ho0) hb); have n1_ := am (Kd.R_lower (Kd.R_new' ho0 (Kd.R_lt (ru HO318.out))) (below_size (bu HB.out))); have n2_ := am (below_step (bu HB.out) hb); clear HO318; clear HB; have HO318 := n0_; have HO322 := n1_; have HB := n2_; clear n0_ n1_ n2_; (try clear hb); (try clear hb2); (try clear hk); (try clear hi); (try clear ho0)) | (go_at_call 27; (with_reducible refine (spec_DiscantMove.calls k _ _ t315 t316 t323 t324 _ ?side1 ?side2 A5.out).mono ?_); (case side1 => exact cu (Kd.R_reads' HO318.out).2.2); (case side2 => exact (Kd.R_reads' HO318.out).2.1); rintro e w10 ⟨v325, rfl, ho0, hb⟩; have n0_ := am (Kd.R_elder' (ru HO318.out) (Kd.R_base ho0) hb); have n1_ := am (Kd.R_elder' (ru HO322.out) (Kd.R_base ho0) hb); have n2_ := am (Kd.R_lower (Kd.R_new' (Kd.R_new' ho0 (Kd.R_lt (ru HO318.out))) (Kd.R_lt (ru HO322.out))) (below_size (bu HB.out))); have n3_ := am (below_step (bu HB.out) hb); clear HO318; clear HO322; clear HB; have HO318 := n0_; have HO322 := n1_; have HO326 := n2_; have HB := n3_; clear n0_ n1_ n2_ n3_; (try clear hb); (try clear hb2); (try clear hk); (try clear hi); (try clear ho0))); go_upto_region 6 with (first | (go_at_call 25; (with_reducible refine (spec_DrawDiscantMove.calls k _ _ l0 t315 t316 _ ?side1 ?side2 A3.out).mono ?_); (case side1 => exact cu HR0.out); (case side2 => exact HC0.out); rintro e w7 ⟨v317, rfl, ho0, hb⟩; have n0_ := am (Kd.R_lower ho0 (below_size (bu HB.out))); have n1_ := am (below_step (bu HB.out) hb); clear HB; have HO318 := n0_; have HB := n1_; clear n0_ n1_; (try clear hb); (try clear hb2); (try clear hk); (try clear hi); (try clear ho0); obtain ⟨Ao8, co8, eo8⟩ := Kd.R_slice HO318.out; subst eo8) | (go_at_call 26; (with_reducible refine (impl_DiscantMove.calls k _ _ t315 t316 t319 t320 _ ?side1 ?side2 ?side3 A4.out).mono ?_); (case side1 => exact cu (Kd.R_reads' HO318.out).2.2); (case side2 => exact (Kd.R_reads' HO318.out).2.1); (case side3 => first | exact HTH.out | exact TabAt.below HTH.out (bu HB.out)); rintro e w9 ⟨v321, rfl, ho0, hb⟩; have n0_ := am (Kd.R_elder' (ru HO318.out) (Kd.R_base ho0) hb); have n1_ := am (Kd.R_lower (Kd.R_new' ho0 (Kd.R_lt (ru HO318.out))) (below_size (bu HB.out))); have n2_ := am (below_step (bu HB.out) hb); clear HO318; clear HB; have HO318 := n0_; have HO322 := n1_; have HB := n2_; clear n0_ n1_ n2_; (try clear hb); (try clear hb2); (try clear hk); (try clear hi); (try clear ho0)) | (go_at_call 27; (with_reducible refine (spec_DiscantMove.calls k _ _ t315 t316 t323 t324 _ ?side1 ?side2 A5.out).mono ?_); (case side1 => exact cu (Kd.R_reads' HO318.out).2.2); (case side2 => exact (Kd.R_reads' HO318.out).2.1); rintro e w10 ⟨v325, rfl, ho0, hb⟩; have n0_ := am (Kd.R_elder' (ru HO318.out) (Kd.R_base ho0) hb); have n1_ := am (Kd.R_elder' (ru HO322.out) (Kd.R_base ho0) hb); have n2_ := am (Kd.R_lower (Kd.R_new' (Kd.R_new' ho0 (Kd.R_lt (ru HO318.out))) (Kd.R_lt (ru HO322.out))) (below_size (bu HB.out))); have n3_ := am (below_step (bu HB.out) hb); clear HO318; clear HO322; clear HB; have HO318 := n0_; have HO322 := n1_; have HO326 := n2_; have HB := n3_; clear n0_ n1_ n2_ n3_; (try clear hb); (try clear hb2); (try clear hk); (try clear hi); (try clear ho0))))
  (try simp only [Act.put, sA, sZ, sS])
  go_cut [46] (fun v46 wc => ∃ (kq : Nat) (x46_5 : Bool), v46 = .bool x46_5 ∧ Aside0 (laws_FnDiscantMove.j0 kq t315 t316 t319 t320 t323 t324 x46_5 = some r) ∧ Aside0 (kq ≤ k) ∧ Aside0 (Kd.R k44 44 wc w.heap.size (fun k_ => some k_ ≠ (v321 : Value).ownBlock ∧ some k_ ≠ (v325 : Value).ownBlock) (.slice Ao8 t315.length co8) t315) ∧ Aside0 (Kd.R k44 44 wc w.heap.size (fun k_ => some k_ ≠ ((.slice Ao8 t315.length co8) : Value).ownBlock ∧ some k_ ≠ (v325 : Value).ownBlock) v321 t319) ∧ Aside0 (Kd.R k44 44 wc w.heap.size (fun k_ => some k_ ≠ ((.slice Ao8 t315.length co8) : Value).ownBlock ∧ some k_ ≠ (v321 : Value).ownBlock) v325 t323) ∧ Aside0 (Below w.heap.size w wc))
  case first =>
   have H := HC6.out
   clear HC6
   by_cases c11 : (t320 != t324) = true
   ·rw [if_pos c11] at H
    have c11b0 : (t320 != t324) = true := c11
    (try (have c11b1 : decide (t320 = t324) = false := by simpa using c11))
    (try (have c11b2 : (t320 == t324) = false := by simpa using c11))
    (try (have c11b3 : ¬ (t320 = t324) := by simpa using c11))
    clear c11
    (first | rw [c11b0] | (simp only [i64_w, i32_w]; rw [c11b0]) | skip)
    have H' := am H
    clear H
    go_wp2
    repeat (go_quiet (fail); try go_wp2)
    go_meet
    case rel => exact ⟨_, (true), (by first | rfl | (simp; done) | (simp [*]; done)), H', ⟨by first | omega | exact Nat.le_refl _⟩, ⟨by (with_reducible repeat (first | apply Kd.R_alloc | apply Kd.R_drewN | apply Kd.R_drew)); exact Kd.R_mono HO318.out (fun _ hk => ⟨hk.1.2, hk.2⟩)⟩, ⟨by (with_reducible repeat (first | apply Kd.R_alloc | apply Kd.R_drewN | apply Kd.R_drew)); exact Kd.R_mono HO322.out (fun _ hk => ⟨hk.1.2, hk.2⟩)⟩, ⟨by (with_reducible repeat (first | apply Kd.R_alloc | apply Kd.R_drewN | apply Kd.R_drew)); exact Kd.R_mono HO326.out (fun _ hk => ⟨hk.1.2, hk.2⟩)⟩, ⟨bu HB.out⟩⟩
   ·rw [if_neg c11] at H
    have c11b0 : (t320 != t324) = false := by simpa using c11
    (try (have c11b1 : decide (t320 = t324) = true := by simpa using c11))
    (try (have c11b2 : (t320 == t324) = true := by simpa using c11))
    clear c11
    (first | rw [c11b0] | (simp only [i64_w, i32_w]; rw [c11b0]) | skip)
    replace H := Option.bind_eq_some_iff.mp H
    obtain ⟨t327, A120, H⟩ := H
    replace H : (if t327 = true then (laws_FnDiscantMove.j0 k t315 t316 t319 t320 t323 t324 (!t320)) else (laws_FnDiscantMove.j0 k t315 t316 t319 t320 t323 t324 true)) = some r := H
    have A12 := am A120
    clear A120
    by_cases c13 : t327 = true
    ·subst c13
     have H1 : (laws_FnDiscantMove.j0 k t315 t316 t319 t320 t323 t324 (!t320)) = some r := by rw [if_pos rfl] at H; exact H
     clear H
     have H := H1
     clear H1
     have H' := am H
     clear H
     obtain ⟨Ao14, co14, eo14⟩ := Kd.R_slice HO322.out
     subst eo14
     obtain ⟨Ao15, co15, eo15⟩ := Kd.R_slice HO326.out
     subst eo15
     go_wp2_with (first | (go_at_call 28; (with_reducible refine (laws_sameVoices.calls k _ _ t319 _ _ t323 true _ ?side1 ?side2 ?side3 ?side4 A12.out).mono ?_); (case side1 => exact cu (Kd.R_reads' HO322.out).2.2); (case side2 => exact (Kd.R_reads' HO322.out).2.1); (case side3 => exact cu (Kd.R_reads' HO326.out).2.2); (case side4 => exact (Kd.R_reads' HO326.out).2.1); rintro e w' ⟨rfl, ⟨nd, rfl⟩⟩; (try first | exact ⟨rfl, _, World.drewN_drewN _ _ _⟩ | exact ⟨rfl, _, Eq.trans (World.drewN_drewN _ _ _) (congrArg (World.drewN _) (Nat.add_assoc _ _ _))⟩)))
     repeat (go_quiet (first | (go_at_call 28; (with_reducible refine (laws_sameVoices.calls k _ _ t319 _ _ t323 true _ ?side1 ?side2 ?side3 ?side4 A12.out).mono ?_); (case side1 => exact cu (Kd.R_reads' HO322.out).2.2); (case side2 => exact (Kd.R_reads' HO322.out).2.1); (case side3 => exact cu (Kd.R_reads' HO326.out).2.2); (case side4 => exact (Kd.R_reads' HO326.out).2.1); rintro e w' ⟨rfl, ⟨nd, rfl⟩⟩; (try first | exact ⟨rfl, _, World.drewN_drewN _ _ _⟩ | exact ⟨rfl, _, Eq.trans (World.drewN_drewN _ _ _) (congrArg (World.drewN _) (Nat.add_assoc _ _ _))⟩))); try go_wp2_with (first | (go_at_call 28; (with_reducible refine (laws_sameVoices.calls k _ _ t319 _ _ t323 true _ ?side1 ?side2 ?side3 ?side4 A12.out).mono ?_); (case side1 => exact cu (Kd.R_reads' HO322.out).2.2); (case side2 => exact (Kd.R_reads' HO322.out).2.1); (case side3 => exact cu (Kd.R_reads' HO326.out).2.2); (case side4 => exact (Kd.R_reads' HO326.out).2.1); rintro e w' ⟨rfl, ⟨nd, rfl⟩⟩; (try first | exact ⟨rfl, _, World.drewN_drewN _ _ _⟩ | exact ⟨rfl, _, Eq.trans (World.drewN_drewN _ _ _) (congrArg (World.drewN _) (Nat.add_assoc _ _ _))⟩))))
     go_meet
     case rel => exact ⟨_, (!t320), (by first | rfl | (simp; done) | (simp [*]; done)), H', ⟨by first | omega | exact Nat.le_refl _⟩, ⟨by (with_reducible repeat (first | apply Kd.R_alloc | apply Kd.R_drewN | apply Kd.R_drew)); exact Kd.R_mono HO318.out (fun _ hk => ⟨hk.1.2, hk.2⟩)⟩, ⟨by (with_reducible repeat (first | apply Kd.R_alloc | apply Kd.R_drewN | apply Kd.R_drew)); exact Kd.R_mono HO322.out (fun _ hk => ⟨hk.1.2, hk.2⟩)⟩, ⟨by (with_reducible repeat (first | apply Kd.R_alloc | apply Kd.R_drewN | apply Kd.R_drew)); exact Kd.R_mono HO326.out (fun _ hk => ⟨hk.1.2, hk.2⟩)⟩, ⟨bu HB.out⟩⟩
    ·replace c13 := Bool.eq_false_iff.mpr c13
     subst c13
     have H1 : (laws_FnDiscantMove.j0 k t315 t316 t319 t320 t323 t324 true) = some r := by rw [if_neg (show ¬ (false = true) by decide)] at H; exact H
     clear H
     have H := H1
     clear H1
     have H' := am H
     clear H
     obtain ⟨Ao16, co16, eo16⟩ := Kd.R_slice HO322.out
     subst eo16
     obtain ⟨Ao17, co17, eo17⟩ := Kd.R_slice HO326.out
     subst eo17
     go_wp2_with (first | (go_at_call 28; (with_reducible refine (laws_sameVoices.calls k _ _ t319 _ _ t323 false _ ?side1 ?side2 ?side3 ?side4 A12.out).mono ?_); (case side1 => exact cu (Kd.R_reads' HO322.out).2.2); (case side2 => exact (Kd.R_reads' HO322.out).2.1); (case side3 => exact cu (Kd.R_reads' HO326.out).2.2); (case side4 => exact (Kd.R_reads' HO326.out).2.1); rintro e w' ⟨rfl, ⟨nd, rfl⟩⟩; (try first | exact ⟨rfl, _, World.drewN_drewN _ _ _⟩ | exact ⟨rfl, _, Eq.trans (World.drewN_drewN _ _ _) (congrArg (World.drewN _) (Nat.add_assoc _ _ _))⟩)))
     repeat (go_quiet (first | (go_at_call 28; (with_reducible refine (laws_sameVoices.calls k _ _ t319 _ _ t323 false _ ?side1 ?side2 ?side3 ?side4 A12.out).mono ?_); (case side1 => exact cu (Kd.R_reads' HO322.out).2.2); (case side2 => exact (Kd.R_reads' HO322.out).2.1); (case side3 => exact cu (Kd.R_reads' HO326.out).2.2); (case side4 => exact (Kd.R_reads' HO326.out).2.1); rintro e w' ⟨rfl, ⟨nd, rfl⟩⟩; (try first | exact ⟨rfl, _, World.drewN_drewN _ _ _⟩ | exact ⟨rfl, _, Eq.trans (World.drewN_drewN _ _ _) (congrArg (World.drewN _) (Nat.add_assoc _ _ _))⟩))); try go_wp2_with (first | (go_at_call 28; (with_reducible refine (laws_sameVoices.calls k _ _ t319 _ _ t323 false _ ?side1 ?side2 ?side3 ?side4 A12.out).mono ?_); (case side1 => exact cu (Kd.R_reads' HO322.out).2.2); (case side2 => exact (Kd.R_reads' HO322.out).2.1); (case side3 => exact cu (Kd.R_reads' HO326.out).2.2); (case side4 => exact (Kd.R_reads' HO326.out).2.1); rintro e w' ⟨rfl, ⟨nd, rfl⟩⟩; (try first | exact ⟨rfl, _, World.drewN_drewN _ _ _⟩ | exact ⟨rfl, _, Eq.trans (World.drewN_drewN _ _ _) (congrArg (World.drewN _) (Nat.add_assoc _ _ _))⟩))))
     go_meet
     case rel => exact ⟨_, (true), (by first | rfl | (simp; done) | (simp [*]; done)), H', ⟨by first | omega | exact Nat.le_refl _⟩, ⟨by (with_reducible repeat (first | apply Kd.R_alloc | apply Kd.R_drewN | apply Kd.R_drew)); exact Kd.R_mono HO318.out (fun _ hk => ⟨hk.1.2, hk.2⟩)⟩, ⟨by (with_reducible repeat (first | apply Kd.R_alloc | apply Kd.R_drewN | apply Kd.R_drew)); exact Kd.R_mono HO322.out (fun _ hk => ⟨hk.1.2, hk.2⟩)⟩, ⟨by (with_reducible repeat (first | apply Kd.R_alloc | apply Kd.R_drewN | apply Kd.R_drew)); exact Kd.R_mono HO326.out (fun _ hk => ⟨hk.1.2, hk.2⟩)⟩, ⟨bu HB.out⟩⟩
  case rest =>
   clear HC6
   try clear c1
   try clear c2
   try clear c2b0
   try clear c2b1
   try clear p2
   try clear c5
   try clear c11
   try clear c11b0
   try clear c11b1
   try clear c11b2
   try clear c13
   obtain ⟨kq, x46_5, rfl, HA, HJ5, HO_3, HO_5, HO_7, HB⟩ := hcut
   cases kq with
   | zero => exact absurd HA.out (by simp [laws_FnDiscantMove.j0])
   | succ kj5 =>
    have H := HA.out
    clear HA
    simp only [laws_FnDiscantMove.j0] at H
    by_cases c18 : x46_5 = true
    ·subst c18
     have H1 : (if (t320 == t324) = true then ((laws_sameVoices.f kj5 t319 t323).bind fun t328 => (some t328)) else (some false)) = some r := by rw [if_pos rfl] at H; exact H
     clear H
     have H := H1
     clear H1
     by_cases c19 : (t320 == t324) = true
     ·rw [if_pos c19] at H
      have c19b0 : (t320 == t324) = true := c19
      (try (have c19b1 : decide (t320 = t324) = true := by simpa using c19))
      (try (have c19b2 : (t320 == t324) = true := by simpa using c19))
      clear c19
      replace H := Option.bind_eq_some_iff.mp H
      obtain ⟨t328, A200, H⟩ := H
      replace H : (some t328) = some r := H
      have A20 := am A200
      clear A200
      obtain rfl := Option.some.inj H
      obtain ⟨Ao21, co21, eo21⟩ := Kd.R_slice HO_5.out
      subst eo21
      obtain ⟨Ao22, co22, eo22⟩ := Kd.R_slice HO_7.out
      subst eo22
      go_wp2_with (first | (go_at_call 28; (with_reducible refine (laws_sameVoices.calls kj5 _ _ t319 _ _ t323 t328 _ ?side1 ?side2 ?side3 ?side4 A20.out).mono ?_); (case side1 => exact cu (Kd.R_reads' HO_5.out).2.2); (case side2 => exact (Kd.R_reads' HO_5.out).2.1); (case side3 => exact cu (Kd.R_reads' HO_7.out).2.2); (case side4 => exact (Kd.R_reads' HO_7.out).2.1); rintro e w' ⟨rfl, ⟨nd, rfl⟩⟩; (try first | exact ⟨rfl, _, World.drewN_drewN _ _ _⟩ | exact ⟨rfl, _, Eq.trans (World.drewN_drewN _ _ _) (congrArg (World.drewN _) (Nat.add_assoc _ _ _))⟩)))
      repeat (go_quiet (first | (go_at_call 28; (with_reducible refine (laws_sameVoices.calls kj5 _ _ t319 _ _ t323 t328 _ ?side1 ?side2 ?side3 ?side4 A20.out).mono ?_); (case side1 => exact cu (Kd.R_reads' HO_5.out).2.2); (case side2 => exact (Kd.R_reads' HO_5.out).2.1); (case side3 => exact cu (Kd.R_reads' HO_7.out).2.2); (case side4 => exact (Kd.R_reads' HO_7.out).2.1); rintro e w' ⟨rfl, ⟨nd, rfl⟩⟩; (try first | exact ⟨rfl, _, World.drewN_drewN _ _ _⟩ | exact ⟨rfl, _, Eq.trans (World.drewN_drewN _ _ _) (congrArg (World.drewN _) (Nat.add_assoc _ _ _))⟩))); try go_wp2_with (first | (go_at_call 28; (with_reducible refine (laws_sameVoices.calls kj5 _ _ t319 _ _ t323 t328 _ ?side1 ?side2 ?side3 ?side4 A20.out).mono ?_); (case side1 => exact cu (Kd.R_reads' HO_5.out).2.2); (case side2 => exact (Kd.R_reads' HO_5.out).2.1); (case side3 => exact cu (Kd.R_reads' HO_7.out).2.2); (case side4 => exact (Kd.R_reads' HO_7.out).2.1); rintro e w' ⟨rfl, ⟨nd, rfl⟩⟩; (try first | exact ⟨rfl, _, World.drewN_drewN _ _ _⟩ | exact ⟨rfl, _, Eq.trans (World.drewN_drewN _ _ _) (congrArg (World.drewN _) (Nat.add_assoc _ _ _))⟩))))
      go_ret
      exact ⟨by first | rfl | (simp [errW_none, errW_some] <;> rfl) | (simp [*, errW_none, errW_some] <;> rfl), bu HB.out⟩
     ·rw [if_neg c19] at H
      have c19b0 : (t320 == t324) = false := by simpa using c19
      (try (have c19b1 : decide (t320 = t324) = false := by simpa using c19))
      (try (have c19b2 : (t320 == t324) = false := by simpa using c19))
      (try (have c19b3 : ¬ (t320 = t324) := by simpa using c19))
      clear c19
      obtain rfl := Option.some.inj H
      go_wp2
      repeat (go_quiet (fail); try go_wp2)
      go_ret
      exact ⟨by first | rfl | (simp [errW_none, errW_some] <;> rfl) | (simp [*, errW_none, errW_some] <;> rfl), bu HB.out⟩
    ·replace c18 := Bool.eq_false_iff.mpr c18
     subst c18
     have H1 : (laws_FnDiscantMove.l0 kj5 t315 t316 t319 (([] : List (S30))) (([] : List (S30))) 0) = some r := by rw [if_neg (show ¬ (false = true) by decide)] at H; exact H
     clear H
     have H := H1
     clear H1
     obtain ⟨y329, hy329⟩ : ∃ y_ : List (S30), y_ = (([] : List (S30))) := ⟨_, rfl⟩
     replace H : (laws_FnDiscantMove.l0 kj5 t315 t316 t319 y329 (([] : List (S30))) 0) = some r := by first | (rw [hy329]; with_reducible exact H) | (have H2_ := (Option.bind_some _ _).symm.trans H; rw [hy329]; with_reducible exact H2_) | (have H2_ := (Option.bind_some _ _).symm.trans H; with_reducible exact H2_) | with_reducible exact H | (rw [hy329]; exact H) | exact H
     have Ny329 := am hy329
     clear hy329
     obtain ⟨y332, hy332⟩ : ∃ y_ : List (S30), y_ = (([] : List (S30))) := ⟨_, rfl⟩
     replace H : (laws_FnDiscantMove.l0 kj5 t315 t316 t319 y329 y332 0) = some r := by first | (rw [hy332]; with_reducible exact H) | (have H2_ := (Option.bind_some _ _).symm.trans H; rw [hy332]; with_reducible exact H2_) | (have H2_ := (Option.bind_some _ _).symm.trans H; with_reducible exact H2_) | with_reducible exact H | (rw [hy332]; exact H) | exact H
     have Ny332 := am hy332
     clear hy332
     have H' := am H
     clear H
     go_wp2_with (first | ((with_reducible refine gate_dst (N := 55) rfl ?_); refine Kd.R_lit k30 _ 30 ?hg (N := 55) ?hd (xs := ([] : List (S30))) (inner := []) (ok := fun _ => True) (okp := fun _ => True) ?hr ?hp (fun _ hk => hk) trivial (Below.refl _ _) (Nat.le_refl _) (by simp) ?_; (case hd => rfl); (case hg => rfl); (case hr => first | (go_simp; done) | (go_simp; rfl)); (case hp => exact (Reps.none _ _)); intro v330 w23 ho24 hb hg_ hnew_; clear hg_ hnew_; (first | rw [← Ny329.out] at ho24 | (simp only [Int.reduceToNat] at ho24; rw [← Ny329.out] at ho24)); have n0_ := am (Kd.R_below (ru HO_3.out) hb); have n1_ := am (Kd.R_below (ru HO_5.out) hb); have n2_ := am (Kd.R_below (ru HO_7.out) hb); have n3_ := am (Kd.R_lower ho24 (below_size (bu HB.out))); have n4_ := am (below_step (bu HB.out) hb); clear HO_3; clear HO_5; clear HO_7; clear HB; have HO_3 := n0_; have HO_5 := n1_; have HO_7 := n2_; have HO331 := n3_; have HB := n4_; clear n0_ n1_ n2_ n3_ n4_; clear hb ho24) | ((with_reducible refine gate_dst (N := 56) rfl ?_); refine Kd.R_lit k30 _ 30 ?hg (N := 56) ?hd (xs := ([] : List (S30))) (inner := []) (ok := fun _ => True) (okp := fun _ => True) ?hr ?hp (fun _ hk => hk) trivial (Below.refl _ _) (Nat.le_refl _) (by simp) ?_; (case hd => rfl); (case hg => rfl); (case hr => first | (go_simp; done) | (go_simp; rfl)); (case hp => exact (Reps.none _ _)); intro v333 w25 ho26 hb hg_ hnew_; clear hg_ hnew_; (first | rw [← Ny332.out] at ho26 | (simp only [Int.reduceToNat] at ho26; rw [← Ny332.out] at ho26)); have n0_ := am (Kd.R_below (ru HO_3.out) hb); have n1_ := am (Kd.R_below (ru HO_5.out) hb); have n2_ := am (Kd.R_below (ru HO_7.out) hb); have n3_ := am (Kd.R_elder' (ru HO331.out) (Kd.R_base ho26) hb); have n4_ := am (Kd.R_lower (Kd.R_new' ho26 (Kd.R_lt (ru HO331.out))) (below_size (bu HB.out))); have n5_ := am (below_step (bu HB.out) hb); clear HO_3; clear HO_5; clear HO_7; clear HO331; clear HB; have HO_3 := n0_; have HO_5 := n1_; have HO_7 := n2_; have HO331 := n3_; have HO334 := n4_; have HB := n5_; clear n0_ n1_ n2_ n3_ n4_ n5_; clear hb ho26))
     repeat (go_quiet (first | ((with_reducible refine gate_dst (N := 55) rfl ?_); refine Kd.R_lit k30 _ 30 ?hg (N := 55) ?hd (xs := ([] : List (S30))) (inner := []) (ok := fun _ => True) (okp := fun _ => True) ?hr ?hp (fun _ hk => hk) trivial (Below.refl _ _) (Nat.le_refl _) (by simp) ?_; (case hd => rfl); (case hg => rfl); (case hr => first | (go_simp; done) | (go_simp; rfl)); (case hp => exact (Reps.none _ _)); intro v330 w23 ho24 hb hg_ hnew_; clear hg_ hnew_; (first | rw [← Ny329.out] at ho24 | (simp only [Int.reduceToNat] at ho24; rw [← Ny329.out] at ho24)); have n0_ := am (Kd.R_below (ru HO_3.out) hb); have n1_ := am (Kd.R_below (ru HO_5.out) hb); have n2_ := am (Kd.R_below (ru HO_7.out) hb); have n3_ := am (Kd.R_lower ho24 (below_size (bu HB.out))); have n4_ := am (below_step (bu HB.out) hb); clear HO_3; clear HO_5; clear HO_7; clear HB; have HO_3 := n0_; have HO_5 := n1_; have HO_7 := n2_; have HO331 := n3_; have HB := n4_; clear n0_ n1_ n2_ n3_ n4_; clear hb ho24) | ((with_reducible refine gate_dst (N := 56) rfl ?_); refine Kd.R_lit k30 _ 30 ?hg (N := 56) ?hd (xs := ([] : List (S30))) (inner := []) (ok := fun _ => True) (okp := fun _ => True) ?hr ?hp (fun _ hk => hk) trivial (Below.refl _ _) (Nat.le_refl _) (by simp) ?_; (case hd => rfl); (case hg => rfl); (case hr => first | (go_simp; done) | (go_simp; rfl)); (case hp => exact (Reps.none _ _)); intro v333 w25 ho26 hb hg_ hnew_; clear hg_ hnew_; (first | rw [← Ny332.out] at ho26 | (simp only [Int.reduceToNat] at ho26; rw [← Ny332.out] at ho26)); have n0_ := am (Kd.R_below (ru HO_3.out) hb); have n1_ := am (Kd.R_below (ru HO_5.out) hb); have n2_ := am (Kd.R_below (ru HO_7.out) hb); have n3_ := am (Kd.R_elder' (ru HO331.out) (Kd.R_base ho26) hb); have n4_ := am (Kd.R_lower (Kd.R_new' ho26 (Kd.R_lt (ru HO331.out))) (below_size (bu HB.out))); have n5_ := am (below_step (bu HB.out) hb); clear HO_3; clear HO_5; clear HO_7; clear HO331; clear HB; have HO_3 := n0_; have HO_5 := n1_; have HO_7 := n2_; have HO331 := n3_; have HO334 := n4_; have HB := n5_; clear n0_ n1_ n2_ n3_ n4_ n5_; clear hb ho26)); try go_wp2_with (first | ((with_reducible refine gate_dst (N := 55) rfl ?_); refine Kd.R_lit k30 _ 30 ?hg (N := 55) ?hd (xs := ([] : List (S30))) (inner := []) (ok := fun _ => True) (okp := fun _ => True) ?hr ?hp (fun _ hk => hk) trivial (Below.refl _ _) (Nat.le_refl _) (by simp) ?_; (case hd => rfl); (case hg => rfl); (case hr => first | (go_simp; done) | (go_simp; rfl)); (case hp => exact (Reps.none _ _)); intro v330 w23 ho24 hb hg_ hnew_; clear hg_ hnew_; (first | rw [← Ny329.out] at ho24 | (simp only [Int.reduceToNat] at ho24; rw [← Ny329.out] at ho24)); have n0_ := am (Kd.R_below (ru HO_3.out) hb); have n1_ := am (Kd.R_below (ru HO_5.out) hb); have n2_ := am (Kd.R_below (ru HO_7.out) hb); have n3_ := am (Kd.R_lower ho24 (below_size (bu HB.out))); have n4_ := am (below_step (bu HB.out) hb); clear HO_3; clear HO_5; clear HO_7; clear HB; have HO_3 := n0_; have HO_5 := n1_; have HO_7 := n2_; have HO331 := n3_; have HB := n4_; clear n0_ n1_ n2_ n3_ n4_; clear hb ho24) | ((with_reducible refine gate_dst (N := 56) rfl ?_); refine Kd.R_lit k30 _ 30 ?hg (N := 56) ?hd (xs := ([] : List (S30))) (inner := []) (ok := fun _ => True) (okp := fun _ => True) ?hr ?hp (fun _ hk => hk) trivial (Below.refl _ _) (Nat.le_refl _) (by simp) ?_; (case hd => rfl); (case hg => rfl); (case hr => first | (go_simp; done) | (go_simp; rfl)); (case hp => exact (Reps.none _ _)); intro v333 w25 ho26 hb hg_ hnew_; clear hg_ hnew_; (first | rw [← Ny332.out] at ho26 | (simp only [Int.reduceToNat] at ho26; rw [← Ny332.out] at ho26)); have n0_ := am (Kd.R_below (ru HO_3.out) hb); have n1_ := am (Kd.R_below (ru HO_5.out) hb); have n2_ := am (Kd.R_below (ru HO_7.out) hb); have n3_ := am (Kd.R_elder' (ru HO331.out) (Kd.R_base ho26) hb); have n4_ := am (Kd.R_lower (Kd.R_new' ho26 (Kd.R_lt (ru HO331.out))) (below_size (bu HB.out))); have n5_ := am (below_step (bu HB.out) hb); clear HO_3; clear HO_5; clear HO_7; clear HO331; clear HB; have HO_3 := n0_; have HO_5 := n1_; have HO_7 := n2_; have HO331 := n3_; have HO334 := n4_; have HB := n5_; clear n0_ n1_ n2_ n3_ n4_ n5_; clear hb ho26)))
     go_loopg [9, 10, 11] kj5 (fun kq v9 v10 v11 w' => ∃ (x9_2 : List (S30)) (x10_2 : List (S30)) (x11_2 : Int), v11 = .int .i64 x11_2 ∧ Aside0 (laws_FnDiscantMove.l0 kq t315 t316 t319 x9_2 x10_2 x11_2 = some r) ∧ Aside0 (kq ≤ kj5) ∧ Aside0 (Kd.R k44 44 w' w.heap.size (fun k_ => some k_ ≠ (v321 : Value).ownBlock) (.slice Ao8 t315.length co8) t315) ∧ Aside0 (Kd.R k44 44 w' w.heap.size (fun k_ => some k_ ≠ ((.slice Ao8 t315.length co8) : Value).ownBlock) v321 t319) ∧ Aside0 (Kd.R k30 30 w' w.heap.size (fun k_ => some k_ ≠ (v10 : Value).ownBlock) v9 x9_2) ∧ Aside0 (Kd.R k30 30 w' w.heap.size (fun k_ => some k_ ≠ (v9 : Value).ownBlock) v10 x10_2) ∧ Aside0 (Below w.heap.size w w'))
     case atStart => exact ⟨(y329), (y332), (0), (by first | rfl | (simp; done) | (simp [*]; done)), H', ⟨Nat.le_refl _⟩, ⟨by (with_reducible repeat (first | apply Kd.R_alloc | apply Kd.R_drewN | apply Kd.R_drew)); exact Kd.R_mono HO_3.out (fun _ hk => hk.1)⟩, ⟨by (with_reducible repeat (first | apply Kd.R_alloc | apply Kd.R_drewN | apply Kd.R_drew)); exact Kd.R_mono HO_5.out (fun _ hk => hk.1)⟩, ⟨by (with_reducible repeat (first | apply Kd.R_alloc | apply Kd.R_drewN | apply Kd.R_drew)); exact Kd.R_mono HO331.out (fun _ hk => hk.2)⟩, ⟨by (with_reducible repeat (first | apply Kd.R_alloc | apply Kd.R_drewN | apply Kd.R_drew)); exact Kd.R_mono HO334.out (fun _ hk => hk.2)⟩, ⟨bu HB.out⟩⟩
     case round =>
      clear H'
      try clear c1
      try clear c2
      try clear c2b0
      try clear c2b1
      try clear p2
      try clear c5
      try clear c11
      try clear c11b0
      try clear c11b1
      try clear c11b2
      try clear c13
      try clear c18
      try clear c19
      try clear c19b0
      try clear c19b1
      try clear c19b2
      try clear p2
      obtain ⟨x9_2, x10_2, x11_2, rfl, HA, HK2, HO_3, HO_5, HO_9, HO_10, HB⟩ := hrel
      cases gk with
      | zero => exact absurd HA.out (by simp [laws_FnDiscantMove.l0])
      | succ k2 =>
       have H := HA.out
       clear HA
       simp only [laws_FnDiscantMove.l0] at H
       by_cases c27 : x11_2 < (t315.length : Int)
       ·rw [if_pos c27] at H
        have c27b0 : decide (x11_2 < (t315.length : Int)) = true := decide_eq_true c27
        clear c27
        by_cases c28 : 0 ≤ x11_2
        ·rw [if_pos c28] at H
         have c28b0 : decide (0 ≤ x11_2) = true := decide_eq_true c28
         clear c28
         by_cases c29 : x9_2.length < 8796093022208
         ·rw [if_pos c29] at H
          have LMc29 := am c29
          clear c29
          obtain ⟨y336, hy336⟩ : ∃ y_ : List (S30), y_ = (x9_2 ++ [(⟨(rd_T44 t315 x11_2).f0.f0, (rd_T44 t315 x11_2).f0.f1⟩ : S30)]) := ⟨_, rfl⟩
          replace H : (if x11_2 < (t319.length : Int) then (if x10_2.length < 8796093022208 then (if ((rd_T44 t319 x11_2).f1) = ((rd_T44 t315 x11_2).f1) then (laws_FnDiscantMove.l0 k2 t315 t316 t319 y336 (x10_2 ++ [(⟨(rd_T44 t319 x11_2).f0.f0, (rd_T44 t319 x11_2).f0.f1⟩ : S30)]) (wrap64 (x11_2 + 1))) else (some false)) else (none)) else (none)) = some r := by first | (rw [hy336]; with_reducible exact H) | (have H2_ := (Option.bind_some _ _).symm.trans H; rw [hy336]; with_reducible exact H2_) | (have H2_ := (Option.bind_some _ _).symm.trans H; with_reducible exact H2_) | with_reducible exact H | (rw [hy336]; exact H) | exact H
          have Ny336 := am hy336
          clear hy336
          by_cases c30 : x11_2 < (t319.length : Int)
          ·rw [if_pos c30] at H
           have c30b0 : decide (x11_2 < (t319.length : Int)) = true := decide_eq_true c30
           clear c30
           by_cases c31 : x10_2.length < 8796093022208
           ·rw [if_pos c31] at H
            have LMc31 := am c31
            clear c31
            obtain ⟨y340, hy340⟩ : ∃ y_ : List (S30), y_ = (x10_2 ++ [(⟨(rd_T44 t319 x11_2).f0.f0, (rd_T44 t319 x11_2).f0.f1⟩ : S30)]) := ⟨_, rfl⟩
            replace H : (if ((rd_T44 t319 x11_2).f1) = ((rd_T44 t315 x11_2).f1) then (laws_FnDiscantMove.l0 k2 t315 t316 t319 y336 y340 (wrap64 (x11_2 + 1))) else (some false)) = some r := by first | (rw [hy340]; with_reducible exact H) | (have H2_ := (Option.bind_some _ _).symm.trans H; rw [hy340]; with_reducible exact H2_) | (have H2_ := (Option.bind_some _ _).symm.trans H; with_reducible exact H2_) | with_reducible exact H | (rw [hy340]; exact H) | exact H
            have Ny340 := am hy340
            clear hy340
            by_cases c32 : ((rd_T44 t319 x11_2).f1) = ((rd_T44 t315 x11_2).f1)
            ·rw [if_pos c32] at H
             have c32b0 : (((rd_T44 t319 x11_2).f1) == ((rd_T44 t315 x11_2).f1)) = true := beq_iff_eq.mpr c32
             have c32b1 : (((rd_T44 t319 x11_2).f1) != ((rd_T44 t315 x11_2).f1)) = false := bne_eq_false_iff_eq.mpr c32
             clear c32
             have H' := am H
             clear H
             have p335 : 0 ≤ (x11_2 : Int) := od
             have q335 : x11_2 < (t315.length : Int) := od
             obtain ⟨ad335, e335, hx335_0, hx335_1, hx335_2⟩ := at_T44 (Kd.R_reads' HO_3.out).2.2 x11_2 p335 q335
             cases e335
             replace p335 := eq_true p335
             replace q335 := eq_true q335
             go_wp2_with (first | ((with_reducible refine gate_builtin (b := .append) (xs := #[.tmp 63, .tmp 69]) rfl ?_); at_builtin; refine Kd.R_append k30 (w0 := w) w.heap.size rfl (.tmp 63) (.tmp 69) 42 30 (.agg #[(.int .i64 0), (.bool false)]) 16 rfl Tryd.underlying42 info30 rfl (by decide) (by omega) u9 x9_2 (⟨(rd_T44 t315 x11_2).f0.f0, (rd_T44 t315 x11_2).f0.f1⟩ : S30) [.int .i64 ((rd_T44 t315 x11_2).f0.f0), .bool ((rd_T44 t315 x11_2).f0.f1)] (fun k_ => some k_ ≠ (u10 : Value).ownBlock) (fun _ => False) rfl rfl ?aP (fun _ hk => hk.elim) ?aF ?aO ?aB ?aS ?aL ?_; (case aP => exact k30_mkM _ _ _ (⟨(rd_T44 t315 x11_2).f0.f0, (rd_T44 t315 x11_2).f0.f1⟩ : S30)); (case aB => exact (bu HB.out)); (case aF => exact (fun k_ hk => Kd.fresh' (Kd.R_lt (ru HO_10.out)) k_ hk)); (case aO => exact (ru HO_9.out)); (case aS => exact (below_size (bu HB.out))); (case aL => have := LMc29.out; omega); intro v337 w33 ho hb hg hat; rw [← Ny336.out] at ho; have n0_ := am (Kd.R_over' (ru HO_3.out) (Kd.R_typed (ru HO_9.out)) (by decide) hg); have n1_ := am (Kd.R_over' (ru HO_5.out) (Kd.R_typed (ru HO_9.out)) (by decide) hg); have n2_ := am (Kd.R_after (ok := (fun _ => True)) (by (with_reducible repeat (first | apply Kd.R_alloc | apply Kd.R_drewN | apply Kd.R_drew)); exact Kd.R_mono HO_10.out (fun _ hk => ⟨trivial, hk⟩)) hg hat); have n3_ := am (hb); have n4_ := am (ho); clear HO_3; clear HO_5; clear HO_10; clear HB; clear HO_9; have HO_3 := n0_; have HO_5 := n1_; have HO_10 := n2_; have HB := n3_; have HO338 := n4_; clear n0_ n1_ n2_ n3_ n4_; clear ho hb hg hat; obtain ⟨Ao34, co34, eo34⟩ := Kd.R_slice HO_5.out; subst eo34; have p339 : 0 ≤ (x11_2 : Int) := od; have q339 : x11_2 < (t319.length : Int) := od; obtain ⟨ad339, e339, hx339_0, hx339_1, hx339_2⟩ := at_T44 (Kd.R_reads' HO_5.out).2.2 x11_2 p339 q339; cases e339; replace p339 := eq_true p339; replace q339 := eq_true q339) | ((with_reducible refine gate_builtin (b := .append) (xs := #[.tmp 71, .tmp 77]) rfl ?_); at_builtin; refine Kd.R_append k30 (w0 := w) w.heap.size rfl (.tmp 71) (.tmp 77) 42 30 (.agg #[(.int .i64 0), (.bool false)]) 16 rfl Tryd.underlying42 info30 rfl (by decide) (by omega) u10 x10_2 (⟨(rd_T44 t319 x11_2).f0.f0, (rd_T44 t319 x11_2).f0.f1⟩ : S30) [.int .i64 ((rd_T44 t319 x11_2).f0.f0), .bool ((rd_T44 t319 x11_2).f0.f1)] (fun k_ => some k_ ≠ (v337 : Value).ownBlock) (fun _ => False) rfl rfl ?aP (fun _ hk => hk.elim) ?aF ?aO ?aB ?aS ?aL ?_; (case aP => exact k30_mkM _ _ _ (⟨(rd_T44 t319 x11_2).f0.f0, (rd_T44 t319 x11_2).f0.f1⟩ : S30)); (case aB => exact (bu HB.out)); (case aF => exact (fun k_ hk => Kd.fresh' (Kd.R_lt (ru HO338.out)) k_ hk)); (case aO => exact (by (with_reducible repeat (first | apply Kd.R_alloc | apply Kd.R_drewN | apply Kd.R_drew)); exact Kd.R_mono HO_10.out (fun _ hk => hk.2))); (case aS => exact (below_size (bu HB.out))); (case aL => have := LMc31.out; omega); intro v341 w35 ho hb hg hat; rw [← Ny340.out] at ho; have n0_ := am (Kd.R_over' (ru HO_3.out) (Kd.R_typed (ru HO_10.out)) (by decide) hg); have n1_ := am (Kd.R_over' (ru HO_5.out) (Kd.R_typed (ru HO_10.out)) (by decide) hg); have n2_ := am (Kd.R_after (ok := (fun _ => True)) (by (with_reducible repeat (first | apply Kd.R_alloc | apply Kd.R_drewN | apply Kd.R_drew)); exact Kd.R_mono HO338.out (fun _ hk => ⟨trivial, hk⟩)) hg hat); have n3_ := am (hb); have n4_ := am (ho); clear HO_3; clear HO_5; clear HO338; clear HB; clear HO_10; have HO_3 := n0_; have HO_5 := n1_; have HO338 := n2_; have HB := n3_; have HO342 := n4_; clear n0_ n1_ n2_ n3_ n4_; clear ho hb hg hat; have p343 : 0 ≤ (x11_2 : Int) := od; have q343 : x11_2 < (t319.length : Int) := od; obtain ⟨ad343, e343, hx343_0, hx343_1, hx343_2⟩ := at_T44 (Kd.R_reads' HO_5.out).2.2 x11_2 p343 q343; obtain rfl : ad339 = ad343 := (by injection e343); replace p343 := eq_true p343; replace q343 := eq_true q343; have p344 : 0 ≤ (x11_2 : Int) := od; have q344 : x11_2 < (t315.length : Int) := od; obtain ⟨ad344, e344, hx344_0, hx344_1, hx344_2⟩ := at_T44 (Kd.R_reads' HO_3.out).2.2 x11_2 p344 q344; obtain rfl : ad335 = ad344 := (by injection e344); replace p344 := eq_true p344; replace q344 := eq_true q344))
             repeat (go_quiet (first | ((with_reducible refine gate_builtin (b := .append) (xs := #[.tmp 63, .tmp 69]) rfl ?_); at_builtin; refine Kd.R_append k30 (w0 := w) w.heap.size rfl (.tmp 63) (.tmp 69) 42 30 (.agg #[(.int .i64 0), (.bool false)]) 16 rfl Tryd.underlying42 info30 rfl (by decide) (by omega) u9 x9_2 (⟨(rd_T44 t315 x11_2).f0.f0, (rd_T44 t315 x11_2).f0.f1⟩ : S30) [.int .i64 ((rd_T44 t315 x11_2).f0.f0), .bool ((rd_T44 t315 x11_2).f0.f1)] (fun k_ => some k_ ≠ (u10 : Value).ownBlock) (fun _ => False) rfl rfl ?aP (fun _ hk => hk.elim) ?aF ?aO ?aB ?aS ?aL ?_; (case aP => exact k30_mkM _ _ _ (⟨(rd_T44 t315 x11_2).f0.f0, (rd_T44 t315 x11_2).f0.f1⟩ : S30)); (case aB => exact (bu HB.out)); (case aF => exact (fun k_ hk => Kd.fresh' (Kd.R_lt (ru HO_10.out)) k_ hk)); (case aO => exact (ru HO_9.out)); (case aS => exact (below_size (bu HB.out))); (case aL => have := LMc29.out; omega); intro v337 w33 ho hb hg hat; rw [← Ny336.out] at ho; have n0_ := am (Kd.R_over' (ru HO_3.out) (Kd.R_typed (ru HO_9.out)) (by decide) hg); have n1_ := am (Kd.R_over' (ru HO_5.out) (Kd.R_typed (ru HO_9.out)) (by decide) hg); have n2_ := am (Kd.R_after (ok := (fun _ => True)) (by (with_reducible repeat (first | apply Kd.R_alloc | apply Kd.R_drewN | apply Kd.R_drew)); exact Kd.R_mono HO_10.out (fun _ hk => ⟨trivial, hk⟩)) hg hat); have n3_ := am (hb); have n4_ := am (ho); clear HO_3; clear HO_5; clear HO_10; clear HB; clear HO_9; have HO_3 := n0_; have HO_5 := n1_; have HO_10 := n2_; have HB := n3_; have HO338 := n4_; clear n0_ n1_ n2_ n3_ n4_; clear ho hb hg hat; obtain ⟨Ao34, co34, eo34⟩ := Kd.R_slice HO_5.out; subst eo34; have p339 : 0 ≤ (x11_2 : Int) := od; have q339 : x11_2 < (t319.length : Int) := od; obtain ⟨ad339, e339, hx339_0, hx339_1, hx339_2⟩ := at_T44 (Kd.R_reads' HO_5.out).2.2 x11_2 p339 q339; cases e339; replace p339 := eq_true p339; replace q339 := eq_true q339) | ((with_reducible refine gate_builtin (b := .append) (xs := #[.tmp 71, .tmp 77]) rfl ?_); at_builtin; refine Kd.R_append k30 (w0 := w) w.heap.size rfl (.tmp 71) (.tmp 77) 42 30 (.agg #[(.int .i64 0), (.bool false)]) 16 rfl Tryd.underlying42 info30 rfl (by decide) (by omega) u10 x10_2 (⟨(rd_T44 t319 x11_2).f0.f0, (rd_T44 t319 x11_2).f0.f1⟩ : S30) [.int .i64 ((rd_T44 t319 x11_2).f0.f0), .bool ((rd_T44 t319 x11_2).f0.f1)] (fun k_ => some k_ ≠ (v337 : Value).ownBlock) (fun _ => False) rfl rfl ?aP (fun _ hk => hk.elim) ?aF ?aO ?aB ?aS ?aL ?_; (case aP => exact k30_mkM _ _ _ (⟨(rd_T44 t319 x11_2).f0.f0, (rd_T44 t319 x11_2).f0.f1⟩ : S30)); (case aB => exact (bu HB.out)); (case aF => exact (fun k_ hk => Kd.fresh' (Kd.R_lt (ru HO338.out)) k_ hk)); (case aO => exact (by (with_reducible repeat (first | apply Kd.R_alloc | apply Kd.R_drewN | apply Kd.R_drew)); exact Kd.R_mono HO_10.out (fun _ hk => hk.2))); (case aS => exact (below_size (bu HB.out))); (case aL => have := LMc31.out; omega); intro v341 w35 ho hb hg hat; rw [← Ny340.out] at ho; have n0_ := am (Kd.R_over' (ru HO_3.out) (Kd.R_typed (ru HO_10.out)) (by decide) hg); have n1_ := am (Kd.R_over' (ru HO_5.out) (Kd.R_typed (ru HO_10.out)) (by decide) hg); have n2_ := am (Kd.R_after (ok := (fun _ => True)) (by (with_reducible repeat (first | apply Kd.R_alloc | apply Kd.R_drewN | apply Kd.R_drew)); exact Kd.R_mono HO338.out (fun _ hk => ⟨trivial, hk⟩)) hg hat); have n3_ := am (hb); have n4_ := am (ho); clear HO_3; clear HO_5; clear HO338; clear HB; clear HO_10; have HO_3 := n0_; have HO_5 := n1_; have HO338 := n2_; have HB := n3_; have HO342 := n4_; clear n0_ n1_ n2_ n3_ n4_; clear ho hb hg hat; have p343 : 0 ≤ (x11_2 : Int) := od; have q343 : x11_2 < (t319.length : Int) := od; obtain ⟨ad343, e343, hx343_0, hx343_1, hx343_2⟩ := at_T44 (Kd.R_reads' HO_5.out).2.2 x11_2 p343 q343; obtain rfl : ad339 = ad343 := (by injection e343); replace p343 := eq_true p343; replace q343 := eq_true q343; have p344 : 0 ≤ (x11_2 : Int) := od; have q344 : x11_2 < (t315.length : Int) := od; obtain ⟨ad344, e344, hx344_0, hx344_1, hx344_2⟩ := at_T44 (Kd.R_reads' HO_3.out).2.2 x11_2 p344 q344; obtain rfl : ad335 = ad344 := (by injection e344); replace p344 := eq_true p344; replace q344 := eq_true q344)); try go_wp2_with (first | ((with_reducible refine gate_builtin (b := .append) (xs := #[.tmp 63, .tmp 69]) rfl ?_); at_builtin; refine Kd.R_append k30 (w0 := w) w.heap.size rfl (.tmp 63) (.tmp 69) 42 30 (.agg #[(.int .i64 0), (.bool false)]) 16 rfl Tryd.underlying42 info30 rfl (by decide) (by omega) u9 x9_2 (⟨(rd_T44 t315 x11_2).f0.f0, (rd_T44 t315 x11_2).f0.f1⟩ : S30) [.int .i64 ((rd_T44 t315 x11_2).f0.f0), .bool ((rd_T44 t315 x11_2).f0.f1)] (fun k_ => some k_ ≠ (u10 : Value).ownBlock) (fun _ => False) rfl rfl ?aP (fun _ hk => hk.elim) ?aF ?aO ?aB ?aS ?aL ?_; (case aP => exact k30_mkM _ _ _ (⟨(rd_T44 t315 x11_2).f0.f0, (rd_T44 t315 x11_2).f0.f1⟩ : S30)); (case aB => exact (bu HB.out)); (case aF => exact (fun k_ hk => Kd.fresh' (Kd.R_lt (ru HO_10.out)) k_ hk)); (case aO => exact (ru HO_9.out)); (case aS => exact (below_size (bu HB.out))); (case aL => have := LMc29.out; omega); intro v337 w33 ho hb hg hat; rw [← Ny336.out] at ho; have n0_ := am (Kd.R_over' (ru HO_3.out) (Kd.R_typed (ru HO_9.out)) (by decide) hg); have n1_ := am (Kd.R_over' (ru HO_5.out) (Kd.R_typed (ru HO_9.out)) (by decide) hg); have n2_ := am (Kd.R_after (ok := (fun _ => True)) (by (with_reducible repeat (first | apply Kd.R_alloc | apply Kd.R_drewN | apply Kd.R_drew)); exact Kd.R_mono HO_10.out (fun _ hk => ⟨trivial, hk⟩)) hg hat); have n3_ := am (hb); have n4_ := am (ho); clear HO_3; clear HO_5; clear HO_10; clear HB; clear HO_9; have HO_3 := n0_; have HO_5 := n1_; have HO_10 := n2_; have HB := n3_; have HO338 := n4_; clear n0_ n1_ n2_ n3_ n4_; clear ho hb hg hat; obtain ⟨Ao34, co34, eo34⟩ := Kd.R_slice HO_5.out; subst eo34; have p339 : 0 ≤ (x11_2 : Int) := od; have q339 : x11_2 < (t319.length : Int) := od; obtain ⟨ad339, e339, hx339_0, hx339_1, hx339_2⟩ := at_T44 (Kd.R_reads' HO_5.out).2.2 x11_2 p339 q339; cases e339; replace p339 := eq_true p339; replace q339 := eq_true q339) | ((with_reducible refine gate_builtin (b := .append) (xs := #[.tmp 71, .tmp 77]) rfl ?_); at_builtin; refine Kd.R_append k30 (w0 := w) w.heap.size rfl (.tmp 71) (.tmp 77) 42 30 (.agg #[(.int .i64 0), (.bool false)]) 16 rfl Tryd.underlying42 info30 rfl (by decide) (by omega) u10 x10_2 (⟨(rd_T44 t319 x11_2).f0.f0, (rd_T44 t319 x11_2).f0.f1⟩ : S30) [.int .i64 ((rd_T44 t319 x11_2).f0.f0), .bool ((rd_T44 t319 x11_2).f0.f1)] (fun k_ => some k_ ≠ (v337 : Value).ownBlock) (fun _ => False) rfl rfl ?aP (fun _ hk => hk.elim) ?aF ?aO ?aB ?aS ?aL ?_; (case aP => exact k30_mkM _ _ _ (⟨(rd_T44 t319 x11_2).f0.f0, (rd_T44 t319 x11_2).f0.f1⟩ : S30)); (case aB => exact (bu HB.out)); (case aF => exact (fun k_ hk => Kd.fresh' (Kd.R_lt (ru HO338.out)) k_ hk)); (case aO => exact (by (with_reducible repeat (first | apply Kd.R_alloc | apply Kd.R_drewN | apply Kd.R_drew)); exact Kd.R_mono HO_10.out (fun _ hk => hk.2))); (case aS => exact (below_size (bu HB.out))); (case aL => have := LMc31.out; omega); intro v341 w35 ho hb hg hat; rw [← Ny340.out] at ho; have n0_ := am (Kd.R_over' (ru HO_3.out) (Kd.R_typed (ru HO_10.out)) (by decide) hg); have n1_ := am (Kd.R_over' (ru HO_5.out) (Kd.R_typed (ru HO_10.out)) (by decide) hg); have n2_ := am (Kd.R_after (ok := (fun _ => True)) (by (with_reducible repeat (first | apply Kd.R_alloc | apply Kd.R_drewN | apply Kd.R_drew)); exact Kd.R_mono HO338.out (fun _ hk => ⟨trivial, hk⟩)) hg hat); have n3_ := am (hb); have n4_ := am (ho); clear HO_3; clear HO_5; clear HO338; clear HB; clear HO_10; have HO_3 := n0_; have HO_5 := n1_; have HO338 := n2_; have HB := n3_; have HO342 := n4_; clear n0_ n1_ n2_ n3_ n4_; clear ho hb hg hat; have p343 : 0 ≤ (x11_2 : Int) := od; have q343 : x11_2 < (t319.length : Int) := od; obtain ⟨ad343, e343, hx343_0, hx343_1, hx343_2⟩ := at_T44 (Kd.R_reads' HO_5.out).2.2 x11_2 p343 q343; obtain rfl : ad339 = ad343 := (by injection e343); replace p343 := eq_true p343; replace q343 := eq_true q343; have p344 : 0 ≤ (x11_2 : Int) := od; have q344 : x11_2 < (t315.length : Int) := od; obtain ⟨ad344, e344, hx344_0, hx344_1, hx344_2⟩ := at_T44 (Kd.R_reads' HO_3.out).2.2 x11_2 p344 q344; obtain rfl : ad335 = ad344 := (by injection e344); replace p344 := eq_true p344; replace q344 := eq_true q344)))
             go_roundg k2
             case measure => have := HJ5.out; have := HK2.out; omega
             case rel => exact ⟨(y336), (y340), (wrap64 (x11_2 + 1)), (by first | rfl | (simp; done) | (simp [*]; done)), H', ⟨by have := HJ5.out; have := HK2.out; omega⟩, ⟨ru HO_3.out⟩, ⟨ru HO_5.out⟩, ⟨by (with_reducible repeat (first | apply Kd.R_alloc | apply Kd.R_drewN | apply Kd.R_drew)); exact Kd.R_mono HO338.out (fun _ hk => hk.2)⟩, ⟨ru HO342.out⟩, ⟨bu HB.out⟩⟩
            ·rw [if_neg c32] at H
             have c32b0 : (((rd_T44 t319 x11_2).f1) == ((rd_T44 t315 x11_2).f1)) = false := beq_eq_false_iff_ne.mpr c32
             have c32b1 : (((rd_T44 t319 x11_2).f1) != ((rd_T44 t315 x11_2).f1)) = true := bne_iff_ne.mpr c32
             obtain rfl := Option.some.inj H
             have p335 : 0 ≤ (x11_2 : Int) := od
             have q335 : x11_2 < (t315.length : Int) := od
             obtain ⟨ad335, e335, hx335_0, hx335_1, hx335_2⟩ := at_T44 (Kd.R_reads' HO_3.out).2.2 x11_2 p335 q335
             cases e335
             replace p335 := eq_true p335
             replace q335 := eq_true q335
             go_wp2_with (first | ((with_reducible refine gate_builtin (b := .append) (xs := #[.tmp 63, .tmp 69]) rfl ?_); at_builtin; refine Kd.R_append k30 (w0 := w) w.heap.size rfl (.tmp 63) (.tmp 69) 42 30 (.agg #[(.int .i64 0), (.bool false)]) 16 rfl Tryd.underlying42 info30 rfl (by decide) (by omega) u9 x9_2 (⟨(rd_T44 t315 x11_2).f0.f0, (rd_T44 t315 x11_2).f0.f1⟩ : S30) [.int .i64 ((rd_T44 t315 x11_2).f0.f0), .bool ((rd_T44 t315 x11_2).f0.f1)] (fun k_ => some k_ ≠ (u10 : Value).ownBlock) (fun _ => False) rfl rfl ?aP (fun _ hk => hk.elim) ?aF ?aO ?aB ?aS ?aL ?_; (case aP => exact k30_mkM _ _ _ (⟨(rd_T44 t315 x11_2).f0.f0, (rd_T44 t315 x11_2).f0.f1⟩ : S30)); (case aB => exact (bu HB.out)); (case aF => exact (fun k_ hk => Kd.fresh' (Kd.R_lt (ru HO_10.out)) k_ hk)); (case aO => exact (ru HO_9.out)); (case aS => exact (below_size (bu HB.out))); (case aL => have := LMc29.out; omega); intro v337 w36 ho hb hg hat; rw [← Ny336.out] at ho; have n0_ := am (Kd.R_over' (ru HO_3.out) (Kd.R_typed (ru HO_9.out)) (by decide) hg); have n1_ := am (Kd.R_over' (ru HO_5.out) (Kd.R_typed (ru HO_9.out)) (by decide) hg); have n2_ := am (Kd.R_after (ok := (fun _ => True)) (by (with_reducible repeat (first | apply Kd.R_alloc | apply Kd.R_drewN | apply Kd.R_drew)); exact Kd.R_mono HO_10.out (fun _ hk => ⟨trivial, hk⟩)) hg hat); have n3_ := am (hb); have n4_ := am (ho); clear HO_3; clear HO_5; clear HO_10; clear HB; clear HO_9; have HO_3 := n0_; have HO_5 := n1_; have HO_10 := n2_; have HB := n3_; have HO338 := n4_; clear n0_ n1_ n2_ n3_ n4_; clear ho hb hg hat; obtain ⟨Ao37, co37, eo37⟩ := Kd.R_slice HO_5.out; subst eo37; have p339 : 0 ≤ (x11_2 : Int) := od; have q339 : x11_2 < (t319.length : Int) := od; obtain ⟨ad339, e339, hx339_0, hx339_1, hx339_2⟩ := at_T44 (Kd.R_reads' HO_5.out).2.2 x11_2 p339 q339; cases e339; replace p339 := eq_true p339; replace q339 := eq_true q339) | ((with_reducible refine gate_builtin (b := .append) (xs := #[.tmp 71, .tmp 77]) rfl ?_); at_builtin; refine Kd.R_append k30 (w0 := w) w.heap.size rfl (.tmp 71) (.tmp 77) 42 30 (.agg #[(.int .i64 0), (.bool false)]) 16 rfl Tryd.underlying42 info30 rfl (by decide) (by omega) u10 x10_2 (⟨(rd_T44 t319 x11_2).f0.f0, (rd_T44 t319 x11_2).f0.f1⟩ : S30) [.int .i64 ((rd_T44 t319 x11_2).f0.f0), .bool ((rd_T44 t319 x11_2).f0.f1)] (fun k_ => some k_ ≠ (v337 : Value).ownBlock) (fun _ => False) rfl rfl ?aP (fun _ hk => hk.elim) ?aF ?aO ?aB ?aS ?aL ?_; (case aP => exact k30_mkM _ _ _ (⟨(rd_T44 t319 x11_2).f0.f0, (rd_T44 t319 x11_2).f0.f1⟩ : S30)); (case aB => exact (bu HB.out)); (case aF => exact (fun k_ hk => Kd.fresh' (Kd.R_lt (ru HO338.out)) k_ hk)); (case aO => exact (by (with_reducible repeat (first | apply Kd.R_alloc | apply Kd.R_drewN | apply Kd.R_drew)); exact Kd.R_mono HO_10.out (fun _ hk => hk.2))); (case aS => exact (below_size (bu HB.out))); (case aL => have := LMc31.out; omega); intro v341 w38 ho hb hg hat; rw [← Ny340.out] at ho; have n0_ := am (Kd.R_over' (ru HO_3.out) (Kd.R_typed (ru HO_10.out)) (by decide) hg); have n1_ := am (Kd.R_over' (ru HO_5.out) (Kd.R_typed (ru HO_10.out)) (by decide) hg); have n2_ := am (Kd.R_after (ok := (fun _ => True)) (by (with_reducible repeat (first | apply Kd.R_alloc | apply Kd.R_drewN | apply Kd.R_drew)); exact Kd.R_mono HO338.out (fun _ hk => ⟨trivial, hk⟩)) hg hat); have n3_ := am (hb); have n4_ := am (ho); clear HO_3; clear HO_5; clear HO338; clear HB; clear HO_10; have HO_3 := n0_; have HO_5 := n1_; have HO338 := n2_; have HB := n3_; have HO342 := n4_; clear n0_ n1_ n2_ n3_ n4_; clear ho hb hg hat; have p343 : 0 ≤ (x11_2 : Int) := od; have q343 : x11_2 < (t319.length : Int) := od; obtain ⟨ad343, e343, hx343_0, hx343_1, hx343_2⟩ := at_T44 (Kd.R_reads' HO_5.out).2.2 x11_2 p343 q343; obtain rfl : ad339 = ad343 := (by injection e343); replace p343 := eq_true p343; replace q343 := eq_true q343; have p344 : 0 ≤ (x11_2 : Int) := od; have q344 : x11_2 < (t315.length : Int) := od; obtain ⟨ad344, e344, hx344_0, hx344_1, hx344_2⟩ := at_T44 (Kd.R_reads' HO_3.out).2.2 x11_2 p344 q344; obtain rfl : ad335 = ad344 := (by injection e344); replace p344 := eq_true p344; replace q344 := eq_true q344))
             repeat (go_quiet (first | ((with_reducible refine gate_builtin (b := .append) (xs := #[.tmp 63, .tmp 69]) rfl ?_); at_builtin; refine Kd.R_append k30 (w0 := w) w.heap.size rfl (.tmp 63) (.tmp 69) 42 30 (.agg #[(.int .i64 0), (.bool false)]) 16 rfl Tryd.underlying42 info30 rfl (by decide) (by omega) u9 x9_2 (⟨(rd_T44 t315 x11_2).f0.f0, (rd_T44 t315 x11_2).f0.f1⟩ : S30) [.int .i64 ((rd_T44 t315 x11_2).f0.f0), .bool ((rd_T44 t315 x11_2).f0.f1)] (fun k_ => some k_ ≠ (u10 : Value).ownBlock) (fun _ => False) rfl rfl ?aP (fun _ hk => hk.elim) ?aF ?aO ?aB ?aS ?aL ?_; (case aP => exact k30_mkM _ _ _ (⟨(rd_T44 t315 x11_2).f0.f0, (rd_T44 t315 x11_2).f0.f1⟩ : S30)); (case aB => exact (bu HB.out)); (case aF => exact (fun k_ hk => Kd.fresh' (Kd.R_lt (ru HO_10.out)) k_ hk)); (case aO => exact (ru HO_9.out)); (case aS => exact (below_size (bu HB.out))); (case aL => have := LMc29.out; omega); intro v337 w36 ho hb hg hat; rw [← Ny336.out] at ho; have n0_ := am (Kd.R_over' (ru HO_3.out) (Kd.R_typed (ru HO_9.out)) (by decide) hg); have n1_ := am (Kd.R_over' (ru HO_5.out) (Kd.R_typed (ru HO_9.out)) (by decide) hg); have n2_ := am (Kd.R_after (ok := (fun _ => True)) (by (with_reducible repeat (first | apply Kd.R_alloc | apply Kd.R_drewN | apply Kd.R_drew)); exact Kd.R_mono HO_10.out (fun _ hk => ⟨trivial, hk⟩)) hg hat); have n3_ := am (hb); have n4_ := am (ho); clear HO_3; clear HO_5; clear HO_10; clear HB; clear HO_9; have HO_3 := n0_; have HO_5 := n1_; have HO_10 := n2_; have HB := n3_; have HO338 := n4_; clear n0_ n1_ n2_ n3_ n4_; clear ho hb hg hat; obtain ⟨Ao37, co37, eo37⟩ := Kd.R_slice HO_5.out; subst eo37; have p339 : 0 ≤ (x11_2 : Int) := od; have q339 : x11_2 < (t319.length : Int) := od; obtain ⟨ad339, e339, hx339_0, hx339_1, hx339_2⟩ := at_T44 (Kd.R_reads' HO_5.out).2.2 x11_2 p339 q339; cases e339; replace p339 := eq_true p339; replace q339 := eq_true q339) | ((with_reducible refine gate_builtin (b := .append) (xs := #[.tmp 71, .tmp 77]) rfl ?_); at_builtin; refine Kd.R_append k30 (w0 := w) w.heap.size rfl (.tmp 71) (.tmp 77) 42 30 (.agg #[(.int .i64 0), (.bool false)]) 16 rfl Tryd.underlying42 info30 rfl (by decide) (by omega) u10 x10_2 (⟨(rd_T44 t319 x11_2).f0.f0, (rd_T44 t319 x11_2).f0.f1⟩ : S30) [.int .i64 ((rd_T44 t319 x11_2).f0.f0), .bool ((rd_T44 t319 x11_2).f0.f1)] (fun k_ => some k_ ≠ (v337 : Value).ownBlock) (fun _ => False) rfl rfl ?aP (fun _ hk => hk.elim) ?aF ?aO ?aB ?aS ?aL ?_; (case aP => exact k30_mkM _ _ _ (⟨(rd_T44 t319 x11_2).f0.f0, (rd_T44 t319 x11_2).f0.f1⟩ : S30)); (case aB => exact (bu HB.out)); (case aF => exact (fun k_ hk => Kd.fresh' (Kd.R_lt (ru HO338.out)) k_ hk)); (case aO => exact (by (with_reducible repeat (first | apply Kd.R_alloc | apply Kd.R_drewN | apply Kd.R_drew)); exact Kd.R_mono HO_10.out (fun _ hk => hk.2))); (case aS => exact (below_size (bu HB.out))); (case aL => have := LMc31.out; omega); intro v341 w38 ho hb hg hat; rw [← Ny340.out] at ho; have n0_ := am (Kd.R_over' (ru HO_3.out) (Kd.R_typed (ru HO_10.out)) (by decide) hg); have n1_ := am (Kd.R_over' (ru HO_5.out) (Kd.R_typed (ru HO_10.out)) (by decide) hg); have n2_ := am (Kd.R_after (ok := (fun _ => True)) (by (with_reducible repeat (first | apply Kd.R_alloc | apply Kd.R_drewN | apply Kd.R_drew)); exact Kd.R_mono HO338.out (fun _ hk => ⟨trivial, hk⟩)) hg hat); have n3_ := am (hb); have n4_ := am (ho); clear HO_3; clear HO_5; clear HO338; clear HB; clear HO_10; have HO_3 := n0_; have HO_5 := n1_; have HO338 := n2_; have HB := n3_; have HO342 := n4_; clear n0_ n1_ n2_ n3_ n4_; clear ho hb hg hat; have p343 : 0 ≤ (x11_2 : Int) := od; have q343 : x11_2 < (t319.length : Int) := od; obtain ⟨ad343, e343, hx343_0, hx343_1, hx343_2⟩ := at_T44 (Kd.R_reads' HO_5.out).2.2 x11_2 p343 q343; obtain rfl : ad339 = ad343 := (by injection e343); replace p343 := eq_true p343; replace q343 := eq_true q343; have p344 : 0 ≤ (x11_2 : Int) := od; have q344 : x11_2 < (t315.length : Int) := od; obtain ⟨ad344, e344, hx344_0, hx344_1, hx344_2⟩ := at_T44 (Kd.R_reads' HO_3.out).2.2 x11_2 p344 q344; obtain rfl : ad335 = ad344 := (by injection e344); replace p344 := eq_true p344; replace q344 := eq_true q344)); try go_wp2_with (first | ((with_reducible refine gate_builtin (b := .append) (xs := #[.tmp 63, .tmp 69]) rfl ?_); at_builtin; refine Kd.R_append k30 (w0 := w) w.heap.size rfl (.tmp 63) (.tmp 69) 42 30 (.agg #[(.int .i64 0), (.bool false)]) 16 rfl Tryd.underlying42 info30 rfl (by decide) (by omega) u9 x9_2 (⟨(rd_T44 t315 x11_2).f0.f0, (rd_T44 t315 x11_2).f0.f1⟩ : S30) [.int .i64 ((rd_T44 t315 x11_2).f0.f0), .bool ((rd_T44 t315 x11_2).f0.f1)] (fun k_ => some k_ ≠ (u10 : Value).ownBlock) (fun _ => False) rfl rfl ?aP (fun _ hk => hk.elim) ?aF ?aO ?aB ?aS ?aL ?_; (case aP => exact k30_mkM _ _ _ (⟨(rd_T44 t315 x11_2).f0.f0, (rd_T44 t315 x11_2).f0.f1⟩ : S30)); (case aB => exact (bu HB.out)); (case aF => exact (fun k_ hk => Kd.fresh' (Kd.R_lt (ru HO_10.out)) k_ hk)); (case aO => exact (ru HO_9.out)); (case aS => exact (below_size (bu HB.out))); (case aL => have := LMc29.out; omega); intro v337 w36 ho hb hg hat; rw [← Ny336.out] at ho; have n0_ := am (Kd.R_over' (ru HO_3.out) (Kd.R_typed (ru HO_9.out)) (by decide) hg); have n1_ := am (Kd.R_over' (ru HO_5.out) (Kd.R_typed (ru HO_9.out)) (by decide) hg); have n2_ := am (Kd.R_after (ok := (fun _ => True)) (by (with_reducible repeat (first | apply Kd.R_alloc | apply Kd.R_drewN | apply Kd.R_drew)); exact Kd.R_mono HO_10.out (fun _ hk => ⟨trivial, hk⟩)) hg hat); have n3_ := am (hb); have n4_ := am (ho); clear HO_3; clear HO_5; clear HO_10; clear HB; clear HO_9; have HO_3 := n0_; have HO_5 := n1_; have HO_10 := n2_; have HB := n3_; have HO338 := n4_; clear n0_ n1_ n2_ n3_ n4_; clear ho hb hg hat; obtain ⟨Ao37, co37, eo37⟩ := Kd.R_slice HO_5.out; subst eo37; have p339 : 0 ≤ (x11_2 : Int) := od; have q339 : x11_2 < (t319.length : Int) := od; obtain ⟨ad339, e339, hx339_0, hx339_1, hx339_2⟩ := at_T44 (Kd.R_reads' HO_5.out).2.2 x11_2 p339 q339; cases e339; replace p339 := eq_true p339; replace q339 := eq_true q339) | ((with_reducible refine gate_builtin (b := .append) (xs := #[.tmp 71, .tmp 77]) rfl ?_); at_builtin; refine Kd.R_append k30 (w0 := w) w.heap.size rfl (.tmp 71) (.tmp 77) 42 30 (.agg #[(.int .i64 0), (.bool false)]) 16 rfl Tryd.underlying42 info30 rfl (by decide) (by omega) u10 x10_2 (⟨(rd_T44 t319 x11_2).f0.f0, (rd_T44 t319 x11_2).f0.f1⟩ : S30) [.int .i64 ((rd_T44 t319 x11_2).f0.f0), .bool ((rd_T44 t319 x11_2).f0.f1)] (fun k_ => some k_ ≠ (v337 : Value).ownBlock) (fun _ => False) rfl rfl ?aP (fun _ hk => hk.elim) ?aF ?aO ?aB ?aS ?aL ?_; (case aP => exact k30_mkM _ _ _ (⟨(rd_T44 t319 x11_2).f0.f0, (rd_T44 t319 x11_2).f0.f1⟩ : S30)); (case aB => exact (bu HB.out)); (case aF => exact (fun k_ hk => Kd.fresh' (Kd.R_lt (ru HO338.out)) k_ hk)); (case aO => exact (by (with_reducible repeat (first | apply Kd.R_alloc | apply Kd.R_drewN | apply Kd.R_drew)); exact Kd.R_mono HO_10.out (fun _ hk => hk.2))); (case aS => exact (below_size (bu HB.out))); (case aL => have := LMc31.out; omega); intro v341 w38 ho hb hg hat; rw [← Ny340.out] at ho; have n0_ := am (Kd.R_over' (ru HO_3.out) (Kd.R_typed (ru HO_10.out)) (by decide) hg); have n1_ := am (Kd.R_over' (ru HO_5.out) (Kd.R_typed (ru HO_10.out)) (by decide) hg); have n2_ := am (Kd.R_after (ok := (fun _ => True)) (by (with_reducible repeat (first | apply Kd.R_alloc | apply Kd.R_drewN | apply Kd.R_drew)); exact Kd.R_mono HO338.out (fun _ hk => ⟨trivial, hk⟩)) hg hat); have n3_ := am (hb); have n4_ := am (ho); clear HO_3; clear HO_5; clear HO338; clear HB; clear HO_10; have HO_3 := n0_; have HO_5 := n1_; have HO338 := n2_; have HB := n3_; have HO342 := n4_; clear n0_ n1_ n2_ n3_ n4_; clear ho hb hg hat; have p343 : 0 ≤ (x11_2 : Int) := od; have q343 : x11_2 < (t319.length : Int) := od; obtain ⟨ad343, e343, hx343_0, hx343_1, hx343_2⟩ := at_T44 (Kd.R_reads' HO_5.out).2.2 x11_2 p343 q343; obtain rfl : ad339 = ad343 := (by injection e343); replace p343 := eq_true p343; replace q343 := eq_true q343; have p344 : 0 ≤ (x11_2 : Int) := od; have q344 : x11_2 < (t315.length : Int) := od; obtain ⟨ad344, e344, hx344_0, hx344_1, hx344_2⟩ := at_T44 (Kd.R_reads' HO_3.out).2.2 x11_2 p344 q344; obtain rfl : ad335 = ad344 := (by injection e344); replace p344 := eq_true p344; replace q344 := eq_true q344)))
             go_ret
             exact ⟨by first | rfl | (simp [errW_none, errW_some] <;> rfl) | (simp [*, errW_none, errW_some] <;> rfl), bu HB.out⟩
           ·rw [if_neg c31] at H
            exact absurd H (by simp)
          ·rw [if_neg c30] at H
           exact absurd H (by simp)
         ·rw [if_neg c29] at H
          exact absurd H (by simp)
        ·rw [if_neg c28] at H
         exact absurd H (by simp)
       ·rw [if_neg c27] at H
        have c27b0 : decide (x11_2 < (t315.length : Int)) = false := decide_eq_false c27
        clear c27
        replace H := Option.bind_eq_some_iff.mp H
        obtain ⟨⟨t345, t346⟩, A390, H⟩ := H
        replace H : (if t346 = true then ((laws_sameTones.f k2 x10_2 t345).bind fun t349 => (if t349 = true then ((impl_DiscantTogether.f k2 t315 t319).bind fun t350 => (if t350 = true then ((impl_DiscantContrary.f k2 t315 t319).bind fun t351 => (if t351 = 0 then ((impl_DiscantParallels.f k2 t315 t319).bind fun t352 => ((impl_DiscantParallels.f k2 t315 t315).bind fun t353 => (some (decide (t352 ≤ t353))))) else (some false))) else (some false))) else (some false))) else (some false)) = some r := H
        have A39 := am A390
        clear A390
        by_cases c40 : t346 = true
        ·subst c40
         have H1 : ((laws_sameTones.f k2 x10_2 t345).bind fun t349 => (if t349 = true then ((impl_DiscantTogether.f k2 t315 t319).bind fun t350 => (if t350 = true then ((impl_DiscantContrary.f k2 t315 t319).bind fun t351 => (if t351 = 0 then ((impl_DiscantParallels.f k2 t315 t319).bind fun t352 => ((impl_DiscantParallels.f k2 t315 t315).bind fun t353 => (some (decide (t352 ≤ t353))))) else (some false))) else (some false))) else (some false))) = some r := by rw [if_pos rfl] at H; exact H
         clear H
         have H := H1
         clear H1
         replace H := Option.bind_eq_some_iff.mp H
         obtain ⟨t349, A410, H⟩ := H
         replace H : (if t349 = true then ((impl_DiscantTogether.f k2 t315 t319).bind fun t350 => (if t350 = true then ((impl_DiscantContrary.f k2 t315 t319).bind fun t351 => (if t351 = 0 then ((impl_DiscantParallels.f k2 t315 t319).bind fun t352 => ((impl_DiscantParallels.f k2 t315 t315).bind fun t353 => (some (decide (t352 ≤ t353))))) else (some false))) else (some false))) else (some false)) = some r := H
         have A41 := am A410
         clear A410
         by_cases c42 : t349 = true
         ·subst c42
          have H1 : ((impl_DiscantTogether.f k2 t315 t319).bind fun t350 => (if t350 = true then ((impl_DiscantContrary.f k2 t315 t319).bind fun t351 => (if t351 = 0 then ((impl_DiscantParallels.f k2 t315 t319).bind fun t352 => ((impl_DiscantParallels.f k2 t315 t315).bind fun t353 => (some (decide (t352 ≤ t353))))) else (some false))) else (some false))) = some r := by rw [if_pos rfl] at H; exact H
          clear H
          have H := H1
          clear H1
          replace H := Option.bind_eq_some_iff.mp H
          obtain ⟨t350, A430, H⟩ := H
          replace H : (if t350 = true then ((impl_DiscantContrary.f k2 t315 t319).bind fun t351 => (if t351 = 0 then ((impl_DiscantParallels.f k2 t315 t319).bind fun t352 => ((impl_DiscantParallels.f k2 t315 t315).bind fun t353 => (some (decide (t352 ≤ t353))))) else (some false))) else (some false)) = some r := H
          have A43 := am A430
          clear A430
          by_cases c44 : t350 = true
          ·subst c44
           have H1 : ((impl_DiscantContrary.f k2 t315 t319).bind fun t351 => (if t351 = 0 then ((impl_DiscantParallels.f k2 t315 t319).bind fun t352 => ((impl_DiscantParallels.f k2 t315 t315).bind fun t353 => (some (decide (t352 ≤ t353))))) else (some false))) = some r := by rw [if_pos rfl] at H; exact H
           clear H
           have H := H1
           clear H1
           replace H := Option.bind_eq_some_iff.mp H
           obtain ⟨t351, A450, H⟩ := H
           replace H : (if t351 = 0 then ((impl_DiscantParallels.f k2 t315 t319).bind fun t352 => ((impl_DiscantParallels.f k2 t315 t315).bind fun t353 => (some (decide (t352 ≤ t353))))) else (some false)) = some r := H
           have A45 := am A450
           clear A450
           by_cases c46 : t351 = 0
           ·rw [if_pos c46] at H
            have c46b0 : (t351 == 0) = true := beq_iff_eq.mpr c46
            have c46b1 : (t351 != 0) = false := bne_eq_false_iff_eq.mpr c46
            clear c46
            replace H := Option.bind_eq_some_iff.mp H
            obtain ⟨t352, A470, H⟩ := H
            replace H : ((impl_DiscantParallels.f k2 t315 t315).bind fun t353 => (some (decide (t352 ≤ t353)))) = some r := H
            have A47 := am A470
            clear A470
            replace H := Option.bind_eq_some_iff.mp H
            obtain ⟨t353, A480, H⟩ := H
            replace H : (some (decide (t352 ≤ t353))) = some r := H
            have A48 := am A480
            clear A480
            obtain rfl := Option.some.inj H
            obtain ⟨Ao49, co49, eo49⟩ := Kd.R_slice HO_9.out
            subst eo49
            go_wp2_with (first | (go_at_call 29; (with_reducible refine (impl_MelodyMove.calls k2 _ _ x9_2 t316 t345 true _ ?side1 ?side2 ?side3 A39.out).mono ?_); (case side1 => exact cu (Kd.R_reads' HO_9.out).2.2); (case side2 => exact (Kd.R_reads' HO_9.out).2.1); (case side3 => first | exact HTH.out | exact TabAt.below HTH.out (bu HB.out)); rintro e w50 ⟨v347, rfl, ho0, hb⟩; have n0_ := am (Kd.R_below (ru HO_3.out) hb); have n1_ := am (Kd.R_below (ru HO_5.out) hb); have n2_ := am (Kd.R_elder' (ru HO_9.out) (Kd.R_base ho0) hb); have n3_ := am (Kd.R_elder' (ru HO_10.out) (Kd.R_base ho0) hb); have n4_ := am (Kd.R_lower (Kd.R_new' (Kd.R_new' ho0 (Kd.R_lt (ru HO_9.out))) (Kd.R_lt (ru HO_10.out))) (below_size (bu HB.out))); have n5_ := am (below_step (bu HB.out) hb); clear HO_3; clear HO_5; clear HO_9; clear HO_10; clear HB; have HO_3 := n0_; have HO_5 := n1_; have HO_9 := n2_; have HO_10 := n3_; have HO348 := n4_; have HB := n5_; clear n0_ n1_ n2_ n3_ n4_ n5_; (try clear hb); (try clear hb2); (try clear hk); (try clear hi); (try clear ho0); obtain ⟨Ao51, co51, eo51⟩ := Kd.R_slice HO_10.out; subst eo51; obtain ⟨Ao52, co52, eo52⟩ := Kd.R_slice HO348.out; subst eo52) | (go_at_call 30; (with_reducible refine (laws_sameTones.calls k2 _ _ x10_2 _ _ t345 true _ ?side1 ?side2 ?side3 ?side4 A41.out).mono ?_); (case side1 => exact cu (Kd.R_reads' HO_10.out).2.2); (case side2 => exact (Kd.R_reads' HO_10.out).2.1); (case side3 => exact cu (Kd.R_reads' HO348.out).2.2); (case side4 => exact (Kd.R_reads' HO348.out).2.1); rintro e w' ⟨rfl, ⟨nd, rfl⟩⟩; (try first | exact ⟨rfl, _, World.drewN_drewN _ _ _⟩ | exact ⟨rfl, _, Eq.trans (World.drewN_drewN _ _ _) (congrArg (World.drewN _) (Nat.add_assoc _ _ _))⟩); obtain ⟨Ao53, co53, eo53⟩ := Kd.R_slice HO_5.out; subst eo53) | (go_at_call 31; (with_reducible refine (impl_DiscantTogether.calls k2 _ _ t315 _ _ t319 true _ ?side1 ?side2 ?side3 ?side4 A43.out).mono ?_); (case side1 => exact cu (Kd.R_reads' HO_3.out).2.2); (case side2 => exact (Kd.R_reads' HO_3.out).2.1); (case side3 => exact cu (Kd.R_reads' HO_5.out).2.2); (case side4 => exact (Kd.R_reads' HO_5.out).2.1); rintro e w54 ⟨rfl, hb⟩; have n0_ := am (Kd.R_below (ru HO_3.out) hb); have n1_ := am (Kd.R_below (ru HO_5.out) hb); have n2_ := am (Kd.R_below (ru HO_9.out) hb); have n3_ := am (Kd.R_below (ru HO_10.out) hb); have n4_ := am (Kd.R_below (ru HO348.out) hb); have n5_ := am (below_step (bu HB.out) hb); clear HO_3; clear HO_5; clear HO_9; clear HO_10; clear HO348; clear HB; have HO_3 := n0_; have HO_5 := n1_; have HO_9 := n2_; have HO_10 := n3_; have HO348 := n4_; have HB := n5_; clear n0_ n1_ n2_ n3_ n4_ n5_; (try clear hb); (try clear hb2); (try clear hk); (try clear hi)) | (go_at_call 24; (with_reducible refine (impl_DiscantContrary.calls k2 _ _ t315 _ _ t319 t351 _ ?side1 ?side2 ?side3 ?side4 A45.out).mono ?_); (case side1 => exact cu (Kd.R_reads' HO_3.out).2.2); (case side2 => exact (Kd.R_reads' HO_3.out).2.1); (case side3 => exact cu (Kd.R_reads' HO_5.out).2.2); (case side4 => exact (Kd.R_reads' HO_5.out).2.1); rintro e w55 ⟨rfl, hb⟩; have n0_ := am (Kd.R_below (ru HO_3.out) hb); have n1_ := am (Kd.R_below (ru HO_5.out) hb); have n2_ := am (Kd.R_below (ru HO_9.out) hb); have n3_ := am (Kd.R_below (ru HO_10.out) hb); have n4_ := am (Kd.R_below (ru HO348.out) hb); have n5_ := am (below_step (bu HB.out) hb); clear HO_3; clear HO_5; clear HO_9; clear HO_10; clear HO348; clear HB; have HO_3 := n0_; have HO_5 := n1_; have HO_9 := n2_; have HO_10 := n3_; have HO348 := n4_; have HB := n5_; clear n0_ n1_ n2_ n3_ n4_ n5_; (try clear hb); (try clear hb2); (try clear hk); (try clear hi)) | (go_at_call 22; (with_reducible refine (impl_DiscantParallels.calls k2 _ _ t315 _ _ t319 t352 _ ?side1 ?side2 ?side3 ?side4 ?side5 ?side6 A47.out).mono ?_); (case side1 => exact cu (Kd.R_reads' HO_3.out).2.2); (case side2 => exact (Kd.R_reads' HO_3.out).2.1); (case side3 => exact cu (Kd.R_reads' HO_5.out).2.2); (case side4 => exact (Kd.R_reads' HO_5.out).2.1); (case side5 => first | exact HTH.out | exact TabAt.below HTH.out (bu HB.out)); (case side6 => first | exact HTI.out | exact TabAt.below HTI.out (bu HB.out)); rintro e w56 ⟨rfl, hb⟩; have n0_ := am (Kd.R_below (ru HO_3.out) hb); have n1_ := am (Kd.R_below (ru HO_5.out) hb); have n2_ := am (Kd.R_below (ru HO_9.out) hb); have n3_ := am (Kd.R_below (ru HO_10.out) hb); have n4_ := am (Kd.R_below (ru HO348.out) hb); have n5_ := am (below_step (bu HB.out) hb); clear HO_3; clear HO_5; clear HO_9; clear HO_10; clear HO348; clear HB; have HO_3 := n0_; have HO_5 := n1_; have HO_9 := n2_; have HO_10 := n3_; have HO348 := n4_; have HB := n5_; clear n0_ n1_ n2_ n3_ n4_ n5_; (try clear hb); (try clear hb2); (try clear hk); (try clear hi)) | (go_at_call 22; (with_reducible refine (impl_DiscantParallels.calls k2 _ _ t315 _ _ t315 t353 _ ?side1 ?side2 ?side3 ?side4 ?side5 ?side6 A48.out).mono ?_); (case side1 => exact cu (Kd.R_reads' HO_3.out).2.2); (case side2 => exact (Kd.R_reads' HO_3.out).2.1); (case side3 => exact cu (Kd.R_reads' HO_3.out).2.2); (case side4 => exact (Kd.R_reads' HO_3.out).2.1); (case side5 => first | exact HTH.out | exact TabAt.below HTH.out (bu HB.out)); (case side6 => first | exact HTI.out | exact TabAt.below HTI.out (bu HB.out)); rintro e w57 ⟨rfl, hb⟩; have n0_ := am (Kd.R_below (ru HO_3.out) hb); have n1_ := am (Kd.R_below (ru HO_5.out) hb); have n2_ := am (Kd.R_below (ru HO_9.out) hb); have n3_ := am (Kd.R_below (ru HO_10.out) hb); have n4_ := am (Kd.R_below (ru HO348.out) hb); have n5_ := am (below_step (bu HB.out) hb); clear HO_3; clear HO_5; clear HO_9; clear HO_10; clear HO348; clear HB; have HO_3 := n0_; have HO_5 := n1_; have HO_9 := n2_; have HO_10 := n3_; have HO348 := n4_; have HB := n5_; clear n0_ n1_ n2_ n3_ n4_ n5_; (try clear hb); (try clear hb2); (try clear hk); (try clear hi)))
            repeat (go_quiet (first | (go_at_call 29; (with_reducible refine (impl_MelodyMove.calls k2 _ _ x9_2 t316 t345 true _ ?side1 ?side2 ?side3 A39.out).mono ?_); (case side1 => exact cu (Kd.R_reads' HO_9.out).2.2); (case side2 => exact (Kd.R_reads' HO_9.out).2.1); (case side3 => first | exact HTH.out | exact TabAt.below HTH.out (bu HB.out)); rintro e w50 ⟨v347, rfl, ho0, hb⟩; have n0_ := am (Kd.R_below (ru HO_3.out) hb); have n1_ := am (Kd.R_below (ru HO_5.out) hb); have n2_ := am (Kd.R_elder' (ru HO_9.out) (Kd.R_base ho0) hb); have n3_ := am (Kd.R_elder' (ru HO_10.out) (Kd.R_base ho0) hb); have n4_ := am (Kd.R_lower (Kd.R_new' (Kd.R_new' ho0 (Kd.R_lt (ru HO_9.out))) (Kd.R_lt (ru HO_10.out))) (below_size (bu HB.out))); have n5_ := am (below_step (bu HB.out) hb); clear HO_3; clear HO_5; clear HO_9; clear HO_10; clear HB; have HO_3 := n0_; have HO_5 := n1_; have HO_9 := n2_; have HO_10 := n3_; have HO348 := n4_; have HB := n5_; clear n0_ n1_ n2_ n3_ n4_ n5_; (try clear hb); (try clear hb2); (try clear hk); (try clear hi); (try clear ho0); obtain ⟨Ao51, co51, eo51⟩ := Kd.R_slice HO_10.out; subst eo51; obtain ⟨Ao52, co52, eo52⟩ := Kd.R_slice HO348.out; subst eo52) | (go_at_call 30; (with_reducible refine (laws_sameTones.calls k2 _ _ x10_2 _ _ t345 true _ ?side1 ?side2 ?side3 ?side4 A41.out).mono ?_); (case side1 => exact cu (Kd.R_reads' HO_10.out).2.2); (case side2 => exact (Kd.R_reads' HO_10.out).2.1); (case side3 => exact cu (Kd.R_reads' HO348.out).2.2); (case side4 => exact (Kd.R_reads' HO348.out).2.1); rintro e w' ⟨rfl, ⟨nd, rfl⟩⟩; (try first | exact ⟨rfl, _, World.drewN_drewN _ _ _⟩ | exact ⟨rfl, _, Eq.trans (World.drewN_drewN _ _ _) (congrArg (World.drewN _) (Nat.add_assoc _ _ _))⟩); obtain ⟨Ao53, co53, eo53⟩ := Kd.R_slice HO_5.out; subst eo53) | (go_at_call 31; (with_reducible refine (impl_DiscantTogether.calls k2 _ _ t315 _ _ t319 true _ ?side1 ?side2 ?side3 ?side4 A43.out).mono ?_); (case side1 => exact cu (Kd.R_reads' HO_3.out).2.2); (case side2 => exact (Kd.R_reads' HO_3.out).2.1); (case side3 => exact cu (Kd.R_reads' HO_5.out).2.2); (case side4 => exact (Kd.R_reads' HO_5.out).2.1); rintro e w54 ⟨rfl, hb⟩; have n0_ := am (Kd.R_below (ru HO_3.out) hb); have n1_ := am (Kd.R_below (ru HO_5.out) hb); have n2_ := am (Kd.R_below (ru HO_9.out) hb); have n3_ := am (Kd.R_below (ru HO_10.out) hb); have n4_ := am (Kd.R_below (ru HO348.out) hb); have n5_ := am (below_step (bu HB.out) hb); clear HO_3; clear HO_5; clear HO_9; clear HO_10; clear HO348; clear HB; have HO_3 := n0_; have HO_5 := n1_; have HO_9 := n2_; have HO_10 := n3_; have HO348 := n4_; have HB := n5_; clear n0_ n1_ n2_ n3_ n4_ n5_; (try clear hb); (try clear hb2); (try clear hk); (try clear hi)) | (go_at_call 24; (with_reducible refine (impl_DiscantContrary.calls k2 _ _ t315 _ _ t319 t351 _ ?side1 ?side2 ?side3 ?side4 A45.out).mono ?_); (case side1 => exact cu (Kd.R_reads' HO_3.out).2.2); (case side2 => exact (Kd.R_reads' HO_3.out).2.1); (case side3 => exact cu (Kd.R_reads' HO_5.out).2.2); (case side4 => exact (Kd.R_reads' HO_5.out).2.1); rintro e w55 ⟨rfl, hb⟩; have n0_ := am (Kd.R_below (ru HO_3.out) hb); have n1_ := am (Kd.R_below (ru HO_5.out) hb); have n2_ := am (Kd.R_below (ru HO_9.out) hb); have n3_ := am (Kd.R_below (ru HO_10.out) hb); have n4_ := am (Kd.R_below (ru HO348.out) hb); have n5_ := am (below_step (bu HB.out) hb); clear HO_3; clear HO_5; clear HO_9; clear HO_10; clear HO348; clear HB; have HO_3 := n0_; have HO_5 := n1_; have HO_9 := n2_; have HO_10 := n3_; have HO348 := n4_; have HB := n5_; clear n0_ n1_ n2_ n3_ n4_ n5_; (try clear hb); (try clear hb2); (try clear hk); (try clear hi)) | (go_at_call 22; (with_reducible refine (impl_DiscantParallels.calls k2 _ _ t315 _ _ t319 t352 _ ?side1 ?side2 ?side3 ?side4 ?side5 ?side6 A47.out).mono ?_); (case side1 => exact cu (Kd.R_reads' HO_3.out).2.2); (case side2 => exact (Kd.R_reads' HO_3.out).2.1); (case side3 => exact cu (Kd.R_reads' HO_5.out).2.2); (case side4 => exact (Kd.R_reads' HO_5.out).2.1); (case side5 => first | exact HTH.out | exact TabAt.below HTH.out (bu HB.out)); (case side6 => first | exact HTI.out | exact TabAt.below HTI.out (bu HB.out)); rintro e w56 ⟨rfl, hb⟩; have n0_ := am (Kd.R_below (ru HO_3.out) hb); have n1_ := am (Kd.R_below (ru HO_5.out) hb); have n2_ := am (Kd.R_below (ru HO_9.out) hb); have n3_ := am (Kd.R_below (ru HO_10.out) hb); have n4_ := am (Kd.R_below (ru HO348.out) hb); have n5_ := am (below_step (bu HB.out) hb); clear HO_3; clear HO_5; clear HO_9; clear HO_10; clear HO348; clear HB; have HO_3 := n0_; have HO_5 := n1_; have HO_9 := n2_; have HO_10 := n3_; have HO348 := n4_; have HB := n5_; clear n0_ n1_ n2_ n3_ n4_ n5_; (try clear hb); (try clear hb2); (try clear hk); (try clear hi)) | (go_at_call 22; (with_reducible refine (impl_DiscantParallels.calls k2 _ _ t315 _ _ t315 t353 _ ?side1 ?side2 ?side3 ?side4 ?side5 ?side6 A48.out).mono ?_); (case side1 => exact cu (Kd.R_reads' HO_3.out).2.2); (case side2 => exact (Kd.R_reads' HO_3.out).2.1); (case side3 => exact cu (Kd.R_reads' HO_3.out).2.2); (case side4 => exact (Kd.R_reads' HO_3.out).2.1); (case side5 => first | exact HTH.out | exact TabAt.below HTH.out (bu HB.out)); (case side6 => first | exact HTI.out | exact TabAt.below HTI.out (bu HB.out)); rintro e w57 ⟨rfl, hb⟩; have n0_ := am (Kd.R_below (ru HO_3.out) hb); have n1_ := am (Kd.R_below (ru HO_5.out) hb); have n2_ := am (Kd.R_below (ru HO_9.out) hb); have n3_ := am (Kd.R_below (ru HO_10.out) hb); have n4_ := am (Kd.R_below (ru HO348.out) hb); have n5_ := am (below_step (bu HB.out) hb); clear HO_3; clear HO_5; clear HO_9; clear HO_10; clear HO348; clear HB; have HO_3 := n0_; have HO_5 := n1_; have HO_9 := n2_; have HO_10 := n3_; have HO348 := n4_; have HB := n5_; clear n0_ n1_ n2_ n3_ n4_ n5_; (try clear hb); (try clear hb2); (try clear hk); (try clear hi))); try go_wp2_with (first | (go_at_call 29; (with_reducible refine (impl_MelodyMove.calls k2 _ _ x9_2 t316 t345 true _ ?side1 ?side2 ?side3 A39.out).mono ?_); (case side1 => exact cu (Kd.R_reads' HO_9.out).2.2); (case side2 => exact (Kd.R_reads' HO_9.out).2.1); (case side3 => first | exact HTH.out | exact TabAt.below HTH.out (bu HB.out)); rintro e w50 ⟨v347, rfl, ho0, hb⟩; have n0_ := am (Kd.R_below (ru HO_3.out) hb); have n1_ := am (Kd.R_below (ru HO_5.out) hb); have n2_ := am (Kd.R_elder' (ru HO_9.out) (Kd.R_base ho0) hb); have n3_ := am (Kd.R_elder' (ru HO_10.out) (Kd.R_base ho0) hb); have n4_ := am (Kd.R_lower (Kd.R_new' (Kd.R_new' ho0 (Kd.R_lt (ru HO_9.out))) (Kd.R_lt (ru HO_10.out))) (below_size (bu HB.out))); have n5_ := am (below_step (bu HB.out) hb); clear HO_3; clear HO_5; clear HO_9; clear HO_10; clear HB; have HO_3 := n0_; have HO_5 := n1_; have HO_9 := n2_; have HO_10 := n3_; have HO348 := n4_; have HB := n5_; clear n0_ n1_ n2_ n3_ n4_ n5_; (try clear hb); (try clear hb2); (try clear hk); (try clear hi); (try clear ho0); obtain ⟨Ao51, co51, eo51⟩ := Kd.R_slice HO_10.out; subst eo51; obtain ⟨Ao52, co52, eo52⟩ := Kd.R_slice HO348.out; subst eo52) | (go_at_call 30; (with_reducible refine (laws_sameTones.calls k2 _ _ x10_2 _ _ t345 true _ ?side1 ?side2 ?side3 ?side4 A41.out).mono ?_); (case side1 => exact cu (Kd.R_reads' HO_10.out).2.2); (case side2 => exact (Kd.R_reads' HO_10.out).2.1); (case side3 => exact cu (Kd.R_reads' HO348.out).2.2); (case side4 => exact (Kd.R_reads' HO348.out).2.1); rintro e w' ⟨rfl, ⟨nd, rfl⟩⟩; (try first | exact ⟨rfl, _, World.drewN_drewN _ _ _⟩ | exact ⟨rfl, _, Eq.trans (World.drewN_drewN _ _ _) (congrArg (World.drewN _) (Nat.add_assoc _ _ _))⟩); obtain ⟨Ao53, co53, eo53⟩ := Kd.R_slice HO_5.out; subst eo53) | (go_at_call 31; (with_reducible refine (impl_DiscantTogether.calls k2 _ _ t315 _ _ t319 true _ ?side1 ?side2 ?side3 ?side4 A43.out).mono ?_); (case side1 => exact cu (Kd.R_reads' HO_3.out).2.2); (case side2 => exact (Kd.R_reads' HO_3.out).2.1); (case side3 => exact cu (Kd.R_reads' HO_5.out).2.2); (case side4 => exact (Kd.R_reads' HO_5.out).2.1); rintro e w54 ⟨rfl, hb⟩; have n0_ := am (Kd.R_below (ru HO_3.out) hb); have n1_ := am (Kd.R_below (ru HO_5.out) hb); have n2_ := am (Kd.R_below (ru HO_9.out) hb); have n3_ := am (Kd.R_below (ru HO_10.out) hb); have n4_ := am (Kd.R_below (ru HO348.out) hb); have n5_ := am (below_step (bu HB.out) hb); clear HO_3; clear HO_5; clear HO_9; clear HO_10; clear HO348; clear HB; have HO_3 := n0_; have HO_5 := n1_; have HO_9 := n2_; have HO_10 := n3_; have HO348 := n4_; have HB := n5_; clear n0_ n1_ n2_ n3_ n4_ n5_; (try clear hb); (try clear hb2); (try clear hk); (try clear hi)) | (go_at_call 24; (with_reducible refine (impl_DiscantContrary.calls k2 _ _ t315 _ _ t319 t351 _ ?side1 ?side2 ?side3 ?side4 A45.out).mono ?_); (case side1 => exact cu (Kd.R_reads' HO_3.out).2.2); (case side2 => exact (Kd.R_reads' HO_3.out).2.1); (case side3 => exact cu (Kd.R_reads' HO_5.out).2.2); (case side4 => exact (Kd.R_reads' HO_5.out).2.1); rintro e w55 ⟨rfl, hb⟩; have n0_ := am (Kd.R_below (ru HO_3.out) hb); have n1_ := am (Kd.R_below (ru HO_5.out) hb); have n2_ := am (Kd.R_below (ru HO_9.out) hb); have n3_ := am (Kd.R_below (ru HO_10.out) hb); have n4_ := am (Kd.R_below (ru HO348.out) hb); have n5_ := am (below_step (bu HB.out) hb); clear HO_3; clear HO_5; clear HO_9; clear HO_10; clear HO348; clear HB; have HO_3 := n0_; have HO_5 := n1_; have HO_9 := n2_; have HO_10 := n3_; have HO348 := n4_; have HB := n5_; clear n0_ n1_ n2_ n3_ n4_ n5_; (try clear hb); (try clear hb2); (try clear hk); (try clear hi)) | (go_at_call 22; (with_reducible refine (impl_DiscantParallels.calls k2 _ _ t315 _ _ t319 t352 _ ?side1 ?side2 ?side3 ?side4 ?side5 ?side6 A47.out).mono ?_); (case side1 => exact cu (Kd.R_reads' HO_3.out).2.2); (case side2 => exact (Kd.R_reads' HO_3.out).2.1); (case side3 => exact cu (Kd.R_reads' HO_5.out).2.2); (case side4 => exact (Kd.R_reads' HO_5.out).2.1); (case side5 => first | exact HTH.out | exact TabAt.below HTH.out (bu HB.out)); (case side6 => first | exact HTI.out | exact TabAt.below HTI.out (bu HB.out)); rintro e w56 ⟨rfl, hb⟩; have n0_ := am (Kd.R_below (ru HO_3.out) hb); have n1_ := am (Kd.R_below (ru HO_5.out) hb); have n2_ := am (Kd.R_below (ru HO_9.out) hb); have n3_ := am (Kd.R_below (ru HO_10.out) hb); have n4_ := am (Kd.R_below (ru HO348.out) hb); have n5_ := am (below_step (bu HB.out) hb); clear HO_3; clear HO_5; clear HO_9; clear HO_10; clear HO348; clear HB; have HO_3 := n0_; have HO_5 := n1_; have HO_9 := n2_; have HO_10 := n3_; have HO348 := n4_; have HB := n5_; clear n0_ n1_ n2_ n3_ n4_ n5_; (try clear hb); (try clear hb2); (try clear hk); (try clear hi)) | (go_at_call 22; (with_reducible refine (impl_DiscantParallels.calls k2 _ _ t315 _ _ t315 t353 _ ?side1 ?side2 ?side3 ?side4 ?side5 ?side6 A48.out).mono ?_); (case side1 => exact cu (Kd.R_reads' HO_3.out).2.2); (case side2 => exact (Kd.R_reads' HO_3.out).2.1); (case side3 => exact cu (Kd.R_reads' HO_3.out).2.2); (case side4 => exact (Kd.R_reads' HO_3.out).2.1); (case side5 => first | exact HTH.out | exact TabAt.below HTH.out (bu HB.out)); (case side6 => first | exact HTI.out | exact TabAt.below HTI.out (bu HB.out)); rintro e w57 ⟨rfl, hb⟩; have n0_ := am (Kd.R_below (ru HO_3.out) hb); have n1_ := am (Kd.R_below (ru HO_5.out) hb); have n2_ := am (Kd.R_below (ru HO_9.out) hb); have n3_ := am (Kd.R_below (ru HO_10.out) hb); have n4_ := am (Kd.R_below (ru HO348.out) hb); have n5_ := am (below_step (bu HB.out) hb); clear HO_3; clear HO_5; clear HO_9; clear HO_10; clear HO348; clear HB; have HO_3 := n0_; have HO_5 := n1_; have HO_9 := n2_; have HO_10 := n3_; have HO348 := n4_; have HB := n5_; clear n0_ n1_ n2_ n3_ n4_ n5_; (try clear hb); (try clear hb2); (try clear hk); (try clear hi))))
            go_ret
            exact ⟨by first | rfl | (simp [errW_none, errW_some] <;> rfl) | (simp [*, errW_none, errW_some] <;> rfl), bu HB.out⟩
           ·rw [if_neg c46] at H
            have c46b0 : (t351 == 0) = false := beq_eq_false_iff_ne.mpr c46
            have c46b1 : (t351 != 0) = true := bne_iff_ne.mpr c46
            obtain rfl := Option.some.inj H
            obtain ⟨Ao58, co58, eo58⟩ := Kd.R_slice HO_9.out
            subst eo58
            go_wp2_with (first | (go_at_call 29; (with_reducible refine (impl_MelodyMove.calls k2 _ _ x9_2 t316 t345 true _ ?side1 ?side2 ?side3 A39.out).mono ?_); (case side1 => exact cu (Kd.R_reads' HO_9.out).2.2); (case side2 => exact (Kd.R_reads' HO_9.out).2.1); (case side3 => first | exact HTH.out | exact TabAt.below HTH.out (bu HB.out)); rintro e w59 ⟨v347, rfl, ho0, hb⟩; have n0_ := am (Kd.R_below (ru HO_3.out) hb); have n1_ := am (Kd.R_below (ru HO_5.out) hb); have n2_ := am (Kd.R_elder' (ru HO_9.out) (Kd.R_base ho0) hb); have n3_ := am (Kd.R_elder' (ru HO_10.out) (Kd.R_base ho0) hb); have n4_ := am (Kd.R_lower (Kd.R_new' (Kd.R_new' ho0 (Kd.R_lt (ru HO_9.out))) (Kd.R_lt (ru HO_10.out))) (below_size (bu HB.out))); have n5_ := am (below_step (bu HB.out) hb); clear HO_3; clear HO_5; clear HO_9; clear HO_10; clear HB; have HO_3 := n0_; have HO_5 := n1_; have HO_9 := n2_; have HO_10 := n3_; have HO348 := n4_; have HB := n5_; clear n0_ n1_ n2_ n3_ n4_ n5_; (try clear hb); (try clear hb2); (try clear hk); (try clear hi); (try clear ho0); obtain ⟨Ao60, co60, eo60⟩ := Kd.R_slice HO_10.out; subst eo60; obtain ⟨Ao61, co61, eo61⟩ := Kd.R_slice HO348.out; subst eo61) | (go_at_call 30; (with_reducible refine (laws_sameTones.calls k2 _ _ x10_2 _ _ t345 true _ ?side1 ?side2 ?side3 ?side4 A41.out).mono ?_); (case side1 => exact cu (Kd.R_reads' HO_10.out).2.2); (case side2 => exact (Kd.R_reads' HO_10.out).2.1); (case side3 => exact cu (Kd.R_reads' HO348.out).2.2); (case side4 => exact (Kd.R_reads' HO348.out).2.1); rintro e w' ⟨rfl, ⟨nd, rfl⟩⟩; (try first | exact ⟨rfl, _, World.drewN_drewN _ _ _⟩ | exact ⟨rfl, _, Eq.trans (World.drewN_drewN _ _ _) (congrArg (World.drewN _) (Nat.add_assoc _ _ _))⟩); obtain ⟨Ao62, co62, eo62⟩ := Kd.R_slice HO_5.out; subst eo62) | (go_at_call 31; (with_reducible refine (impl_DiscantTogether.calls k2 _ _ t315 _ _ t319 true _ ?side1 ?side2 ?side3 ?side4 A43.out).mono ?_); (case side1 => exact cu (Kd.R_reads' HO_3.out).2.2); (case side2 => exact (Kd.R_reads' HO_3.out).2.1); (case side3 => exact cu (Kd.R_reads' HO_5.out).2.2); (case side4 => exact (Kd.R_reads' HO_5.out).2.1); rintro e w63 ⟨rfl, hb⟩; have n0_ := am (Kd.R_below (ru HO_3.out) hb); have n1_ := am (Kd.R_below (ru HO_5.out) hb); have n2_ := am (Kd.R_below (ru HO_9.out) hb); have n3_ := am (Kd.R_below (ru HO_10.out) hb); have n4_ := am (Kd.R_below (ru HO348.out) hb); have n5_ := am (below_step (bu HB.out) hb); clear HO_3; clear HO_5; clear HO_9; clear HO_10; clear HO348; clear HB; have HO_3 := n0_; have HO_5 := n1_; have HO_9 := n2_; have HO_10 := n3_; have HO348 := n4_; have HB := n5_; clear n0_ n1_ n2_ n3_ n4_ n5_; (try clear hb); (try clear hb2); (try clear hk); (try clear hi)) | (go_at_call 24; (with_reducible refine (impl_DiscantContrary.calls k2 _ _ t315 _ _ t319 t351 _ ?side1 ?side2 ?side3 ?side4 A45.out).mono ?_); (case side1 => exact cu (Kd.R_reads' HO_3.out).2.2); (case side2 => exact (Kd.R_reads' HO_3.out).2.1); (case side3 => exact cu (Kd.R_reads' HO_5.out).2.2); (case side4 => exact (Kd.R_reads' HO_5.out).2.1); rintro e w64 ⟨rfl, hb⟩; have n0_ := am (Kd.R_below (ru HO_3.out) hb); have n1_ := am (Kd.R_below (ru HO_5.out) hb); have n2_ := am (Kd.R_below (ru HO_9.out) hb); have n3_ := am (Kd.R_below (ru HO_10.out) hb); have n4_ := am (Kd.R_below (ru HO348.out) hb); have n5_ := am (below_step (bu HB.out) hb); clear HO_3; clear HO_5; clear HO_9; clear HO_10; clear HO348; clear HB; have HO_3 := n0_; have HO_5 := n1_; have HO_9 := n2_; have HO_10 := n3_; have HO348 := n4_; have HB := n5_; clear n0_ n1_ n2_ n3_ n4_ n5_; (try clear hb); (try clear hb2); (try clear hk); (try clear hi)))
            repeat (go_quiet (first | (go_at_call 29; (with_reducible refine (impl_MelodyMove.calls k2 _ _ x9_2 t316 t345 true _ ?side1 ?side2 ?side3 A39.out).mono ?_); (case side1 => exact cu (Kd.R_reads' HO_9.out).2.2); (case side2 => exact (Kd.R_reads' HO_9.out).2.1); (case side3 => first | exact HTH.out | exact TabAt.below HTH.out (bu HB.out)); rintro e w59 ⟨v347, rfl, ho0, hb⟩; have n0_ := am (Kd.R_below (ru HO_3.out) hb); have n1_ := am (Kd.R_below (ru HO_5.out) hb); have n2_ := am (Kd.R_elder' (ru HO_9.out) (Kd.R_base ho0) hb); have n3_ := am (Kd.R_elder' (ru HO_10.out) (Kd.R_base ho0) hb); have n4_ := am (Kd.R_lower (Kd.R_new' (Kd.R_new' ho0 (Kd.R_lt (ru HO_9.out))) (Kd.R_lt (ru HO_10.out))) (below_size (bu HB.out))); have n5_ := am (below_step (bu HB.out) hb); clear HO_3; clear HO_5; clear HO_9; clear HO_10; clear HB; have HO_3 := n0_; have HO_5 := n1_; have HO_9 := n2_; have HO_10 := n3_; have HO348 := n4_; have HB := n5_; clear n0_ n1_ n2_ n3_ n4_ n5_; (try clear hb); (try clear hb2); (try clear hk); (try clear hi); (try clear ho0); obtain ⟨Ao60, co60, eo60⟩ := Kd.R_slice HO_10.out; subst eo60; obtain ⟨Ao61, co61, eo61⟩ := Kd.R_slice HO348.out; subst eo61) | (go_at_call 30; (with_reducible refine (laws_sameTones.calls k2 _ _ x10_2 _ _ t345 true _ ?side1 ?side2 ?side3 ?side4 A41.out).mono ?_); (case side1 => exact cu (Kd.R_reads' HO_10.out).2.2); (case side2 => exact (Kd.R_reads' HO_10.out).2.1); (case side3 => exact cu (Kd.R_reads' HO348.out).2.2); (case side4 => exact (Kd.R_reads' HO348.out).2.1); rintro e w' ⟨rfl, ⟨nd, rfl⟩⟩; (try first | exact ⟨rfl, _, World.drewN_drewN _ _ _⟩ | exact ⟨rfl, _, Eq.trans (World.drewN_drewN _ _ _) (congrArg (World.drewN _) (Nat.add_assoc _ _ _))⟩); obtain ⟨Ao62, co62, eo62⟩ := Kd.R_slice HO_5.out; subst eo62) | (go_at_call 31; (with_reducible refine (impl_DiscantTogether.calls k2 _ _ t315 _ _ t319 true _ ?side1 ?side2 ?side3 ?side4 A43.out).mono ?_); (case side1 => exact cu (Kd.R_reads' HO_3.out).2.2); (case side2 => exact (Kd.R_reads' HO_3.out).2.1); (case side3 => exact cu (Kd.R_reads' HO_5.out).2.2); (case side4 => exact (Kd.R_reads' HO_5.out).2.1); rintro e w63 ⟨rfl, hb⟩; have n0_ := am (Kd.R_below (ru HO_3.out) hb); have n1_ := am (Kd.R_below (ru HO_5.out) hb); have n2_ := am (Kd.R_below (ru HO_9.out) hb); have n3_ := am (Kd.R_below (ru HO_10.out) hb); have n4_ := am (Kd.R_below (ru HO348.out) hb); have n5_ := am (below_step (bu HB.out) hb); clear HO_3; clear HO_5; clear HO_9; clear HO_10; clear HO348; clear HB; have HO_3 := n0_; have HO_5 := n1_; have HO_9 := n2_; have HO_10 := n3_; have HO348 := n4_; have HB := n5_; clear n0_ n1_ n2_ n3_ n4_ n5_; (try clear hb); (try clear hb2); (try clear hk); (try clear hi)) | (go_at_call 24; (with_reducible refine (impl_DiscantContrary.calls k2 _ _ t315 _ _ t319 t351 _ ?side1 ?side2 ?side3 ?side4 A45.out).mono ?_); (case side1 => exact cu (Kd.R_reads' HO_3.out).2.2); (case side2 => exact (Kd.R_reads' HO_3.out).2.1); (case side3 => exact cu (Kd.R_reads' HO_5.out).2.2); (case side4 => exact (Kd.R_reads' HO_5.out).2.1); rintro e w64 ⟨rfl, hb⟩; have n0_ := am (Kd.R_below (ru HO_3.out) hb); have n1_ := am (Kd.R_below (ru HO_5.out) hb); have n2_ := am (Kd.R_below (ru HO_9.out) hb); have n3_ := am (Kd.R_below (ru HO_10.out) hb); have n4_ := am (Kd.R_below (ru HO348.out) hb); have n5_ := am (below_step (bu HB.out) hb); clear HO_3; clear HO_5; clear HO_9; clear HO_10; clear HO348; clear HB; have HO_3 := n0_; have HO_5 := n1_; have HO_9 := n2_; have HO_10 := n3_; have HO348 := n4_; have HB := n5_; clear n0_ n1_ n2_ n3_ n4_ n5_; (try clear hb); (try clear hb2); (try clear hk); (try clear hi))); try go_wp2_with (first | (go_at_call 29; (with_reducible refine (impl_MelodyMove.calls k2 _ _ x9_2 t316 t345 true _ ?side1 ?side2 ?side3 A39.out).mono ?_); (case side1 => exact cu (Kd.R_reads' HO_9.out).2.2); (case side2 => exact (Kd.R_reads' HO_9.out).2.1); (case side3 => first | exact HTH.out | exact TabAt.below HTH.out (bu HB.out)); rintro e w59 ⟨v347, rfl, ho0, hb⟩; have n0_ := am (Kd.R_below (ru HO_3.out) hb); have n1_ := am (Kd.R_below (ru HO_5.out) hb); have n2_ := am (Kd.R_elder' (ru HO_9.out) (Kd.R_base ho0) hb); have n3_ := am (Kd.R_elder' (ru HO_10.out) (Kd.R_base ho0) hb); have n4_ := am (Kd.R_lower (Kd.R_new' (Kd.R_new' ho0 (Kd.R_lt (ru HO_9.out))) (Kd.R_lt (ru HO_10.out))) (below_size (bu HB.out))); have n5_ := am (below_step (bu HB.out) hb); clear HO_3; clear HO_5; clear HO_9; clear HO_10; clear HB; have HO_3 := n0_; have HO_5 := n1_; have HO_9 := n2_; have HO_10 := n3_; have HO348 := n4_; have HB := n5_; clear n0_ n1_ n2_ n3_ n4_ n5_; (try clear hb); (try clear hb2); (try clear hk); (try clear hi); (try clear ho0); obtain ⟨Ao60, co60, eo60⟩ := Kd.R_slice HO_10.out; subst eo60; obtain ⟨Ao61, co61, eo61⟩ := Kd.R_slice HO348.out; subst eo61) | (go_at_call 30; (with_reducible refine (laws_sameTones.calls k2 _ _ x10_2 _ _ t345 true _ ?side1 ?side2 ?side3 ?side4 A41.out).mono ?_); (case side1 => exact cu (Kd.R_reads' HO_10.out).2.2); (case side2 => exact (Kd.R_reads' HO_10.out).2.1); (case side3 => exact cu (Kd.R_reads' HO348.out).2.2); (case side4 => exact (Kd.R_reads' HO348.out).2.1); rintro e w' ⟨rfl, ⟨nd, rfl⟩⟩; (try first | exact ⟨rfl, _, World.drewN_drewN _ _ _⟩ | exact ⟨rfl, _, Eq.trans (World.drewN_drewN _ _ _) (congrArg (World.drewN _) (Nat.add_assoc _ _ _))⟩); obtain ⟨Ao62, co62, eo62⟩ := Kd.R_slice HO_5.out; subst eo62) | (go_at_call 31; (with_reducible refine (impl_DiscantTogether.calls k2 _ _ t315 _ _ t319 true _ ?side1 ?side2 ?side3 ?side4 A43.out).mono ?_); (case side1 => exact cu (Kd.R_reads' HO_3.out).2.2); (case side2 => exact (Kd.R_reads' HO_3.out).2.1); (case side3 => exact cu (Kd.R_reads' HO_5.out).2.2); (case side4 => exact (Kd.R_reads' HO_5.out).2.1); rintro e w63 ⟨rfl, hb⟩; have n0_ := am (Kd.R_below (ru HO_3.out) hb); have n1_ := am (Kd.R_below (ru HO_5.out) hb); have n2_ := am (Kd.R_below (ru HO_9.out) hb); have n3_ := am (Kd.R_below (ru HO_10.out) hb); have n4_ := am (Kd.R_below (ru HO348.out) hb); have n5_ := am (below_step (bu HB.out) hb); clear HO_3; clear HO_5; clear HO_9; clear HO_10; clear HO348; clear HB; have HO_3 := n0_; have HO_5 := n1_; have HO_9 := n2_; have HO_10 := n3_; have HO348 := n4_; have HB := n5_; clear n0_ n1_ n2_ n3_ n4_ n5_; (try clear hb); (try clear hb2); (try clear hk); (try clear hi)) | (go_at_call 24; (with_reducible refine (impl_DiscantContrary.calls k2 _ _ t315 _ _ t319 t351 _ ?side1 ?side2 ?side3 ?side4 A45.out).mono ?_); (case side1 => exact cu (Kd.R_reads' HO_3.out).2.2); (case side2 => exact (Kd.R_reads' HO_3.out).2.1); (case side3 => exact cu (Kd.R_reads' HO_5.out).2.2); (case side4 => exact (Kd.R_reads' HO_5.out).2.1); rintro e w64 ⟨rfl, hb⟩; have n0_ := am (Kd.R_below (ru HO_3.out) hb); have n1_ := am (Kd.R_below (ru HO_5.out) hb); have n2_ := am (Kd.R_below (ru HO_9.out) hb); have n3_ := am (Kd.R_below (ru HO_10.out) hb); have n4_ := am (Kd.R_below (ru HO348.out) hb); have n5_ := am (below_step (bu HB.out) hb); clear HO_3; clear HO_5; clear HO_9; clear HO_10; clear HO348; clear HB; have HO_3 := n0_; have HO_5 := n1_; have HO_9 := n2_; have HO_10 := n3_; have HO348 := n4_; have HB := n5_; clear n0_ n1_ n2_ n3_ n4_ n5_; (try clear hb); (try clear hb2); (try clear hk); (try clear hi))))
            go_ret
            exact ⟨by first | rfl | (simp [errW_none, errW_some] <;> rfl) | (simp [*, errW_none, errW_some] <;> rfl), bu HB.out⟩
          ·replace c44 := Bool.eq_false_iff.mpr c44
           subst c44
           have H1 : (some false) = some r := by rw [if_neg (show ¬ (false = true) by decide)] at H; exact H
           clear H
           have H := H1
           clear H1
           obtain rfl := Option.some.inj H
           obtain ⟨Ao65, co65, eo65⟩ := Kd.R_slice HO_9.out
           subst eo65
           go_wp2_with (first | (go_at_call 29; (with_reducible refine (impl_MelodyMove.calls k2 _ _ x9_2 t316 t345 true _ ?side1 ?side2 ?side3 A39.out).mono ?_); (case side1 => exact cu (Kd.R_reads' HO_9.out).2.2); (case side2 => exact (Kd.R_reads' HO_9.out).2.1); (case side3 => first | exact HTH.out | exact TabAt.below HTH.out (bu HB.out)); rintro e w66 ⟨v347, rfl, ho0, hb⟩; have n0_ := am (Kd.R_below (ru HO_3.out) hb); have n1_ := am (Kd.R_below (ru HO_5.out) hb); have n2_ := am (Kd.R_elder' (ru HO_9.out) (Kd.R_base ho0) hb); have n3_ := am (Kd.R_elder' (ru HO_10.out) (Kd.R_base ho0) hb); have n4_ := am (Kd.R_lower (Kd.R_new' (Kd.R_new' ho0 (Kd.R_lt (ru HO_9.out))) (Kd.R_lt (ru HO_10.out))) (below_size (bu HB.out))); have n5_ := am (below_step (bu HB.out) hb); clear HO_3; clear HO_5; clear HO_9; clear HO_10; clear HB; have HO_3 := n0_; have HO_5 := n1_; have HO_9 := n2_; have HO_10 := n3_; have HO348 := n4_; have HB := n5_; clear n0_ n1_ n2_ n3_ n4_ n5_; (try clear hb); (try clear hb2); (try clear hk); (try clear hi); (try clear ho0); obtain ⟨Ao67, co67, eo67⟩ := Kd.R_slice HO_10.out; subst eo67; obtain ⟨Ao68, co68, eo68⟩ := Kd.R_slice HO348.out; subst eo68) | (go_at_call 30; (with_reducible refine (laws_sameTones.calls k2 _ _ x10_2 _ _ t345 true _ ?side1 ?side2 ?side3 ?side4 A41.out).mono ?_); (case side1 => exact cu (Kd.R_reads' HO_10.out).2.2); (case side2 => exact (Kd.R_reads' HO_10.out).2.1); (case side3 => exact cu (Kd.R_reads' HO348.out).2.2); (case side4 => exact (Kd.R_reads' HO348.out).2.1); rintro e w' ⟨rfl, ⟨nd, rfl⟩⟩; (try first | exact ⟨rfl, _, World.drewN_drewN _ _ _⟩ | exact ⟨rfl, _, Eq.trans (World.drewN_drewN _ _ _) (congrArg (World.drewN _) (Nat.add_assoc _ _ _))⟩); obtain ⟨Ao69, co69, eo69⟩ := Kd.R_slice HO_5.out; subst eo69) | (go_at_call 31; (with_reducible refine (impl_DiscantTogether.calls k2 _ _ t315 _ _ t319 false _ ?side1 ?side2 ?side3 ?side4 A43.out).mono ?_); (case side1 => exact cu (Kd.R_reads' HO_3.out).2.2); (case side2 => exact (Kd.R_reads' HO_3.out).2.1); (case side3 => exact cu (Kd.R_reads' HO_5.out).2.2); (case side4 => exact (Kd.R_reads' HO_5.out).2.1); rintro e w70 ⟨rfl, hb⟩; have n0_ := am (Kd.R_below (ru HO_3.out) hb); have n1_ := am (Kd.R_below (ru HO_5.out) hb); have n2_ := am (Kd.R_below (ru HO_9.out) hb); have n3_ := am (Kd.R_below (ru HO_10.out) hb); have n4_ := am (Kd.R_below (ru HO348.out) hb); have n5_ := am (below_step (bu HB.out) hb); clear HO_3; clear HO_5; clear HO_9; clear HO_10; clear HO348; clear HB; have HO_3 := n0_; have HO_5 := n1_; have HO_9 := n2_; have HO_10 := n3_; have HO348 := n4_; have HB := n5_; clear n0_ n1_ n2_ n3_ n4_ n5_; (try clear hb); (try clear hb2); (try clear hk); (try clear hi)))
           repeat (go_quiet (first | (go_at_call 29; (with_reducible refine (impl_MelodyMove.calls k2 _ _ x9_2 t316 t345 true _ ?side1 ?side2 ?side3 A39.out).mono ?_); (case side1 => exact cu (Kd.R_reads' HO_9.out).2.2); (case side2 => exact (Kd.R_reads' HO_9.out).2.1); (case side3 => first | exact HTH.out | exact TabAt.below HTH.out (bu HB.out)); rintro e w66 ⟨v347, rfl, ho0, hb⟩; have n0_ := am (Kd.R_below (ru HO_3.out) hb); have n1_ := am (Kd.R_below (ru HO_5.out) hb); have n2_ := am (Kd.R_elder' (ru HO_9.out) (Kd.R_base ho0) hb); have n3_ := am (Kd.R_elder' (ru HO_10.out) (Kd.R_base ho0) hb); have n4_ := am (Kd.R_lower (Kd.R_new' (Kd.R_new' ho0 (Kd.R_lt (ru HO_9.out))) (Kd.R_lt (ru HO_10.out))) (below_size (bu HB.out))); have n5_ := am (below_step (bu HB.out) hb); clear HO_3; clear HO_5; clear HO_9; clear HO_10; clear HB; have HO_3 := n0_; have HO_5 := n1_; have HO_9 := n2_; have HO_10 := n3_; have HO348 := n4_; have HB := n5_; clear n0_ n1_ n2_ n3_ n4_ n5_; (try clear hb); (try clear hb2); (try clear hk); (try clear hi); (try clear ho0); obtain ⟨Ao67, co67, eo67⟩ := Kd.R_slice HO_10.out; subst eo67; obtain ⟨Ao68, co68, eo68⟩ := Kd.R_slice HO348.out; subst eo68) | (go_at_call 30; (with_reducible refine (laws_sameTones.calls k2 _ _ x10_2 _ _ t345 true _ ?side1 ?side2 ?side3 ?side4 A41.out).mono ?_); (case side1 => exact cu (Kd.R_reads' HO_10.out).2.2); (case side2 => exact (Kd.R_reads' HO_10.out).2.1); (case side3 => exact cu (Kd.R_reads' HO348.out).2.2); (case side4 => exact (Kd.R_reads' HO348.out).2.1); rintro e w' ⟨rfl, ⟨nd, rfl⟩⟩; (try first | exact ⟨rfl, _, World.drewN_drewN _ _ _⟩ | exact ⟨rfl, _, Eq.trans (World.drewN_drewN _ _ _) (congrArg (World.drewN _) (Nat.add_assoc _ _ _))⟩); obtain ⟨Ao69, co69, eo69⟩ := Kd.R_slice HO_5.out; subst eo69) | (go_at_call 31; (with_reducible refine (impl_DiscantTogether.calls k2 _ _ t315 _ _ t319 false _ ?side1 ?side2 ?side3 ?side4 A43.out).mono ?_); (case side1 => exact cu (Kd.R_reads' HO_3.out).2.2); (case side2 => exact (Kd.R_reads' HO_3.out).2.1); (case side3 => exact cu (Kd.R_reads' HO_5.out).2.2); (case side4 => exact (Kd.R_reads' HO_5.out).2.1); rintro e w70 ⟨rfl, hb⟩; have n0_ := am (Kd.R_below (ru HO_3.out) hb); have n1_ := am (Kd.R_below (ru HO_5.out) hb); have n2_ := am (Kd.R_below (ru HO_9.out) hb); have n3_ := am (Kd.R_below (ru HO_10.out) hb); have n4_ := am (Kd.R_below (ru HO348.out) hb); have n5_ := am (below_step (bu HB.out) hb); clear HO_3; clear HO_5; clear HO_9; clear HO_10; clear HO348; clear HB; have HO_3 := n0_; have HO_5 := n1_; have HO_9 := n2_; have HO_10 := n3_; have HO348 := n4_; have HB := n5_; clear n0_ n1_ n2_ n3_ n4_ n5_; (try clear hb); (try clear hb2); (try clear hk); (try clear hi))); try go_wp2_with (first | (go_at_call 29; (with_reducible refine (impl_MelodyMove.calls k2 _ _ x9_2 t316 t345 true _ ?side1 ?side2 ?side3 A39.out).mono ?_); (case side1 => exact cu (Kd.R_reads' HO_9.out).2.2); (case side2 => exact (Kd.R_reads' HO_9.out).2.1); (case side3 => first | exact HTH.out | exact TabAt.below HTH.out (bu HB.out)); rintro e w66 ⟨v347, rfl, ho0, hb⟩; have n0_ := am (Kd.R_below (ru HO_3.out) hb); have n1_ := am (Kd.R_below (ru HO_5.out) hb); have n2_ := am (Kd.R_elder' (ru HO_9.out) (Kd.R_base ho0) hb); have n3_ := am (Kd.R_elder' (ru HO_10.out) (Kd.R_base ho0) hb); have n4_ := am (Kd.R_lower (Kd.R_new' (Kd.R_new' ho0 (Kd.R_lt (ru HO_9.out))) (Kd.R_lt (ru HO_10.out))) (below_size (bu HB.out))); have n5_ := am (below_step (bu HB.out) hb); clear HO_3; clear HO_5; clear HO_9; clear HO_10; clear HB; have HO_3 := n0_; have HO_5 := n1_; have HO_9 := n2_; have HO_10 := n3_; have HO348 := n4_; have HB := n5_; clear n0_ n1_ n2_ n3_ n4_ n5_; (try clear hb); (try clear hb2); (try clear hk); (try clear hi); (try clear ho0); obtain ⟨Ao67, co67, eo67⟩ := Kd.R_slice HO_10.out; subst eo67; obtain ⟨Ao68, co68, eo68⟩ := Kd.R_slice HO348.out; subst eo68) | (go_at_call 30; (with_reducible refine (laws_sameTones.calls k2 _ _ x10_2 _ _ t345 true _ ?side1 ?side2 ?side3 ?side4 A41.out).mono ?_); (case side1 => exact cu (Kd.R_reads' HO_10.out).2.2); (case side2 => exact (Kd.R_reads' HO_10.out).2.1); (case side3 => exact cu (Kd.R_reads' HO348.out).2.2); (case side4 => exact (Kd.R_reads' HO348.out).2.1); rintro e w' ⟨rfl, ⟨nd, rfl⟩⟩; (try first | exact ⟨rfl, _, World.drewN_drewN _ _ _⟩ | exact ⟨rfl, _, Eq.trans (World.drewN_drewN _ _ _) (congrArg (World.drewN _) (Nat.add_assoc _ _ _))⟩); obtain ⟨Ao69, co69, eo69⟩ := Kd.R_slice HO_5.out; subst eo69) | (go_at_call 31; (with_reducible refine (impl_DiscantTogether.calls k2 _ _ t315 _ _ t319 false _ ?side1 ?side2 ?side3 ?side4 A43.out).mono ?_); (case side1 => exact cu (Kd.R_reads' HO_3.out).2.2); (case side2 => exact (Kd.R_reads' HO_3.out).2.1); (case side3 => exact cu (Kd.R_reads' HO_5.out).2.2); (case side4 => exact (Kd.R_reads' HO_5.out).2.1); rintro e w70 ⟨rfl, hb⟩; have n0_ := am (Kd.R_below (ru HO_3.out) hb); have n1_ := am (Kd.R_below (ru HO_5.out) hb); have n2_ := am (Kd.R_below (ru HO_9.out) hb); have n3_ := am (Kd.R_below (ru HO_10.out) hb); have n4_ := am (Kd.R_below (ru HO348.out) hb); have n5_ := am (below_step (bu HB.out) hb); clear HO_3; clear HO_5; clear HO_9; clear HO_10; clear HO348; clear HB; have HO_3 := n0_; have HO_5 := n1_; have HO_9 := n2_; have HO_10 := n3_; have HO348 := n4_; have HB := n5_; clear n0_ n1_ n2_ n3_ n4_ n5_; (try clear hb); (try clear hb2); (try clear hk); (try clear hi))))
           go_ret
           exact ⟨by first | rfl | (simp [errW_none, errW_some] <;> rfl) | (simp [*, errW_none, errW_some] <;> rfl), bu HB.out⟩
         ·replace c42 := Bool.eq_false_iff.mpr c42
          subst c42
          have H1 : (some false) = some r := by rw [if_neg (show ¬ (false = true) by decide)] at H; exact H
          clear H
          have H := H1
          clear H1
          obtain rfl := Option.some.inj H
          obtain ⟨Ao71, co71, eo71⟩ := Kd.R_slice HO_9.out
          subst eo71
          go_wp2_with (first | (go_at_call 29; (with_reducible refine (impl_MelodyMove.calls k2 _ _ x9_2 t316 t345 true _ ?side1 ?side2 ?side3 A39.out).mono ?_); (case side1 => exact cu (Kd.R_reads' HO_9.out).2.2); (case side2 => exact (Kd.R_reads' HO_9.out).2.1); (case side3 => first | exact HTH.out | exact TabAt.below HTH.out (bu HB.out)); rintro e w72 ⟨v347, rfl, ho0, hb⟩; have n0_ := am (Kd.R_below (ru HO_3.out) hb); have n1_ := am (Kd.R_below (ru HO_5.out) hb); have n2_ := am (Kd.R_elder' (ru HO_9.out) (Kd.R_base ho0) hb); have n3_ := am (Kd.R_elder' (ru HO_10.out) (Kd.R_base ho0) hb); have n4_ := am (Kd.R_lower (Kd.R_new' (Kd.R_new' ho0 (Kd.R_lt (ru HO_9.out))) (Kd.R_lt (ru HO_10.out))) (below_size (bu HB.out))); have n5_ := am (below_step (bu HB.out) hb); clear HO_3; clear HO_5; clear HO_9; clear HO_10; clear HB; have HO_3 := n0_; have HO_5 := n1_; have HO_9 := n2_; have HO_10 := n3_; have HO348 := n4_; have HB := n5_; clear n0_ n1_ n2_ n3_ n4_ n5_; (try clear hb); (try clear hb2); (try clear hk); (try clear hi); (try clear ho0); obtain ⟨Ao73, co73, eo73⟩ := Kd.R_slice HO_10.out; subst eo73; obtain ⟨Ao74, co74, eo74⟩ := Kd.R_slice HO348.out; subst eo74) | (go_at_call 30; (with_reducible refine (laws_sameTones.calls k2 _ _ x10_2 _ _ t345 false _ ?side1 ?side2 ?side3 ?side4 A41.out).mono ?_); (case side1 => exact cu (Kd.R_reads' HO_10.out).2.2); (case side2 => exact (Kd.R_reads' HO_10.out).2.1); (case side3 => exact cu (Kd.R_reads' HO348.out).2.2); (case side4 => exact (Kd.R_reads' HO348.out).2.1); rintro e w' ⟨rfl, ⟨nd, rfl⟩⟩; (try first | exact ⟨rfl, _, World.drewN_drewN _ _ _⟩ | exact ⟨rfl, _, Eq.trans (World.drewN_drewN _ _ _) (congrArg (World.drewN _) (Nat.add_assoc _ _ _))⟩)))
          repeat (go_quiet (first | (go_at_call 29; (with_reducible refine (impl_MelodyMove.calls k2 _ _ x9_2 t316 t345 true _ ?side1 ?side2 ?side3 A39.out).mono ?_); (case side1 => exact cu (Kd.R_reads' HO_9.out).2.2); (case side2 => exact (Kd.R_reads' HO_9.out).2.1); (case side3 => first | exact HTH.out | exact TabAt.below HTH.out (bu HB.out)); rintro e w72 ⟨v347, rfl, ho0, hb⟩; have n0_ := am (Kd.R_below (ru HO_3.out) hb); have n1_ := am (Kd.R_below (ru HO_5.out) hb); have n2_ := am (Kd.R_elder' (ru HO_9.out) (Kd.R_base ho0) hb); have n3_ := am (Kd.R_elder' (ru HO_10.out) (Kd.R_base ho0) hb); have n4_ := am (Kd.R_lower (Kd.R_new' (Kd.R_new' ho0 (Kd.R_lt (ru HO_9.out))) (Kd.R_lt (ru HO_10.out))) (below_size (bu HB.out))); have n5_ := am (below_step (bu HB.out) hb); clear HO_3; clear HO_5; clear HO_9; clear HO_10; clear HB; have HO_3 := n0_; have HO_5 := n1_; have HO_9 := n2_; have HO_10 := n3_; have HO348 := n4_; have HB := n5_; clear n0_ n1_ n2_ n3_ n4_ n5_; (try clear hb); (try clear hb2); (try clear hk); (try clear hi); (try clear ho0); obtain ⟨Ao73, co73, eo73⟩ := Kd.R_slice HO_10.out; subst eo73; obtain ⟨Ao74, co74, eo74⟩ := Kd.R_slice HO348.out; subst eo74) | (go_at_call 30; (with_reducible refine (laws_sameTones.calls k2 _ _ x10_2 _ _ t345 false _ ?side1 ?side2 ?side3 ?side4 A41.out).mono ?_); (case side1 => exact cu (Kd.R_reads' HO_10.out).2.2); (case side2 => exact (Kd.R_reads' HO_10.out).2.1); (case side3 => exact cu (Kd.R_reads' HO348.out).2.2); (case side4 => exact (Kd.R_reads' HO348.out).2.1); rintro e w' ⟨rfl, ⟨nd, rfl⟩⟩; (try first | exact ⟨rfl, _, World.drewN_drewN _ _ _⟩ | exact ⟨rfl, _, Eq.trans (World.drewN_drewN _ _ _) (congrArg (World.drewN _) (Nat.add_assoc _ _ _))⟩))); try go_wp2_with (first | (go_at_call 29; (with_reducible refine (impl_MelodyMove.calls k2 _ _ x9_2 t316 t345 true _ ?side1 ?side2 ?side3 A39.out).mono ?_); (case side1 => exact cu (Kd.R_reads' HO_9.out).2.2); (case side2 => exact (Kd.R_reads' HO_9.out).2.1); (case side3 => first | exact HTH.out | exact TabAt.below HTH.out (bu HB.out)); rintro e w72 ⟨v347, rfl, ho0, hb⟩; have n0_ := am (Kd.R_below (ru HO_3.out) hb); have n1_ := am (Kd.R_below (ru HO_5.out) hb); have n2_ := am (Kd.R_elder' (ru HO_9.out) (Kd.R_base ho0) hb); have n3_ := am (Kd.R_elder' (ru HO_10.out) (Kd.R_base ho0) hb); have n4_ := am (Kd.R_lower (Kd.R_new' (Kd.R_new' ho0 (Kd.R_lt (ru HO_9.out))) (Kd.R_lt (ru HO_10.out))) (below_size (bu HB.out))); have n5_ := am (below_step (bu HB.out) hb); clear HO_3; clear HO_5; clear HO_9; clear HO_10; clear HB; have HO_3 := n0_; have HO_5 := n1_; have HO_9 := n2_; have HO_10 := n3_; have HO348 := n4_; have HB := n5_; clear n0_ n1_ n2_ n3_ n4_ n5_; (try clear hb); (try clear hb2); (try clear hk); (try clear hi); (try clear ho0); obtain ⟨Ao73, co73, eo73⟩ := Kd.R_slice HO_10.out; subst eo73; obtain ⟨Ao74, co74, eo74⟩ := Kd.R_slice HO348.out; subst eo74) | (go_at_call 30; (with_reducible refine (laws_sameTones.calls k2 _ _ x10_2 _ _ t345 false _ ?side1 ?side2 ?side3 ?side4 A41.out).mono ?_); (case side1 => exact cu (Kd.R_reads' HO_10.out).2.2); (case side2 => exact (Kd.R_reads' HO_10.out).2.1); (case side3 => exact cu (Kd.R_reads' HO348.out).2.2); (case side4 => exact (Kd.R_reads' HO348.out).2.1); rintro e w' ⟨rfl, ⟨nd, rfl⟩⟩; (try first | exact ⟨rfl, _, World.drewN_drewN _ _ _⟩ | exact ⟨rfl, _, Eq.trans (World.drewN_drewN _ _ _) (congrArg (World.drewN _) (Nat.add_assoc _ _ _))⟩))))
          go_ret
          exact ⟨by first | rfl | (simp [errW_none, errW_some] <;> rfl) | (simp [*, errW_none, errW_some] <;> rfl), bu HB.out⟩
        ·replace c40 := Bool.eq_false_iff.mpr c40
         subst c40
         have H1 : (some false) = some r := by rw [if_neg (show ¬ (false = true) by decide)] at H; exact H
         clear H
         have H := H1
         clear H1
         obtain rfl := Option.some.inj H
         obtain ⟨Ao75, co75, eo75⟩ := Kd.R_slice HO_9.out
         subst eo75
         go_wp2_with (first | (go_at_call 29; (with_reducible refine (impl_MelodyMove.calls k2 _ _ x9_2 t316 t345 false _ ?side1 ?side2 ?side3 A39.out).mono ?_); (case side1 => exact cu (Kd.R_reads' HO_9.out).2.2); (case side2 => exact (Kd.R_reads' HO_9.out).2.1); (case side3 => first | exact HTH.out | exact TabAt.below HTH.out (bu HB.out)); rintro e w76 ⟨v347, rfl, ho0, hb⟩; have n0_ := am (Kd.R_below (ru HO_3.out) hb); have n1_ := am (Kd.R_below (ru HO_5.out) hb); have n2_ := am (Kd.R_elder' (ru HO_9.out) (Kd.R_base ho0) hb); have n3_ := am (Kd.R_elder' (ru HO_10.out) (Kd.R_base ho0) hb); have n4_ := am (Kd.R_lower (Kd.R_new' (Kd.R_new' ho0 (Kd.R_lt (ru HO_9.out))) (Kd.R_lt (ru HO_10.out))) (below_size (bu HB.out))); have n5_ := am (below_step (bu HB.out) hb); clear HO_3; clear HO_5; clear HO_9; clear HO_10; clear HB; have HO_3 := n0_; have HO_5 := n1_; have HO_9 := n2_; have HO_10 := n3_; have HO348 := n4_; have HB := n5_; clear n0_ n1_ n2_ n3_ n4_ n5_; (try clear hb); (try clear hb2); (try clear hk); (try clear hi); (try clear ho0)))
         repeat (go_quiet (first | (go_at_call 29; (with_reducible refine (impl_MelodyMove.calls k2 _ _ x9_2 t316 t345 false _ ?side1 ?side2 ?side3 A39.out).mono ?_); (case side1 => exact cu (Kd.R_reads' HO_9.out).2.2); (case side2 => exact (Kd.R_reads' HO_9.out).2.1); (case side3 => first | exact HTH.out | exact TabAt.below HTH.out (bu HB.out)); rintro e w76 ⟨v347, rfl, ho0, hb⟩; have n0_ := am (Kd.R_below (ru HO_3.out) hb); have n1_ := am (Kd.R_below (ru HO_5.out) hb); have n2_ := am (Kd.R_elder' (ru HO_9.out) (Kd.R_base ho0) hb); have n3_ := am (Kd.R_elder' (ru HO_10.out) (Kd.R_base ho0) hb); have n4_ := am (Kd.R_lower (Kd.R_new' (Kd.R_new' ho0 (Kd.R_lt (ru HO_9.out))) (Kd.R_lt (ru HO_10.out))) (below_size (bu HB.out))); have n5_ := am (below_step (bu HB.out) hb); clear HO_3; clear HO_5; clear HO_9; clear HO_10; clear HB; have HO_3 := n0_; have HO_5 := n1_; have HO_9 := n2_; have HO_10 := n3_; have HO348 := n4_; have HB := n5_; clear n0_ n1_ n2_ n3_ n4_ n5_; (try clear hb); (try clear hb2); (try clear hk); (try clear hi); (try clear ho0))); try go_wp2_with (first | (go_at_call 29; (with_reducible refine (impl_MelodyMove.calls k2 _ _ x9_2 t316 t345 false _ ?side1 ?side2 ?side3 A39.out).mono ?_); (case side1 => exact cu (Kd.R_reads' HO_9.out).2.2); (case side2 => exact (Kd.R_reads' HO_9.out).2.1); (case side3 => first | exact HTH.out | exact TabAt.below HTH.out (bu HB.out)); rintro e w76 ⟨v347, rfl, ho0, hb⟩; have n0_ := am (Kd.R_below (ru HO_3.out) hb); have n1_ := am (Kd.R_below (ru HO_5.out) hb); have n2_ := am (Kd.R_elder' (ru HO_9.out) (Kd.R_base ho0) hb); have n3_ := am (Kd.R_elder' (ru HO_10.out) (Kd.R_base ho0) hb); have n4_ := am (Kd.R_lower (Kd.R_new' (Kd.R_new' ho0 (Kd.R_lt (ru HO_9.out))) (Kd.R_lt (ru HO_10.out))) (below_size (bu HB.out))); have n5_ := am (below_step (bu HB.out) hb); clear HO_3; clear HO_5; clear HO_9; clear HO_10; clear HB; have HO_3 := n0_; have HO_5 := n1_; have HO_9 := n2_; have HO_10 := n3_; have HO348 := n4_; have HB := n5_; clear n0_ n1_ n2_ n3_ n4_ n5_; (try clear hb); (try clear hb2); (try clear hk); (try clear hi); (try clear ho0))))
         go_ret
         exact ⟨by first | rfl | (simp [errW_none, errW_some] <;> rfl) | (simp [*, errW_none, errW_some] <;> rfl), bu HB.out⟩

end Go.Proofs.YtcndojoghmblaaaDoor.GD
