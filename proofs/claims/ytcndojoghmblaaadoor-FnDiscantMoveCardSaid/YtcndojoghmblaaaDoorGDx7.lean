-- Made by this session's gprint.py out of the translation. Not trusted: Lean checks it.
import Derived.Test.YtcndojoghmblaaaDoorGDx0
import Derived.Test.YtcndojoghmblaaaDoorGDx3
import Derived.Test.YtcndojoghmblaaaDoorGDx6
namespace Go.Proofs.YtcndojoghmblaaaDoor.GD
open Go.RowKit Go.Proofs.YtcndojoghmblaaaDoorW.PrintWords Go.Proofs.YtcndojoghmblaaaDoorW.PrintLast Go.Proofs.YtcndojoghmblaaaDoorW.PrintMore
attribute [local go_sem] max2_int min2_int max_two min_two max_three min_three max_four min_four   -- for this text's walks alone
set_option linter.unusedVariables false
set_option linter.unusedSimpArgs false

/-! ### spec_l92Part: function 82 -/
mutual
def spec_l92Part.l0 : Nat → Int → List (S44) → Int → List Int → Int → Option ((List (S44)) × Int)
 | 0, _, _, _, _, _ => none
 | k + 1, x1, x5, x6, x1000, x1001 => if x1 > 0 then (spec_l92Part.j1 k x1 x5 x6 (decide ((x5.length : Int) < 12)) x1000 x1001) else (spec_l92Part.j1 k x1 x5 x6 false x1000 x1001)
def spec_l92Part.j1 : Nat → Int → List (S44) → Int → Bool → List Int → Int → Option ((List (S44)) × Int)
 | 0, _, _, _, _, _, _ => none
 | k + 1, x1, x5, x6, x18, x1000, x1001 => if x18 = true then ((spec_l6Rd_pick.f k x1000 x1001 (mn 3 x1)).bind fun bt142 => ((spec_l1Letter.f x6).bind fun t144 => (if t144 = 2 then ((spec_l6Rd_pick.f k x1000 bt142.2 3).bind fun bt145 => (if x5.length < 5864062014805 then ((spec_l6Rd_pick.f k x1000 bt145.2 5).bind fun bt150 => (spec_l92Part.l0 k (wrap64 (x1 - (wrap64 (1 + bt142.1)))) (x5 ++ [(⟨(⟨x6, (bt145.1 == 0)⟩ : S30), wrap64 (1 + bt142.1)⟩ : S44)]) (mx 1 (mn 16 (wrap64 ((wrap64 (x6 + bt150.1)) - 2)))) x1000 bt150.2)) else (none))) else (if x5.length < 5864062014805 then ((spec_l6Rd_pick.f k x1000 bt142.2 5).bind fun bt155 => (spec_l92Part.l0 k (wrap64 (x1 - (wrap64 (1 + bt142.1)))) (x5 ++ [(⟨(⟨x6, false⟩ : S30), wrap64 (1 + bt142.1)⟩ : S44)]) (mx 1 (mn 16 (wrap64 ((wrap64 (x6 + bt155.1)) - 2)))) x1000 bt155.2)) else (none))))) else (if (x5.length : Int) > 0 then ((spec_l6Rd_pick.f k x1000 x1001 50).bind fun bt157 => (if bt157.1 = 0 then ((some (([0, 4] : List Int) : List Int)).bind fun y159 => ((spec_l6Rd_pick.f k x1000 bt157.2 2).bind fun bt162 => (if 0 ≤ bt162.1 then (if bt162.1 < (y159.length : Int) then (if 0 < (x5.length : Int) then (some ((x5.set (0 : Int).toNat (⟨(⟨(rd_T44 x5 0).f0.f0, (rd_T44 x5 0).f0.f1⟩ : S30), rd y159 bt162.1⟩ : S44)), bt162.2)) else (none)) else (none)) else (none)))) else (if bt157.1 = 1 then (if 0 < (x5.length : Int) then (some ((x5.set (0 : Int).toNat (⟨(⟨21, (rd_T44 x5 0).f0.f1⟩ : S30), (rd_T44 x5 0).f1⟩ : S44)), bt157.2)) else (none)) else (some (x5, bt157.2))))) else (some (x5, x1001)))
end
def spec_l92Part.f (k : Nat) (s0_0 : List Int) (s0_1 : Int) (a1 : Int) : Option ((List (S44)) × Int) := (spec_l6Rd_pick.f k s0_0 s0_1 6).bind fun bt140 => (spec_l92Part.l0 k a1 (([] : List (S44))) (wrap64 (5 + bt140.1)) s0_0 bt140.2)
set_option maxHeartbeats 8000000 in
set_option maxRecDepth 100000 in
theorem spec_l92Part.calls (k : Nat) (g : Nat) (s0_0 : List Int) (s0_1 : Int) (a1 : Int) (r1 : List (S44)) (r2 : Int) (w0 w : World) (hI : IsS158 w0 w g s0_0 s0_1) (hB : Below w0.heap.size w0 w) (h : spec_l92Part.f k s0_0 s0_1 a1 = some (r1, r2)) :
  Calls Tryd.prog 82 #[.pointer (some ⟨g, 0, none⟩), .int .i64 a1] w fun e w' => ∃ v0_ : Value, e = .returned (v0_) ∧ Kd.R k44 44 w' w.heap.size (fun _ => True) v0_ r1 ∧ IsS158 w0 w' g s0_0 r2 ∧ Below w0.heap.size w0 w' ∧ KeepBut w w' g none := by
 have hu30 := Tryd.underlying30
 have hu44 := Tryd.underlying44
 have HI0 := am hI
 have HK := am (KeepBut.refl w g none)
 have HL := am hB.size
 clear hI
 have HW0 := am hB.size
 have HB := am hB
 clear hB
 have H : ((spec_l6Rd_pick.f k s0_0 s0_1 6).bind fun bt140 => (spec_l92Part.l0 k a1 (([] : List (S44))) (wrap64 (5 + bt140.1)) s0_0 bt140.2)) = some (r1, r2) := h
 clear h
 obtain ⟨y137, hy137⟩ : ∃ y_ : List (S44), y_ = (([] : List (S44))) := ⟨_, rfl⟩
 replace H : ((spec_l6Rd_pick.f k s0_0 s0_1 6).bind fun bt140 => (spec_l92Part.l0 k a1 y137 (wrap64 (5 + bt140.1)) s0_0 bt140.2)) = some (r1, r2) := by first | (rw [hy137]; with_reducible exact H) | (have H2_ := (Option.bind_some _ _).symm.trans H; rw [hy137]; with_reducible exact H2_) | (have H2_ := (Option.bind_some _ _).symm.trans H; with_reducible exact H2_) | with_reducible exact H | (rw [hy137]; exact H) | exact H
 have Ny137 := am hy137
 clear hy137
 replace H := Option.bind_eq_some_iff.mp H
 obtain ⟨⟨t140, t141⟩, A30, H⟩ := H
 replace H : (spec_l92Part.l0 k a1 y137 (wrap64 (5 + t140)) s0_0 t141) = some (r1, r2) := H
 have A3 := am A30
 clear A30
 have H' := am H
 clear H
 go_enter Tryd.func82, Tryd.ntmps82
 go_wp2_with (first | ((with_reducible refine gate_dst (N := 8) rfl ?_); (try (refine gate_guard (by rfl) ?_; dsimp only)); refine Kd.R_lit k44 _ 44 ?hg (N := 8) ?hd (xs := ([] : List (S44))) (inner := []) (ok := fun _ => True) (okp := fun _ => True) ?hr ?hp (fun _ hk => hk) trivial (Below.refl _ _) (Nat.le_refl _) (by simp) ?_; (case hd => rfl); (case hg => rfl); (case hr => first | (go_simp; done) | (go_simp; rfl)); (case hp => exact (Reps.none _ _)); intro v138 w4 ho5 hb hg_ hnew_; clear hg_ hnew_; (first | rw [← Ny137.out] at ho5 | (simp only [Int.reduceToNat] at ho5; rw [← Ny137.out] at ho5)); have n0_ := am (Kd.R_lower ho5 (keep_size (w := w) (g := g) (row := none) (by repeat (first | (with_reducible first | exact HK.out | apply KeepBut.set_ | apply keep_drewN | apply keep_drew | apply keep_alloc) | exact HK.out)))); have n1_ := am (IsS158.below (by repeat (first | (with_reducible first | exact HI0.out | apply IsS158.alloc | apply IsS158.drewN | apply IsS158.drew | apply IsS158.set_1) | exact HI0.out)) hb); have n2_ := am (KeepBut.trans (by repeat (first | (with_reducible first | exact HK.out | apply KeepBut.set_ | apply keep_drewN | apply keep_drew | apply keep_alloc) | exact HK.out)) (KeepBut.of_below hb g none) (.inl rfl)); have n3_ := am (below_step (by repeat (first | (with_reducible first | exact HB.out | apply below_alloc | apply pw_below_drewN | apply below_drew1 | refine below_set ?_ (IsS158.ge HI0.out)) | exact HB.out)) hb); clear HI0; clear HK; clear HB; have HO139 := n0_; have HI0 := n1_; have HK := n2_; have HB := n3_; clear n0_ n1_ n2_ n3_; clear hb ho5) | ((with_reducible refine gate_callee (f := 83) rfl ?_); refine goesL_ (some 10) rfl rfl Tryd.func83 (by kernel_rfl) rfl #[.pointer (some ⟨g, 0, none⟩), .int .i64 6] rfl (by (try simp only [List.map_toArray, List.map_cons, List.map_nil]); first | done | rfl | (simp only [List.length_drop, List.length_take]; rfl)) ?_; (with_reducible refine (spec_l6Rd_pick.calls k g s0_0 s0_1 6 t140 t141 w0 _ ?side1 ?side2 A3.out).mono ?_); (case side1 => repeat (first | (with_reducible first | exact HI0.out | apply IsS158.alloc | apply IsS158.drewN | apply IsS158.drew | apply IsS158.set_1) | exact HI0.out)); (case side2 => repeat (first | (with_reducible first | exact HB.out | apply below_alloc | apply pw_below_drewN | apply below_drew1 | refine below_set ?_ (IsS158.ge HI0.out)) | exact HB.out)); rintro e w6 ⟨rfl, hi, hb, hk⟩; refine ⟨_, rfl, ?_⟩; have n0_ := am (Kd.R_mono (Kd.R_keep (IsS158.apart (show IsS158 w0 _ g s0_0 s0_1 from by repeat (first | (with_reducible first | exact HI0.out | apply IsS158.alloc | apply IsS158.drewN | apply IsS158.drew | apply IsS158.set_1) | exact HI0.out)) (ru HO139.out) (by decide)) hk (fun _ h => h.2)) (fun _ h => h.1)); have n1_ := am (KeepBut.trans (by repeat (first | (with_reducible first | exact HK.out | apply KeepBut.set_ | apply keep_drewN | apply keep_drew | apply keep_alloc) | exact HK.out)) hk (.inl rfl)); have n2_ := am (hb); have n3_ := am (hi); clear HO139; clear HK; clear HB; clear HI0; have HO139 := n0_; have HK := n1_; have HB := n2_; have HI0 := n3_; clear n0_ n1_ n2_ n3_; (try clear hb); (try clear hb2); (try clear hk); (try clear hi)))
 go_loopg [1, 5, 6] k (fun kq v1 v5 v6 w' => ∃ (x1_1 : Int) (x5_1 : List (S44)) (x6_1 : Int) (x1001_1 : Int), v1 = .int .i64 x1_1 ∧ v6 = .int .i64 x6_1 ∧ Aside0 (spec_l92Part.l0 kq x1_1 x5_1 x6_1 s0_0 x1001_1 = some (r1, r2)) ∧ Aside0 (kq ≤ k) ∧ Aside0 (Kd.R k44 44 w' w.heap.size (fun _ => True) v5 x5_1) ∧ Aside0 (IsS158 w0 w' g s0_0 x1001_1) ∧ Aside0 (KeepBut w w' g none) ∧ Aside0 (Below w0.heap.size w0 w'))
 case atStart => exact ⟨(a1), (y137), (wrap64 (5 + t140)), (t141), (by first | rfl | (simp; done) | (simp [*]; done)), (by first | rfl | (simp; done) | (simp [*]; done)), H', ⟨Nat.le_refl _⟩, ⟨ru HO139.out⟩, ⟨by repeat (first | (with_reducible first | exact HI0.out | apply IsS158.alloc | apply IsS158.drewN | apply IsS158.drew | apply IsS158.set_1) | exact HI0.out)⟩, ⟨by repeat (first | (with_reducible first | exact HK.out | apply KeepBut.set_ | apply keep_drewN | apply keep_drew | apply keep_alloc) | exact HK.out)⟩, ⟨by repeat (first | (with_reducible first | exact HB.out | apply below_alloc | apply pw_below_drewN | apply below_drew1 | refine below_set ?_ (IsS158.ge HI0.out)) | exact HB.out)⟩⟩
 case round =>
  clear H'
  try clear p2
  try clear p6
  obtain ⟨x1_1, x5_1, x6_1, x1001_1, rfl, rfl, HA, HK1, HO_5, HI0, HK, HB⟩ := hrel
  cases gk with
  | zero => exact absurd HA.out (by simp [spec_l92Part.l0])
  | succ k1 =>
   have H := HA.out
   clear HA
   simp only [spec_l92Part.l0] at H
   have HC7 := am H
   clear H
   go_upto_region 3 with (fail)
   go_cut [18] (fun v18 wc => ∃ (kq : Nat) (x18_6 : Bool), v18 = .bool x18_6 ∧ Aside0 (spec_l92Part.j1 kq x1_1 x5_1 x6_1 x18_6 s0_0 x1001_1 = some (r1, r2)) ∧ Aside0 (kq ≤ k1) ∧ Aside0 (Kd.R k44 44 wc w.heap.size (fun _ => True) u5 x5_1) ∧ Aside0 (IsS158 w0 wc g s0_0 x1001_1) ∧ Aside0 (KeepBut w wc g none) ∧ Aside0 (Below w0.heap.size w0 wc))
   case first =>
    have H := HC7.out
    clear HC7
    by_cases c8 : x1_1 > 0
    ·rw [if_pos c8] at H
     have c8b0 : decide (0 < x1_1) = true := decide_eq_true c8
     clear c8
     (first | rw [c8b0] | (simp only [i64_w, i32_w]; rw [c8b0]) | skip)
     have H' := am H
     clear H
     obtain ⟨Ao9, co9, eo9⟩ := Kd.R_slice HO_5.out
     subst eo9
     go_wp2
     go_meet
     case rel => exact ⟨_, (decide ((x5_1.length : Int) < 12)), (by first | rfl | (simp; done) | (simp [*]; done)), H', ⟨by have := HK1.out; first | omega | exact Nat.le_refl _⟩, ⟨ru HO_5.out⟩, ⟨by repeat (first | (with_reducible first | exact HI0.out | apply IsS158.alloc | apply IsS158.drewN | apply IsS158.drew | apply IsS158.set_1) | exact HI0.out)⟩, ⟨by repeat (first | (with_reducible first | exact HK.out | apply KeepBut.set_ | apply keep_drewN | apply keep_drew | apply keep_alloc) | exact HK.out)⟩, ⟨by repeat (first | (with_reducible first | exact HB.out | apply below_alloc | apply pw_below_drewN | apply below_drew1 | refine below_set ?_ (IsS158.ge HI0.out)) | exact HB.out)⟩⟩
    ·rw [if_neg c8] at H
     have c8b0 : decide (0 < x1_1) = false := decide_eq_false c8
     clear c8
     (first | rw [c8b0] | (simp only [i64_w, i32_w]; rw [c8b0]) | skip)
     have H' := am H
     clear H
     go_wp2
     go_meet
     case rel => exact ⟨_, (false), (by first | rfl | (simp; done) | (simp [*]; done)), H', ⟨by have := HK1.out; first | omega | exact Nat.le_refl _⟩, ⟨ru HO_5.out⟩, ⟨by repeat (first | (with_reducible first | exact HI0.out | apply IsS158.alloc | apply IsS158.drewN | apply IsS158.drew | apply IsS158.set_1) | exact HI0.out)⟩, ⟨by repeat (first | (with_reducible first | exact HK.out | apply KeepBut.set_ | apply keep_drewN | apply keep_drew | apply keep_alloc) | exact HK.out)⟩, ⟨by repeat (first | (with_reducible first | exact HB.out | apply below_alloc | apply pw_below_drewN | apply below_drew1 | refine below_set ?_ (IsS158.ge HI0.out)) | exact HB.out)⟩⟩
   case rest =>
    clear HC7
    try clear p2
    try clear p6
    try clear c8
    try clear c8b0
    try clear p2
    try clear p6
    obtain ⟨kq, x18_6, rfl, HA, HJ6, HO_5, HI0, HK, HB⟩ := hcut
    cases kq with
    | zero => exact absurd HA.out (by simp [spec_l92Part.j1])
    | succ kj6 =>
     have H := HA.out
     clear HA
     simp only [spec_l92Part.j1] at H
     by_cases c10 : x18_6 = true
     ·subst c10
      have H1 : ((spec_l6Rd_pick.f kj6 s0_0 x1001_1 (mn 3 x1_1)).bind fun bt142 => ((spec_l1Letter.f x6_1).bind fun t144 => (if t144 = 2 then ((spec_l6Rd_pick.f kj6 s0_0 bt142.2 3).bind fun bt145 => (if x5_1.length < 5864062014805 then ((spec_l6Rd_pick.f kj6 s0_0 bt145.2 5).bind fun bt150 => (spec_l92Part.l0 kj6 (wrap64 (x1_1 - (wrap64 (1 + bt142.1)))) (x5_1 ++ [(⟨(⟨x6_1, (bt145.1 == 0)⟩ : S30), wrap64 (1 + bt142.1)⟩ : S44)]) (mx 1 (mn 16 (wrap64 ((wrap64 (x6_1 + bt150.1)) - 2)))) s0_0 bt150.2)) else (none))) else (if x5_1.length < 5864062014805 then ((spec_l6Rd_pick.f kj6 s0_0 bt142.2 5).bind fun bt155 => (spec_l92Part.l0 kj6 (wrap64 (x1_1 - (wrap64 (1 + bt142.1)))) (x5_1 ++ [(⟨(⟨x6_1, false⟩ : S30), wrap64 (1 + bt142.1)⟩ : S44)]) (mx 1 (mn 16 (wrap64 ((wrap64 (x6_1 + bt155.1)) - 2)))) s0_0 bt155.2)) else (none))))) = some (r1, r2) := by rw [if_pos rfl] at H; exact H
      clear H
      have H := H1
      clear H1
      obtain ⟨ji11, hji11⟩ : ∃ j_ : Int, (mn 3 x1_1) = j_ := ⟨_, rfl⟩
      replace H : ((spec_l6Rd_pick.f kj6 s0_0 x1001_1 (ji11)).bind fun bt142 => ((spec_l1Letter.f x6_1).bind fun t144 => (if t144 = 2 then ((spec_l6Rd_pick.f kj6 s0_0 bt142.2 3).bind fun bt145 => (if x5_1.length < 5864062014805 then ((spec_l6Rd_pick.f kj6 s0_0 bt145.2 5).bind fun bt150 => (spec_l92Part.l0 kj6 (wrap64 (x1_1 - (wrap64 (1 + bt142.1)))) (x5_1 ++ [(⟨(⟨x6_1, (bt145.1 == 0)⟩ : S30), wrap64 (1 + bt142.1)⟩ : S44)]) (mx 1 (mn 16 (wrap64 ((wrap64 (x6_1 + bt150.1)) - 2)))) s0_0 bt150.2)) else (none))) else (if x5_1.length < 5864062014805 then ((spec_l6Rd_pick.f kj6 s0_0 bt142.2 5).bind fun bt155 => (spec_l92Part.l0 kj6 (wrap64 (x1_1 - (wrap64 (1 + bt142.1)))) (x5_1 ++ [(⟨(⟨x6_1, false⟩ : S30), wrap64 (1 + bt142.1)⟩ : S44)]) (mx 1 (mn 16 (wrap64 ((wrap64 (x6_1 + bt155.1)) - 2)))) s0_0 bt155.2)) else (none))))) = some (r1, r2) := by first | (rw [hji11] at H; exact H) | (simp only [hji11] at H ⊢; exact H)
      have hji11_ : (if x1_1 < 3 then x1_1 else 3) = ji11 := hji11
      replace H := Option.bind_eq_some_iff.mp H
      obtain ⟨⟨t142, t143⟩, A120, H⟩ := H
      replace H : ((spec_l1Letter.f x6_1).bind fun t144 => (if t144 = 2 then ((spec_l6Rd_pick.f kj6 s0_0 t143 3).bind fun bt145 => (if x5_1.length < 5864062014805 then ((spec_l6Rd_pick.f kj6 s0_0 bt145.2 5).bind fun bt150 => (spec_l92Part.l0 kj6 (wrap64 (x1_1 - (wrap64 (1 + t142)))) (x5_1 ++ [(⟨(⟨x6_1, (bt145.1 == 0)⟩ : S30), wrap64 (1 + t142)⟩ : S44)]) (mx 1 (mn 16 (wrap64 ((wrap64 (x6_1 + bt150.1)) - 2)))) s0_0 bt150.2)) else (none))) else (if x5_1.length < 5864062014805 then ((spec_l6Rd_pick.f kj6 s0_0 t143 5).bind fun bt155 => (spec_l92Part.l0 kj6 (wrap64 (x1_1 - (wrap64 (1 + t142)))) (x5_1 ++ [(⟨(⟨x6_1, false⟩ : S30), wrap64 (1 + t142)⟩ : S44)]) (mx 1 (mn 16 (wrap64 ((wrap64 (x6_1 + bt155.1)) - 2)))) s0_0 bt155.2)) else (none)))) = some (r1, r2) := H
      have A12 := am A120
      clear A120
      replace H := Option.bind_eq_some_iff.mp H
      obtain ⟨t144, A130, H⟩ := H
      replace H : (if t144 = 2 then ((spec_l6Rd_pick.f kj6 s0_0 t143 3).bind fun bt145 => (if x5_1.length < 5864062014805 then ((spec_l6Rd_pick.f kj6 s0_0 bt145.2 5).bind fun bt150 => (spec_l92Part.l0 kj6 (wrap64 (x1_1 - (wrap64 (1 + t142)))) (x5_1 ++ [(⟨(⟨x6_1, (bt145.1 == 0)⟩ : S30), wrap64 (1 + t142)⟩ : S44)]) (mx 1 (mn 16 (wrap64 ((wrap64 (x6_1 + bt150.1)) - 2)))) s0_0 bt150.2)) else (none))) else (if x5_1.length < 5864062014805 then ((spec_l6Rd_pick.f kj6 s0_0 t143 5).bind fun bt155 => (spec_l92Part.l0 kj6 (wrap64 (x1_1 - (wrap64 (1 + t142)))) (x5_1 ++ [(⟨(⟨x6_1, false⟩ : S30), wrap64 (1 + t142)⟩ : S44)]) (mx 1 (mn 16 (wrap64 ((wrap64 (x6_1 + bt155.1)) - 2)))) s0_0 bt155.2)) else (none))) = some (r1, r2) := H
      have A13 := am A130
      clear A130
      by_cases c14 : t144 = 2
      ·rw [if_pos c14] at H
       have c14b0 : (t144 == 2) = true := beq_iff_eq.mpr c14
       have c14b1 : (t144 != 2) = false := bne_eq_false_iff_eq.mpr c14
       clear c14
       replace H := Option.bind_eq_some_iff.mp H
       obtain ⟨⟨t145, t146⟩, A150, H⟩ := H
       replace H : (if x5_1.length < 5864062014805 then ((spec_l6Rd_pick.f kj6 s0_0 t146 5).bind fun bt150 => (spec_l92Part.l0 kj6 (wrap64 (x1_1 - (wrap64 (1 + t142)))) (x5_1 ++ [(⟨(⟨x6_1, (t145 == 0)⟩ : S30), wrap64 (1 + t142)⟩ : S44)]) (mx 1 (mn 16 (wrap64 ((wrap64 (x6_1 + bt150.1)) - 2)))) s0_0 bt150.2)) else (none)) = some (r1, r2) := H
       have A15 := am A150
       clear A150
       by_cases c16 : x5_1.length < 5864062014805
       ·rw [if_pos c16] at H
        have LMc16 := am c16
        clear c16
        obtain ⟨y147, hy147⟩ : ∃ y_ : List (S44), y_ = (x5_1 ++ [(⟨(⟨x6_1, (t145 == 0)⟩ : S30), wrap64 (1 + t142)⟩ : S44)]) := ⟨_, rfl⟩
        replace H : ((spec_l6Rd_pick.f kj6 s0_0 t146 5).bind fun bt150 => (spec_l92Part.l0 kj6 (wrap64 (x1_1 - (wrap64 (1 + t142)))) y147 (mx 1 (mn 16 (wrap64 ((wrap64 (x6_1 + bt150.1)) - 2)))) s0_0 bt150.2)) = some (r1, r2) := by first | (rw [hy147]; with_reducible exact H) | (have H2_ := (Option.bind_some _ _).symm.trans H; rw [hy147]; with_reducible exact H2_) | (have H2_ := (Option.bind_some _ _).symm.trans H; with_reducible exact H2_) | with_reducible exact H | (rw [hy147]; exact H) | exact H
        have Ny147 := am hy147
        clear hy147
        replace H := Option.bind_eq_some_iff.mp H
        obtain ⟨⟨t150, t151⟩, A170, H⟩ := H
        replace H : (spec_l92Part.l0 kj6 (wrap64 (x1_1 - (wrap64 (1 + t142)))) y147 (mx 1 (mn 16 (wrap64 ((wrap64 (x6_1 + t150)) - 2)))) s0_0 t151) = some (r1, r2) := H
        have A17 := am A170
        clear A170
        obtain ⟨ji18, hji18⟩ : ∃ j_ : Int, (mn 16 (wrap64 ((wrap64 (x6_1 + t150)) - 2))) = j_ := ⟨_, rfl⟩
        replace H : (spec_l92Part.l0 kj6 (wrap64 (x1_1 - (wrap64 (1 + t142)))) y147 (mx 1 (ji18)) s0_0 t151) = some (r1, r2) := by first | (rw [hji18] at H; exact H) | (simp only [hji18] at H ⊢; exact H)
        (try rw [hji18] at A12)
        (try rw [hji18] at A13)
        (try rw [hji18] at A15)
        (try rw [hji18] at A17)
        have hji18_ : (if (wrap64 ((wrap64 (x6_1 + t150)) - 2)) < 16 then (wrap64 ((wrap64 (x6_1 + t150)) - 2)) else 16) = ji18 := hji18
        obtain ⟨ji19, hji19⟩ : ∃ j_ : Int, (mx 1 (ji18)) = j_ := ⟨_, rfl⟩
        replace H : (spec_l92Part.l0 kj6 (wrap64 (x1_1 - (wrap64 (1 + t142)))) y147 ji19 s0_0 t151) = some (r1, r2) := by first | (rw [hji19] at H; exact H) | (simp only [hji19] at H ⊢; exact H)
        (try rw [hji19] at A12)
        (try rw [hji19] at A13)
        (try rw [hji19] at A15)
        (try rw [hji19] at A17)
        have hji19_ : (if 1 < (ji18) then (ji18) else 1) = ji19 := hji19
        have H' := am H
        clear H
        go_wp2_with (first | ((with_reducible refine gate_callee (f := 83) rfl ?_); refine goesL_ (some 22) rfl rfl Tryd.func83 (by kernel_rfl) rfl #[.pointer (some ⟨g, 0, none⟩), .int .i64 ji11] rfl (by (try simp only [List.map_toArray, List.map_cons, List.map_nil]); first | done | (simp only [hji11]; rfl) | rfl | (simp only [List.length_drop, List.length_take]; rfl)) ?_; (with_reducible refine (spec_l6Rd_pick.calls kj6 g s0_0 x1001_1 ji11 t142 t143 w0 _ ?side1 ?side2 A12.out).mono ?_); (case side1 => repeat (first | (with_reducible first | exact HI0.out | apply IsS158.alloc | apply IsS158.drewN | apply IsS158.drew | apply IsS158.set_1) | exact HI0.out)); (case side2 => repeat (first | (with_reducible first | exact HB.out | apply below_alloc | apply pw_below_drewN | apply below_drew1 | refine below_set ?_ (IsS158.ge HI0.out)) | exact HB.out)); rintro e w20 ⟨rfl, hi, hb, hk⟩; refine ⟨_, rfl, ?_⟩; have n0_ := am (Kd.R_mono (Kd.R_keep (IsS158.apart (show IsS158 w0 _ g s0_0 x1001_1 from by repeat (first | (with_reducible first | exact HI0.out | apply IsS158.alloc | apply IsS158.drewN | apply IsS158.drew | apply IsS158.set_1) | exact HI0.out)) (ru HO_5.out) (by decide)) hk (fun _ h => h.2)) (fun _ h => h.1)); have n1_ := am (KeepBut.trans (by repeat (first | (with_reducible first | exact HK.out | apply KeepBut.set_ | apply keep_drewN | apply keep_drew | apply keep_alloc) | exact HK.out)) hk (.inl rfl)); have n2_ := am (hb); have n3_ := am (hi); clear HO_5; clear HK; clear HB; clear HI0; have HO_5 := n0_; have HK := n1_; have HB := n2_; have HI0 := n3_; clear n0_ n1_ n2_ n3_; (try clear hb); (try clear hb2); (try clear hk); (try clear hi)) | ((with_reducible refine gate_callee (f := 129) rfl ?_); refine goesL_ (some 27) rfl rfl Tryd.func129 (by kernel_rfl) rfl #[.int .i64 x6_1] rfl (by (try simp only [List.map_toArray, List.map_cons, List.map_nil]); first | done | rfl | (simp only [List.length_drop, List.length_take]; rfl)) ?_; (with_reducible refine (spec_l1Letter.calls x6_1 t144 _ A13.out).mono ?_); rintro e w' ⟨rfl, ⟨nd, rfl⟩⟩; refine ⟨_, rfl, ?_⟩) | (go_at_call 83; (with_reducible refine (spec_l6Rd_pick.calls kj6 g s0_0 t143 3 t145 t146 w0 _ ?side1 ?side2 A15.out).mono ?_); (case side1 => repeat (first | (with_reducible first | exact HI0.out | apply IsS158.alloc | apply IsS158.drewN | apply IsS158.drew | apply IsS158.set_1) | exact HI0.out)); (case side2 => repeat (first | (with_reducible first | exact HB.out | apply below_alloc | apply pw_below_drewN | apply below_drew1 | refine below_set ?_ (IsS158.ge HI0.out)) | exact HB.out)); rintro e w21 ⟨rfl, hi, hb, hk⟩; have n0_ := am (Kd.R_mono (Kd.R_keep (IsS158.apart (show IsS158 w0 _ g s0_0 t143 from by repeat (first | (with_reducible first | exact HI0.out | apply IsS158.alloc | apply IsS158.drewN | apply IsS158.drew | apply IsS158.set_1) | exact HI0.out)) (ru HO_5.out) (by decide)) hk (fun _ h => h.2)) (fun _ h => h.1)); have n1_ := am (KeepBut.trans (by repeat (first | (with_reducible first | exact HK.out | apply KeepBut.set_ | apply keep_drewN | apply keep_drew | apply keep_alloc) | exact HK.out)) hk (.inl rfl)); have n2_ := am (hb); have n3_ := am (hi); clear HO_5; clear HK; clear HB; clear HI0; have HO_5 := n0_; have HK := n1_; have HB := n2_; have HI0 := n3_; clear n0_ n1_ n2_ n3_; (try clear hb); (try clear hb2); (try clear hk); (try clear hi)) | ((with_reducible refine gate_builtin (b := .append) (xs := #[.tmp 24, .tmp 37]) rfl ?_); (try (refine gate_guard (by rfl) ?_; dsimp only)); at_builtin; refine Kd.R_append k44 w.heap.size rfl (.tmp 24) (.tmp 37) 23 44 (.agg #[(.int .i64 0), (.bool false), (.int .i64 0)]) 24 rfl Tryd.underlying23 info44 rfl (by decide) (by omega) u5 x5_1 (⟨(⟨x6_1, (t145 == 0)⟩ : S30), wrap64 (1 + t142)⟩ : S44) [.int .i64 x6_1, .bool (t145 == 0), .int .i64 (wrap64 (1 + t142))] (fun _ => True) (fun _ => False) rfl rfl ?aP (fun _ hk => hk.elim) ?aF ?aO (Below.refl _ _) ?aS ?aL ?_; (case aP => exact k44_mkM _ _ _ (⟨(⟨x6_1, (t145 == 0)⟩ : S30), wrap64 (1 + t142)⟩ : S44)); (case aF => exact (fun _ _ => trivial)); (case aO => exact (ru HO_5.out)); (case aS => exact (keep_size (w := w) (g := g) (row := none) (by repeat (first | (with_reducible first | exact HK.out | apply KeepBut.set_ | apply keep_drewN | apply keep_drew | apply keep_alloc) | exact HK.out)))); (case aL => have := LMc16.out; omega); intro v148 w22 ho hb hg hat; rw [← Ny147.out] at ho; have n0_ := am (IsS158.grown (by repeat (first | (with_reducible first | exact HI0.out | apply IsS158.alloc | apply IsS158.drewN | apply IsS158.drew | apply IsS158.set_1) | exact HI0.out)) hg (IsS158.own_ne HI0.out HO_5.out (by decide))); have n1_ := am (below_weaken (by repeat (first | (with_reducible first | exact HB.out | apply below_alloc | apply pw_below_drewN | apply below_drew1 | refine below_set ?_ (IsS158.ge HI0.out)) | exact HB.out)) HL.out hb); have n2_ := am (KeepBut.trans (by repeat (first | (with_reducible first | exact HK.out | apply KeepBut.set_ | apply keep_drewN | apply keep_drew | apply keep_alloc) | exact HK.out)) (KeepBut.of_grown hg g) (Kd.R_base2 HO_5.out)); have n3_ := am (ho); clear HI0; clear HB; clear HK; clear HO_5; have HI0 := n0_; have HB := n1_; have HK := n2_; have HO149 := n3_; clear n0_ n1_ n2_ n3_; clear ho hb hg hat) | ((with_reducible refine gate_callee (f := 83) rfl ?_); refine goesL_ (some 44) rfl rfl Tryd.func83 (by kernel_rfl) rfl #[.pointer (some ⟨g, 0, none⟩), .int .i64 5] rfl (by (try simp only [List.map_toArray, List.map_cons, List.map_nil]); first | done | rfl | (simp only [List.length_drop, List.length_take]; rfl)) ?_; (with_reducible refine (spec_l6Rd_pick.calls kj6 g s0_0 t146 5 t150 t151 w0 _ ?side1 ?side2 A17.out).mono ?_); (case side1 => repeat (first | (with_reducible first | exact HI0.out | apply IsS158.alloc | apply IsS158.drewN | apply IsS158.drew | apply IsS158.set_1) | exact HI0.out)); (case side2 => repeat (first | (with_reducible first | exact HB.out | apply below_alloc | apply pw_below_drewN | apply below_drew1 | refine below_set ?_ (IsS158.ge HI0.out)) | exact HB.out)); rintro e w23 ⟨rfl, hi, hb, hk⟩; refine ⟨_, rfl, ?_⟩; have n0_ := am (Kd.R_mono (Kd.R_keep (IsS158.apart (show IsS158 w0 _ g s0_0 t146 from by repeat (first | (with_reducible first | exact HI0.out | apply IsS158.alloc | apply IsS158.drewN | apply IsS158.drew | apply IsS158.set_1) | exact HI0.out)) (ru HO149.out) (by decide)) hk (fun _ h => h.2)) (fun _ h => h.1)); have n1_ := am (KeepBut.trans (by repeat (first | (with_reducible first | exact HK.out | apply KeepBut.set_ | apply keep_drewN | apply keep_drew | apply keep_alloc) | exact HK.out)) hk (.inl rfl)); have n2_ := am (hb); have n3_ := am (hi); clear HO149; clear HK; clear HB; clear HI0; have HO149 := n0_; have HK := n1_; have HB := n2_; have HI0 := n3_; clear n0_ n1_ n2_ n3_; (try clear hb); (try clear hb2); (try clear hk); (try clear hi)))
        go_roundg kj6
        case measure => have := HK1.out; have := HJ6.out; omega
        case rel => exact ⟨(wrap64 (x1_1 - (wrap64 (1 + t142)))), (y147), (ji19), (t151), (by first | rfl | (simp; done) | (simp [*]; done)), (by first | rfl | (simp; done) | (simp only [← hji19] <;> (first | rfl | simp)) | (simp [*]; done)), H', ⟨by have := HK1.out; have := HJ6.out; omega⟩, ⟨ru HO149.out⟩, ⟨by repeat (first | (with_reducible first | exact HI0.out | apply IsS158.alloc | apply IsS158.drewN | apply IsS158.drew | apply IsS158.set_1) | exact HI0.out)⟩, ⟨by repeat (first | (with_reducible first | exact HK.out | apply KeepBut.set_ | apply keep_drewN | apply keep_drew | apply keep_alloc) | exact HK.out)⟩, ⟨by repeat (first | (with_reducible first | exact HB.out | apply below_alloc | apply pw_below_drewN | apply below_drew1 | refine below_set ?_ (IsS158.ge HI0.out)) | exact HB.out)⟩⟩
       ·rw [if_neg c16] at H
        exact absurd H (by simp)
      ·rw [if_neg c14] at H
       have c14b0 : (t144 == 2) = false := beq_eq_false_iff_ne.mpr c14
       have c14b1 : (t144 != 2) = true := bne_iff_ne.mpr c14
       by_cases c24 : x5_1.length < 5864062014805
       ·rw [if_pos c24] at H
        have LMc24 := am c24
        clear c24
        obtain ⟨y152, hy152⟩ : ∃ y_ : List (S44), y_ = (x5_1 ++ [(⟨(⟨x6_1, false⟩ : S30), wrap64 (1 + t142)⟩ : S44)]) := ⟨_, rfl⟩
        replace H : ((spec_l6Rd_pick.f kj6 s0_0 t143 5).bind fun bt155 => (spec_l92Part.l0 kj6 (wrap64 (x1_1 - (wrap64 (1 + t142)))) y152 (mx 1 (mn 16 (wrap64 ((wrap64 (x6_1 + bt155.1)) - 2)))) s0_0 bt155.2)) = some (r1, r2) := by first | (rw [hy152]; with_reducible exact H) | (have H2_ := (Option.bind_some _ _).symm.trans H; rw [hy152]; with_reducible exact H2_) | (have H2_ := (Option.bind_some _ _).symm.trans H; with_reducible exact H2_) | with_reducible exact H | (rw [hy152]; exact H) | exact H
        have Ny152 := am hy152
        clear hy152
        replace H := Option.bind_eq_some_iff.mp H
        obtain ⟨⟨t155, t156⟩, A250, H⟩ := H
        replace H : (spec_l92Part.l0 kj6 (wrap64 (x1_1 - (wrap64 (1 + t142)))) y152 (mx 1 (mn 16 (wrap64 ((wrap64 (x6_1 + t155)) - 2)))) s0_0 t156) = some (r1, r2) := H
        have A25 := am A250
        clear A250
        obtain ⟨ji26, hji26⟩ : ∃ j_ : Int, (mn 16 (wrap64 ((wrap64 (x6_1 + t155)) - 2))) = j_ := ⟨_, rfl⟩
        replace H : (spec_l92Part.l0 kj6 (wrap64 (x1_1 - (wrap64 (1 + t142)))) y152 (mx 1 (ji26)) s0_0 t156) = some (r1, r2) := by first | (rw [hji26] at H; exact H) | (simp only [hji26] at H ⊢; exact H)
        (try rw [hji26] at A12)
        (try rw [hji26] at A13)
        (try rw [hji26] at A25)
        have hji26_ : (if (wrap64 ((wrap64 (x6_1 + t155)) - 2)) < 16 then (wrap64 ((wrap64 (x6_1 + t155)) - 2)) else 16) = ji26 := hji26
        obtain ⟨ji27, hji27⟩ : ∃ j_ : Int, (mx 1 (ji26)) = j_ := ⟨_, rfl⟩
        replace H : (spec_l92Part.l0 kj6 (wrap64 (x1_1 - (wrap64 (1 + t142)))) y152 ji27 s0_0 t156) = some (r1, r2) := by first | (rw [hji27] at H; exact H) | (simp only [hji27] at H ⊢; exact H)
        (try rw [hji27] at A12)
        (try rw [hji27] at A13)
        (try rw [hji27] at A25)
        have hji27_ : (if 1 < (ji26) then (ji26) else 1) = ji27 := hji27
        have H' := am H
        clear H
        go_wp2_with (first | ((with_reducible refine gate_callee (f := 83) rfl ?_); refine goesL_ (some 22) rfl rfl Tryd.func83 (by kernel_rfl) rfl #[.pointer (some ⟨g, 0, none⟩), .int .i64 ji11] rfl (by (try simp only [List.map_toArray, List.map_cons, List.map_nil]); first | done | (simp only [hji11]; rfl) | rfl | (simp only [List.length_drop, List.length_take]; rfl)) ?_; (with_reducible refine (spec_l6Rd_pick.calls kj6 g s0_0 x1001_1 ji11 t142 t143 w0 _ ?side1 ?side2 A12.out).mono ?_); (case side1 => repeat (first | (with_reducible first | exact HI0.out | apply IsS158.alloc | apply IsS158.drewN | apply IsS158.drew | apply IsS158.set_1) | exact HI0.out)); (case side2 => repeat (first | (with_reducible first | exact HB.out | apply below_alloc | apply pw_below_drewN | apply below_drew1 | refine below_set ?_ (IsS158.ge HI0.out)) | exact HB.out)); rintro e w28 ⟨rfl, hi, hb, hk⟩; refine ⟨_, rfl, ?_⟩; have n0_ := am (Kd.R_mono (Kd.R_keep (IsS158.apart (show IsS158 w0 _ g s0_0 x1001_1 from by repeat (first | (with_reducible first | exact HI0.out | apply IsS158.alloc | apply IsS158.drewN | apply IsS158.drew | apply IsS158.set_1) | exact HI0.out)) (ru HO_5.out) (by decide)) hk (fun _ h => h.2)) (fun _ h => h.1)); have n1_ := am (KeepBut.trans (by repeat (first | (with_reducible first | exact HK.out | apply KeepBut.set_ | apply keep_drewN | apply keep_drew | apply keep_alloc) | exact HK.out)) hk (.inl rfl)); have n2_ := am (hb); have n3_ := am (hi); clear HO_5; clear HK; clear HB; clear HI0; have HO_5 := n0_; have HK := n1_; have HB := n2_; have HI0 := n3_; clear n0_ n1_ n2_ n3_; (try clear hb); (try clear hb2); (try clear hk); (try clear hi)) | ((with_reducible refine gate_callee (f := 129) rfl ?_); refine goesL_ (some 27) rfl rfl Tryd.func129 (by kernel_rfl) rfl #[.int .i64 x6_1] rfl (by (try simp only [List.map_toArray, List.map_cons, List.map_nil]); first | done | rfl | (simp only [List.length_drop, List.length_take]; rfl)) ?_; (with_reducible refine (spec_l1Letter.calls x6_1 t144 _ A13.out).mono ?_); rintro e w' ⟨rfl, ⟨nd, rfl⟩⟩; refine ⟨_, rfl, ?_⟩) | ((with_reducible refine gate_builtin (b := .append) (xs := #[.tmp 24, .tmp 37]) rfl ?_); (try (refine gate_guard (by rfl) ?_; dsimp only)); at_builtin; refine Kd.R_append k44 w.heap.size rfl (.tmp 24) (.tmp 37) 23 44 (.agg #[(.int .i64 0), (.bool false), (.int .i64 0)]) 24 rfl Tryd.underlying23 info44 rfl (by decide) (by omega) u5 x5_1 (⟨(⟨x6_1, false⟩ : S30), wrap64 (1 + t142)⟩ : S44) [.int .i64 x6_1, .bool false, .int .i64 (wrap64 (1 + t142))] (fun _ => True) (fun _ => False) rfl rfl ?aP (fun _ hk => hk.elim) ?aF ?aO (Below.refl _ _) ?aS ?aL ?_; (case aP => exact k44_mkM _ _ _ (⟨(⟨x6_1, false⟩ : S30), wrap64 (1 + t142)⟩ : S44)); (case aF => exact (fun _ _ => trivial)); (case aO => exact (ru HO_5.out)); (case aS => exact (keep_size (w := w) (g := g) (row := none) (by repeat (first | (with_reducible first | exact HK.out | apply KeepBut.set_ | apply keep_drewN | apply keep_drew | apply keep_alloc) | exact HK.out)))); (case aL => have := LMc24.out; omega); intro v153 w29 ho hb hg hat; rw [← Ny152.out] at ho; have n0_ := am (IsS158.grown (by repeat (first | (with_reducible first | exact HI0.out | apply IsS158.alloc | apply IsS158.drewN | apply IsS158.drew | apply IsS158.set_1) | exact HI0.out)) hg (IsS158.own_ne HI0.out HO_5.out (by decide))); have n1_ := am (below_weaken (by repeat (first | (with_reducible first | exact HB.out | apply below_alloc | apply pw_below_drewN | apply below_drew1 | refine below_set ?_ (IsS158.ge HI0.out)) | exact HB.out)) HL.out hb); have n2_ := am (KeepBut.trans (by repeat (first | (with_reducible first | exact HK.out | apply KeepBut.set_ | apply keep_drewN | apply keep_drew | apply keep_alloc) | exact HK.out)) (KeepBut.of_grown hg g) (Kd.R_base2 HO_5.out)); have n3_ := am (ho); clear HI0; clear HB; clear HK; clear HO_5; have HI0 := n0_; have HB := n1_; have HK := n2_; have HO154 := n3_; clear n0_ n1_ n2_ n3_; clear ho hb hg hat) | ((with_reducible refine gate_callee (f := 83) rfl ?_); refine goesL_ (some 44) rfl rfl Tryd.func83 (by kernel_rfl) rfl #[.pointer (some ⟨g, 0, none⟩), .int .i64 5] rfl (by (try simp only [List.map_toArray, List.map_cons, List.map_nil]); first | done | rfl | (simp only [List.length_drop, List.length_take]; rfl)) ?_; (with_reducible refine (spec_l6Rd_pick.calls kj6 g s0_0 t143 5 t155 t156 w0 _ ?side1 ?side2 A25.out).mono ?_); (case side1 => repeat (first | (with_reducible first | exact HI0.out | apply IsS158.alloc | apply IsS158.drewN | apply IsS158.drew | apply IsS158.set_1) | exact HI0.out)); (case side2 => repeat (first | (with_reducible first | exact HB.out | apply below_alloc | apply pw_below_drewN | apply below_drew1 | refine below_set ?_ (IsS158.ge HI0.out)) | exact HB.out)); rintro e w30 ⟨rfl, hi, hb, hk⟩; refine ⟨_, rfl, ?_⟩; have n0_ := am (Kd.R_mono (Kd.R_keep (IsS158.apart (show IsS158 w0 _ g s0_0 t143 from by repeat (first | (with_reducible first | exact HI0.out | apply IsS158.alloc | apply IsS158.drewN | apply IsS158.drew | apply IsS158.set_1) | exact HI0.out)) (ru HO154.out) (by decide)) hk (fun _ h => h.2)) (fun _ h => h.1)); have n1_ := am (KeepBut.trans (by repeat (first | (with_reducible first | exact HK.out | apply KeepBut.set_ | apply keep_drewN | apply keep_drew | apply keep_alloc) | exact HK.out)) hk (.inl rfl)); have n2_ := am (hb); have n3_ := am (hi); clear HO154; clear HK; clear HB; clear HI0; have HO154 := n0_; have HK := n1_; have HB := n2_; have HI0 := n3_; clear n0_ n1_ n2_ n3_; (try clear hb); (try clear hb2); (try clear hk); (try clear hi)))
        go_roundg kj6
        case measure => have := HK1.out; have := HJ6.out; omega
        case rel => exact ⟨(wrap64 (x1_1 - (wrap64 (1 + t142)))), (y152), (ji27), (t156), (by first | rfl | (simp; done) | (simp [*]; done)), (by first | rfl | (simp; done) | (simp only [← hji27] <;> (first | rfl | simp)) | (simp [*]; done)), H', ⟨by have := HK1.out; have := HJ6.out; omega⟩, ⟨ru HO154.out⟩, ⟨by repeat (first | (with_reducible first | exact HI0.out | apply IsS158.alloc | apply IsS158.drewN | apply IsS158.drew | apply IsS158.set_1) | exact HI0.out)⟩, ⟨by repeat (first | (with_reducible first | exact HK.out | apply KeepBut.set_ | apply keep_drewN | apply keep_drew | apply keep_alloc) | exact HK.out)⟩, ⟨by repeat (first | (with_reducible first | exact HB.out | apply below_alloc | apply pw_below_drewN | apply below_drew1 | refine below_set ?_ (IsS158.ge HI0.out)) | exact HB.out)⟩⟩
       ·rw [if_neg c24] at H
        exact absurd H (by simp)
     ·replace c10 := Bool.eq_false_iff.mpr c10
      subst c10
      have H1 : (if (x5_1.length : Int) > 0 then ((spec_l6Rd_pick.f kj6 s0_0 x1001_1 50).bind fun bt157 => (if bt157.1 = 0 then ((some (([0, 4] : List Int) : List Int)).bind fun y159 => ((spec_l6Rd_pick.f kj6 s0_0 bt157.2 2).bind fun bt162 => (if 0 ≤ bt162.1 then (if bt162.1 < (y159.length : Int) then (if 0 < (x5_1.length : Int) then (some ((x5_1.set (0 : Int).toNat (⟨(⟨(rd_T44 x5_1 0).f0.f0, (rd_T44 x5_1 0).f0.f1⟩ : S30), rd y159 bt162.1⟩ : S44)), bt162.2)) else (none)) else (none)) else (none)))) else (if bt157.1 = 1 then (if 0 < (x5_1.length : Int) then (some ((x5_1.set (0 : Int).toNat (⟨(⟨21, (rd_T44 x5_1 0).f0.f1⟩ : S30), (rd_T44 x5_1 0).f1⟩ : S44)), bt157.2)) else (none)) else (some (x5_1, bt157.2))))) else (some (x5_1, x1001_1))) = some (r1, r2) := by rw [if_neg (show ¬ (false = true) by decide)] at H; exact H
      clear H
      have H := H1
      clear H1
      by_cases c31 : (x5_1.length : Int) > 0
      ·rw [if_pos c31] at H
       have c31b0 : decide (0 < (x5_1.length : Int)) = true := decide_eq_true c31
       have c31b1 : decide (0 < x5_1.length) = true := decide_eq_true (by omega)
       clear c31
       replace H := Option.bind_eq_some_iff.mp H
       obtain ⟨⟨t157, t158⟩, A320, H⟩ := H
       replace H : (if t157 = 0 then ((some (([0, 4] : List Int) : List Int)).bind fun y159 => ((spec_l6Rd_pick.f kj6 s0_0 t158 2).bind fun bt162 => (if 0 ≤ bt162.1 then (if bt162.1 < (y159.length : Int) then (if 0 < (x5_1.length : Int) then (some ((x5_1.set (0 : Int).toNat (⟨(⟨(rd_T44 x5_1 0).f0.f0, (rd_T44 x5_1 0).f0.f1⟩ : S30), rd y159 bt162.1⟩ : S44)), bt162.2)) else (none)) else (none)) else (none)))) else (if t157 = 1 then (if 0 < (x5_1.length : Int) then (some ((x5_1.set (0 : Int).toNat (⟨(⟨21, (rd_T44 x5_1 0).f0.f1⟩ : S30), (rd_T44 x5_1 0).f1⟩ : S44)), t158)) else (none)) else (some (x5_1, t158)))) = some (r1, r2) := H
       have A32 := am A320
       clear A320
       by_cases c33 : t157 = 0
       ·rw [if_pos c33] at H
        have c33b0 : (t157 == 0) = true := beq_iff_eq.mpr c33
        have c33b1 : (t157 != 0) = false := bne_eq_false_iff_eq.mpr c33
        clear c33
        obtain ⟨y159, hy159⟩ : ∃ y_ : List Int, y_ = (([0, 4] : List Int)) := ⟨_, rfl⟩
        replace H : ((spec_l6Rd_pick.f kj6 s0_0 t158 2).bind fun bt162 => (if 0 ≤ bt162.1 then (if bt162.1 < (y159.length : Int) then (if 0 < (x5_1.length : Int) then (some ((x5_1.set (0 : Int).toNat (⟨(⟨(rd_T44 x5_1 0).f0.f0, (rd_T44 x5_1 0).f0.f1⟩ : S30), rd y159 bt162.1⟩ : S44)), bt162.2)) else (none)) else (none)) else (none))) = some (r1, r2) := by first | (rw [hy159]; with_reducible exact H) | (have H2_ := (Option.bind_some _ _).symm.trans H; rw [hy159]; with_reducible exact H2_) | (have H2_ := (Option.bind_some _ _).symm.trans H; with_reducible exact H2_) | with_reducible exact H | (rw [hy159]; exact H) | exact H
        have Ny159 := am hy159
        clear hy159
        replace H := Option.bind_eq_some_iff.mp H
        obtain ⟨⟨t162, t163⟩, A340, H⟩ := H
        replace H : (if 0 ≤ t162 then (if t162 < (y159.length : Int) then (if 0 < (x5_1.length : Int) then (some ((x5_1.set (0 : Int).toNat (⟨(⟨(rd_T44 x5_1 0).f0.f0, (rd_T44 x5_1 0).f0.f1⟩ : S30), rd y159 t162⟩ : S44)), t163)) else (none)) else (none)) else (none)) = some (r1, r2) := H
        have A34 := am A340
        clear A340
        by_cases c35 : 0 ≤ t162
        ·rw [if_pos c35] at H
         have c35b0 : decide (0 ≤ t162) = true := decide_eq_true c35
         clear c35
         by_cases c36 : t162 < (y159.length : Int)
         ·rw [if_pos c36] at H
          have c36b0 : decide (t162 < (y159.length : Int)) = true := decide_eq_true c36
          clear c36
          by_cases c37 : 0 < (x5_1.length : Int)
          ·rw [if_pos c37] at H
           have c37b0 : decide (0 < (x5_1.length : Int)) = true := decide_eq_true c37
           have c37b1 : decide (0 < x5_1.length) = true := decide_eq_true (by omega)
           clear c37
           obtain ⟨y165, hy165⟩ : ∃ y_ : List (S44), y_ = (x5_1.set (0 : Int).toNat (⟨(⟨(rd_T44 x5_1 0).f0.f0, (rd_T44 x5_1 0).f0.f1⟩ : S30), rd y159 t162⟩ : S44)) := ⟨_, rfl⟩
           replace H : (some (y165, t163)) = some (r1, r2) := by first | (rw [hy165]; with_reducible exact H) | (have H2_ := (Option.bind_some _ _).symm.trans H; rw [hy165]; with_reducible exact H2_) | (have H2_ := (Option.bind_some _ _).symm.trans H; with_reducible exact H2_) | with_reducible exact H | (rw [hy165]; exact H) | exact H
           have Ny165 := am hy165
           clear hy165
           simp only [Option.some.injEq, Prod.mk.injEq] at H
           obtain ⟨rfl, rfl⟩ := H
           obtain ⟨Ao39, co39, eo39⟩ := Kd.R_slice HO_5.out
           subst eo39
           go_wp2_with (first | ((with_reducible refine gate_callee (f := 83) rfl ?_); refine goesL_ (some 53) rfl rfl Tryd.func83 (by kernel_rfl) rfl #[.pointer (some ⟨g, 0, none⟩), .int .i64 50] rfl (by (try simp only [List.map_toArray, List.map_cons, List.map_nil]); first | done | rfl | (simp only [List.length_drop, List.length_take]; rfl)) ?_; (with_reducible refine (spec_l6Rd_pick.calls kj6 g s0_0 x1001_1 50 t157 t158 w0 _ ?side1 ?side2 A32.out).mono ?_); (case side1 => repeat (first | (with_reducible first | exact HI0.out | apply IsS158.alloc | apply IsS158.drewN | apply IsS158.drew | apply IsS158.set_1) | exact HI0.out)); (case side2 => repeat (first | (with_reducible first | exact HB.out | apply below_alloc | apply pw_below_drewN | apply below_drew1 | refine below_set ?_ (IsS158.ge HI0.out)) | exact HB.out)); rintro e w40 ⟨rfl, hi, hb, hk⟩; refine ⟨_, rfl, ?_⟩; have n0_ := am (Kd.R_mono (Kd.R_keep (IsS158.apart (show IsS158 w0 _ g s0_0 x1001_1 from by repeat (first | (with_reducible first | exact HI0.out | apply IsS158.alloc | apply IsS158.drewN | apply IsS158.drew | apply IsS158.set_1) | exact HI0.out)) (ru HO_5.out) (by decide)) hk (fun _ h => h.2)) (fun _ h => h.1)); have n1_ := am (KeepBut.trans (by repeat (first | (with_reducible first | exact HK.out | apply KeepBut.set_ | apply keep_drewN | apply keep_drew | apply keep_alloc) | exact HK.out)) hk (.inl rfl)); have n2_ := am (hb); have n3_ := am (hi); clear HO_5; clear HK; clear HB; clear HI0; have HO_5 := n0_; have HK := n1_; have HB := n2_; have HI0 := n3_; clear n0_ n1_ n2_ n3_; (try clear hb); (try clear hb2); (try clear hk); (try clear hi)) | ((with_reducible refine gate_dst (N := 57) rfl ?_); (try (refine gate_guard (by rfl) ?_; dsimp only)); refine Kd.R_lit (Kd.int .i64) _ 3 ?hg (N := 57) ?hd (xs := ([0, 4] : List Int)) (inner := [.int .i64 0, .int .i64 4]) (ok := fun _ => True) (okp := fun _ => True) ?hr ?hp (fun _ hk => hk) trivial (Below.refl _ _) (Nat.le_refl _) (by simp) ?_; (case hd => rfl); (case hg => rfl); (case hr => first | (go_simp; done) | (go_simp; rfl)); (case hp => exact (Reps.one (show Kd.M (Kd.int .i64) _ _ _ 0 [.int .i64 0] from rfl) (Reps.one (show Kd.M (Kd.int .i64) _ _ _ 4 [.int .i64 4] from rfl) (Reps.none _ _)))); intro v160 w41 ho42 hb hg_ hnew_; clear hg_ hnew_; (first | rw [← Ny159.out] at ho42 | (simp only [Int.reduceToNat] at ho42; rw [← Ny159.out] at ho42)); have n0_ := am (Kd.R_below (ru HO_5.out) hb); have n1_ := am (Kd.R_lower ho42 (keep_size (w := w) (g := g) (row := none) (by repeat (first | (with_reducible first | exact HK.out | apply KeepBut.set_ | apply keep_drewN | apply keep_drew | apply keep_alloc) | exact HK.out)))); have n2_ := am (IsS158.below (by repeat (first | (with_reducible first | exact HI0.out | apply IsS158.alloc | apply IsS158.drewN | apply IsS158.drew | apply IsS158.set_1) | exact HI0.out)) hb); have n3_ := am (KeepBut.trans (by repeat (first | (with_reducible first | exact HK.out | apply KeepBut.set_ | apply keep_drewN | apply keep_drew | apply keep_alloc) | exact HK.out)) (KeepBut.of_below hb g none) (.inl rfl)); have n4_ := am (below_step (by repeat (first | (with_reducible first | exact HB.out | apply below_alloc | apply pw_below_drewN | apply below_drew1 | refine below_set ?_ (IsS158.ge HI0.out)) | exact HB.out)) hb); clear HO_5; clear HI0; clear HK; clear HB; have HO_5 := n0_; have HO161 := n1_; have HI0 := n2_; have HK := n3_; have HB := n4_; clear n0_ n1_ n2_ n3_ n4_; clear hb ho42) | ((with_reducible refine gate_callee (f := 83) rfl ?_); refine goesL_ (some 59) rfl rfl Tryd.func83 (by kernel_rfl) rfl #[.pointer (some ⟨g, 0, none⟩), .int .i64 2] rfl (by (try simp only [List.map_toArray, List.map_cons, List.map_nil]); first | done | rfl | (simp only [List.length_drop, List.length_take]; rfl)) ?_; (with_reducible refine (spec_l6Rd_pick.calls kj6 g s0_0 t158 2 t162 t163 w0 _ ?side1 ?side2 A34.out).mono ?_); (case side1 => repeat (first | (with_reducible first | exact HI0.out | apply IsS158.alloc | apply IsS158.drewN | apply IsS158.drew | apply IsS158.set_1) | exact HI0.out)); (case side2 => repeat (first | (with_reducible first | exact HB.out | apply below_alloc | apply pw_below_drewN | apply below_drew1 | refine below_set ?_ (IsS158.ge HI0.out)) | exact HB.out)); rintro e w43 ⟨rfl, hi, hb, hk⟩; refine ⟨_, rfl, ?_⟩; have n0_ := am (Kd.R_mono (Kd.R_keep (IsS158.apart (show IsS158 w0 _ g s0_0 t158 from by repeat (first | (with_reducible first | exact HI0.out | apply IsS158.alloc | apply IsS158.drewN | apply IsS158.drew | apply IsS158.set_1) | exact HI0.out)) (ru HO_5.out) (by decide)) hk (fun _ h => h.2)) (fun _ h => h.1)); have n1_ := am (Kd.R_mono (Kd.R_keep (IsS158.apart (show IsS158 w0 _ g s0_0 t158 from by repeat (first | (with_reducible first | exact HI0.out | apply IsS158.alloc | apply IsS158.drewN | apply IsS158.drew | apply IsS158.set_1) | exact HI0.out)) (ru HO161.out) (by decide)) hk (fun _ h => h.2)) (fun _ h => h.1)); have n2_ := am (KeepBut.trans (by repeat (first | (with_reducible first | exact HK.out | apply KeepBut.set_ | apply keep_drewN | apply keep_drew | apply keep_alloc) | exact HK.out)) hk (.inl rfl)); have n3_ := am (hb); have n4_ := am (hi); clear HO_5; clear HO161; clear HK; clear HB; clear HI0; have HO_5 := n0_; have HO161 := n1_; have HK := n2_; have HB := n3_; have HI0 := n4_; clear n0_ n1_ n2_ n3_ n4_; (try clear hb); (try clear hb2); (try clear hk); (try clear hi); obtain ⟨Ao44, co44, eo44⟩ := Kd.R_slice HO161.out; subst eo44; have p164 : 0 ≤ (t162 : Int) := od; have q164 : t162 < (y159.length : Int) := od; obtain ⟨ad164, e164, hx164_0⟩ := Kd.at_int (Kd.R_reads' HO161.out).2.2 t162 p164 q164; cases e164; replace p164 := eq_true p164; replace q164 := eq_true q164; have p38 : 0 ≤ (0 : Int) := (by omega); have q38 : (0 : Int) < ((x5_1.length : Int) : Int) := od; have qi38 : (0 < x5_1.length) = True := eq_true (by omega); obtain ⟨go38, co38, eo38, gb38, gl38, cl38, HG38⟩ := Kd.R_form HO_5.out (by omega); (first | cases eo38 | (injection eo38 with ea_ en_ ec_; (first | subst ea_ | (injection ea_ with ea_; subst ea_)); subst ec_; clear en_)); have GB38 := am gb38; have GG38 := am HG38; clear gb38 gl38 HG38; obtain ⟨ce38, hcl38, hM38, hcc38, hfr38⟩ := Kd.R_elem HO_5.out z44 (0 : Int) p38 q38; obtain rfl := k44_openM hM38; have hx38_0 : w43.cell? ⟨go38, (0 : Int).toNat * 3, none⟩ = some (.int .i64 ((rd_T44 x5_1 0).f0.f0)) := hcc38 0 _ rfl; have hx38_1 : w43.cell? ⟨go38, (0 : Int).toNat * 3 + 1, none⟩ = some (.bool ((rd_T44 x5_1 0).f0.f1)) := hcc38 1 _ rfl; have hx38_2 : w43.cell? ⟨go38, (0 : Int).toNat * 3 + 2, none⟩ = some (.int .i64 ((rd_T44 x5_1 0).f1)) := hcc38 2 _ rfl; have hf38_0 : w43.frozen? ⟨go38, (0 : Int).toNat * 3, none⟩ = false := hfr38 0; have hf38_1 : w43.frozen? ⟨go38, (0 : Int).toNat * 3 + 1, none⟩ = false := hfr38 1; have hf38_2 : w43.frozen? ⟨go38, (0 : Int).toNat * 3 + 2, none⟩ = false := hfr38 2; clear hcl38 hcc38 hfr38 hM38; (try rw [show ((0 : Int)).toNat = 0 from rfl] at hx38_0); (try simp only [Nat.reduceMul, Nat.zero_mul, Nat.zero_add, Nat.reduceAdd] at hx38_0); (try rw [show ((0 : Int)).toNat = 0 from rfl] at hf38_0); (try simp only [Nat.reduceMul, Nat.zero_mul, Nat.zero_add, Nat.reduceAdd] at hf38_0); (try rw [show ((0 : Int)).toNat = 0 from rfl] at hx38_1); (try simp only [Nat.reduceMul, Nat.zero_mul, Nat.zero_add, Nat.reduceAdd] at hx38_1); (try rw [show ((0 : Int)).toNat = 0 from rfl] at hf38_1); (try simp only [Nat.reduceMul, Nat.zero_mul, Nat.zero_add, Nat.reduceAdd] at hf38_1); (try rw [show ((0 : Int)).toNat = 0 from rfl] at hx38_2); (try simp only [Nat.reduceMul, Nat.zero_mul, Nat.zero_add, Nat.reduceAdd] at hx38_2); (try rw [show ((0 : Int)).toNat = 0 from rfl] at hf38_2); (try simp only [Nat.reduceMul, Nat.zero_mul, Nat.zero_add, Nat.reduceAdd] at hf38_2); replace p38 := eq_true p38; replace q38 := eq_true q38; have HX45 := am (show Kd.R k44 44 w43 w.heap.size (fun _ => True) (.slice (some ⟨go38, 0, none⟩) x5_1.length co39) x5_1 from (ru HO_5.out)); obtain ⟨ce45, hcl45, hM45, hcc45, hfr45⟩ := Kd.R_elem HX45.out z44 (0 : Int) (by omega) (by have h_ : (0 : Int) < ((x5_1.length : Int) : Int) := od; first | exact h_ | (have e_ := (Kd.R_reads' HO_5.out).1; omega) | simpa using h_); obtain rfl := k44_openM hM45; have HP45 := Kd.R_seg HX45.out (0 : Int) (by omega) (by have h_ : (0 : Int) < ((x5_1.length : Int) : Int) := od; first | exact h_ | (have e_ := (Kd.R_reads' HO_5.out).1; omega) | simpa using h_) (seg := [.int .i64 (rd y159 t162)]) (j := 2) hcl45 hcc45 (show 3 ≤ 3 from by decide) (x' := (⟨(⟨(rd_T44 x5_1 0).f0.f0, (rd_T44 x5_1 0).f0.f1⟩ : S30), rd y159 t162⟩ : S44)) (k44_mkM _ _ _ (⟨(⟨(rd_T44 x5_1 0).f0.f0, (rd_T44 x5_1 0).f0.f1⟩ : S30), rd y159 t162⟩ : S44) ) (fun _ hk => hk); have hx45_2 := hcc45 2 _ rfl; (try simp only [show (k44).sz = 3 from rfl, Nat.mul_one, Nat.add_zero] at hx45_2); (try rw [show ((0 : Int)).toNat = 0 from rfl] at hx45_2); (try simp only [Nat.reduceMul, Nat.zero_mul, Nat.zero_add, Nat.reduceAdd] at hx45_2); have hf45_2 := hfr45 2; (try simp only [show (k44).sz = 3 from rfl, Nat.mul_one, Nat.add_zero] at hf45_2); (try rw [show ((0 : Int)).toNat = 0 from rfl] at hf45_2); (try simp only [Nat.reduceMul, Nat.zero_mul, Nat.zero_add, Nat.reduceAdd] at hf45_2); clear hcl45 hcc45 hfr45 hM45) | ((with_reducible refine gate_store (t := 3) (p := 63) rfl ?_); refine store_event (t := 3) (p := 63) (v := ?vo_w46) (w1 := (w43.setCell ⟨go38, 2, none⟩ (.int .i64 (rd y159 t162)))) ?hg ?ho ?hn ?hr ?_; (case ho => rfl); (case hg => rfl); (case hn => rfl); (case hr => first | (go_simp; done) | (go_simp; rfl)); intro w46 hw; have hg : w43.grownBy w46 (some go38) := (by rw [hw]; exact HP45.2); have hp_ : Kd.R k44 44 w46 w.heap.size (fun _ => True) (.slice (some ⟨go38, 0, none⟩) x5_1.length co39) y165 := (by rw [hw, Ny165.out]; exact HP45.1); clear HP45; have n0_ := am (hp_); have n1_ := am (IsS158.grown (by repeat (first | (with_reducible first | exact HI0.out | apply IsS158.alloc | apply IsS158.drewN | apply IsS158.drew | apply IsS158.set_1) | exact HI0.out)) hg (IsS158.own_ne HI0.out HO_5.out (by decide))); have n2_ := am (Kd.R_over' (v := (.slice (some ⟨go38, 0, none⟩) x5_1.length co39)) (ru HO161.out) (Kd.R_typed HO_5.out) (by decide) hg); have n3_ := am ((by rw [hw]; exact below_set (HB.out) (Nat.le_trans HL.out GB38.out) : Below w0.heap.size w0 w46)); have n4_ := am (KeepBut.trans (by repeat (first | (with_reducible first | exact HK.out | apply KeepBut.set_ | apply keep_drewN | apply keep_drew | apply keep_alloc) | exact HK.out)) (KeepBut.of_grown hg g) (Kd.R_base2 HO_5.out)); clear HO_5; clear HI0; clear HO161; clear HB; clear HK; have HO_5 := n0_; have HI0 := n1_; have HO161 := n2_; have HB := n3_; have HK := n4_; clear n0_ n1_ n2_ n3_ n4_; clear hg hw hp_))
           go_ret
           exact ⟨_, by first | rfl | (simp [errW_none, errW_some] <;> rfl) | (simp [*, errW_none, errW_some] <;> rfl), ru HO_5.out, by repeat (first | (with_reducible first | exact HI0.out | apply IsS158.alloc | apply IsS158.drewN | apply IsS158.drew | apply IsS158.set_1) | exact HI0.out), by repeat (first | (with_reducible first | exact HB.out | apply below_alloc | apply pw_below_drewN | apply below_drew1 | refine below_set ?_ (IsS158.ge HI0.out)) | exact HB.out), by repeat (first | (with_reducible first | exact HK.out | apply KeepBut.set_ | apply keep_drewN | apply keep_drew | apply keep_alloc) | exact HK.out)⟩
          ·rw [if_neg c37] at H
           exact absurd H (by simp)
         ·rw [if_neg c36] at H
          exact absurd H (by simp)
        ·rw [if_neg c35] at H
         exact absurd H (by simp)
       ·rw [if_neg c33] at H
        have c33b0 : (t157 == 0) = false := beq_eq_false_iff_ne.mpr c33
        have c33b1 : (t157 != 0) = true := bne_iff_ne.mpr c33
        by_cases c47 : t157 = 1
        ·rw [if_pos c47] at H
         have c47b0 : (t157 == 1) = true := beq_iff_eq.mpr c47
         have c47b1 : (t157 != 1) = false := bne_eq_false_iff_eq.mpr c47
         clear c47
         by_cases c48 : 0 < (x5_1.length : Int)
         ·rw [if_pos c48] at H
          have c48b0 : decide (0 < (x5_1.length : Int)) = true := decide_eq_true c48
          have c48b1 : decide (0 < x5_1.length) = true := decide_eq_true (by omega)
          clear c48
          obtain ⟨y166, hy166⟩ : ∃ y_ : List (S44), y_ = (x5_1.set (0 : Int).toNat (⟨(⟨21, (rd_T44 x5_1 0).f0.f1⟩ : S30), (rd_T44 x5_1 0).f1⟩ : S44)) := ⟨_, rfl⟩
          replace H : (some (y166, t158)) = some (r1, r2) := by first | (rw [hy166]; with_reducible exact H) | (have H2_ := (Option.bind_some _ _).symm.trans H; rw [hy166]; with_reducible exact H2_) | (have H2_ := (Option.bind_some _ _).symm.trans H; with_reducible exact H2_) | with_reducible exact H | (rw [hy166]; exact H) | exact H
          have Ny166 := am hy166
          clear hy166
          simp only [Option.some.injEq, Prod.mk.injEq] at H
          obtain ⟨rfl, rfl⟩ := H
          obtain ⟨Ao50, co50, eo50⟩ := Kd.R_slice HO_5.out
          subst eo50
          go_wp2_with (first | ((with_reducible refine gate_callee (f := 83) rfl ?_); refine goesL_ (some 53) rfl rfl Tryd.func83 (by kernel_rfl) rfl #[.pointer (some ⟨g, 0, none⟩), .int .i64 50] rfl (by (try simp only [List.map_toArray, List.map_cons, List.map_nil]); first | done | rfl | (simp only [List.length_drop, List.length_take]; rfl)) ?_; (with_reducible refine (spec_l6Rd_pick.calls kj6 g s0_0 x1001_1 50 t157 t158 w0 _ ?side1 ?side2 A32.out).mono ?_); (case side1 => repeat (first | (with_reducible first | exact HI0.out | apply IsS158.alloc | apply IsS158.drewN | apply IsS158.drew | apply IsS158.set_1) | exact HI0.out)); (case side2 => repeat (first | (with_reducible first | exact HB.out | apply below_alloc | apply pw_below_drewN | apply below_drew1 | refine below_set ?_ (IsS158.ge HI0.out)) | exact HB.out)); rintro e w51 ⟨rfl, hi, hb, hk⟩; refine ⟨_, rfl, ?_⟩; have n0_ := am (Kd.R_mono (Kd.R_keep (IsS158.apart (show IsS158 w0 _ g s0_0 x1001_1 from by repeat (first | (with_reducible first | exact HI0.out | apply IsS158.alloc | apply IsS158.drewN | apply IsS158.drew | apply IsS158.set_1) | exact HI0.out)) (ru HO_5.out) (by decide)) hk (fun _ h => h.2)) (fun _ h => h.1)); have n1_ := am (KeepBut.trans (by repeat (first | (with_reducible first | exact HK.out | apply KeepBut.set_ | apply keep_drewN | apply keep_drew | apply keep_alloc) | exact HK.out)) hk (.inl rfl)); have n2_ := am (hb); have n3_ := am (hi); clear HO_5; clear HK; clear HB; clear HI0; have HO_5 := n0_; have HK := n1_; have HB := n2_; have HI0 := n3_; clear n0_ n1_ n2_ n3_; (try clear hb); (try clear hb2); (try clear hk); (try clear hi); have p49 : 0 ≤ (0 : Int) := (by omega); have q49 : (0 : Int) < ((x5_1.length : Int) : Int) := od; have qi49 : (0 < x5_1.length) = True := eq_true (by omega); obtain ⟨go49, co49, eo49, gb49, gl49, cl49, HG49⟩ := Kd.R_form HO_5.out (by omega); (first | cases eo49 | (injection eo49 with ea_ en_ ec_; (first | subst ea_ | (injection ea_ with ea_; subst ea_)); subst ec_; clear en_)); have GB49 := am gb49; have GG49 := am HG49; clear gb49 gl49 HG49; obtain ⟨ce49, hcl49, hM49, hcc49, hfr49⟩ := Kd.R_elem HO_5.out z44 (0 : Int) p49 q49; obtain rfl := k44_openM hM49; have hx49_0 : w51.cell? ⟨go49, (0 : Int).toNat * 3, none⟩ = some (.int .i64 ((rd_T44 x5_1 0).f0.f0)) := hcc49 0 _ rfl; have hx49_1 : w51.cell? ⟨go49, (0 : Int).toNat * 3 + 1, none⟩ = some (.bool ((rd_T44 x5_1 0).f0.f1)) := hcc49 1 _ rfl; have hx49_2 : w51.cell? ⟨go49, (0 : Int).toNat * 3 + 2, none⟩ = some (.int .i64 ((rd_T44 x5_1 0).f1)) := hcc49 2 _ rfl; have hf49_0 : w51.frozen? ⟨go49, (0 : Int).toNat * 3, none⟩ = false := hfr49 0; have hf49_1 : w51.frozen? ⟨go49, (0 : Int).toNat * 3 + 1, none⟩ = false := hfr49 1; have hf49_2 : w51.frozen? ⟨go49, (0 : Int).toNat * 3 + 2, none⟩ = false := hfr49 2; clear hcl49 hcc49 hfr49 hM49; (try rw [show ((0 : Int)).toNat = 0 from rfl] at hx49_0); (try simp only [Nat.reduceMul, Nat.zero_mul, Nat.zero_add, Nat.reduceAdd] at hx49_0); (try rw [show ((0 : Int)).toNat = 0 from rfl] at hf49_0); (try simp only [Nat.reduceMul, Nat.zero_mul, Nat.zero_add, Nat.reduceAdd] at hf49_0); (try rw [show ((0 : Int)).toNat = 0 from rfl] at hx49_1); (try simp only [Nat.reduceMul, Nat.zero_mul, Nat.zero_add, Nat.reduceAdd] at hx49_1); (try rw [show ((0 : Int)).toNat = 0 from rfl] at hf49_1); (try simp only [Nat.reduceMul, Nat.zero_mul, Nat.zero_add, Nat.reduceAdd] at hf49_1); (try rw [show ((0 : Int)).toNat = 0 from rfl] at hx49_2); (try simp only [Nat.reduceMul, Nat.zero_mul, Nat.zero_add, Nat.reduceAdd] at hx49_2); (try rw [show ((0 : Int)).toNat = 0 from rfl] at hf49_2); (try simp only [Nat.reduceMul, Nat.zero_mul, Nat.zero_add, Nat.reduceAdd] at hf49_2); replace p49 := eq_true p49; replace q49 := eq_true q49; have HX52 := am (show Kd.R k44 44 w51 w.heap.size (fun _ => True) (.slice (some ⟨go49, 0, none⟩) x5_1.length co50) x5_1 from (ru HO_5.out)); obtain ⟨ce52, hcl52, hM52, hcc52, hfr52⟩ := Kd.R_elem HX52.out z44 (0 : Int) (by omega) (by have h_ : (0 : Int) < ((x5_1.length : Int) : Int) := od; first | exact h_ | (have e_ := (Kd.R_reads' HO_5.out).1; omega) | simpa using h_); obtain rfl := k44_openM hM52; have HP52 := Kd.R_seg HX52.out (0 : Int) (by omega) (by have h_ : (0 : Int) < ((x5_1.length : Int) : Int) := od; first | exact h_ | (have e_ := (Kd.R_reads' HO_5.out).1; omega) | simpa using h_) (seg := [.int .i64 21]) (j := 0) hcl52 hcc52 (show 1 ≤ 3 from by decide) (x' := (⟨(⟨21, (rd_T44 x5_1 0).f0.f1⟩ : S30), (rd_T44 x5_1 0).f1⟩ : S44)) (k44_mkM _ _ _ (⟨(⟨21, (rd_T44 x5_1 0).f0.f1⟩ : S30), (rd_T44 x5_1 0).f1⟩ : S44) ) (fun _ hk => hk); have hx52_0 := hcc52 0 _ rfl; (try simp only [show (k44).sz = 3 from rfl, Nat.mul_one, Nat.add_zero] at hx52_0); (try rw [show ((0 : Int)).toNat = 0 from rfl] at hx52_0); (try simp only [Nat.reduceMul, Nat.zero_mul, Nat.zero_add, Nat.reduceAdd] at hx52_0); have hf52_0 := hfr52 0; (try simp only [show (k44).sz = 3 from rfl, Nat.mul_one, Nat.add_zero] at hf52_0); (try rw [show ((0 : Int)).toNat = 0 from rfl] at hf52_0); (try simp only [Nat.reduceMul, Nat.zero_mul, Nat.zero_add, Nat.reduceAdd] at hf52_0); clear hcl52 hcc52 hfr52 hM52) | ((with_reducible refine gate_store (t := 3) (p := 69) rfl ?_); refine store_event (t := 3) (p := 69) (v := ?vo_w53) (w1 := (w51.setCell ⟨go49, 0, none⟩ (.int .i64 21))) ?hg ?ho ?hn ?hr ?_; (case ho => rfl); (case hg => rfl); (case hn => rfl); (case hr => first | (go_simp; done) | (go_simp; rfl)); intro w53 hw; have hg : w51.grownBy w53 (some go49) := (by rw [hw]; exact HP52.2); have hp_ : Kd.R k44 44 w53 w.heap.size (fun _ => True) (.slice (some ⟨go49, 0, none⟩) x5_1.length co50) y166 := (by rw [hw, Ny166.out]; exact HP52.1); clear HP52; have n0_ := am (hp_); have n1_ := am (IsS158.grown (by repeat (first | (with_reducible first | exact HI0.out | apply IsS158.alloc | apply IsS158.drewN | apply IsS158.drew | apply IsS158.set_1) | exact HI0.out)) hg (IsS158.own_ne HI0.out HO_5.out (by decide))); have n2_ := am ((by rw [hw]; exact below_set (HB.out) (Nat.le_trans HL.out GB49.out) : Below w0.heap.size w0 w53)); have n3_ := am (KeepBut.trans (by repeat (first | (with_reducible first | exact HK.out | apply KeepBut.set_ | apply keep_drewN | apply keep_drew | apply keep_alloc) | exact HK.out)) (KeepBut.of_grown hg g) (Kd.R_base2 HO_5.out)); clear HO_5; clear HI0; clear HB; clear HK; have HO_5 := n0_; have HI0 := n1_; have HB := n2_; have HK := n3_; clear n0_ n1_ n2_ n3_; clear hg hw hp_))
          go_ret
          exact ⟨_, by first | rfl | (simp [errW_none, errW_some] <;> rfl) | (simp [*, errW_none, errW_some] <;> rfl), ru HO_5.out, by repeat (first | (with_reducible first | exact HI0.out | apply IsS158.alloc | apply IsS158.drewN | apply IsS158.drew | apply IsS158.set_1) | exact HI0.out), by repeat (first | (with_reducible first | exact HB.out | apply below_alloc | apply pw_below_drewN | apply below_drew1 | refine below_set ?_ (IsS158.ge HI0.out)) | exact HB.out), by repeat (first | (with_reducible first | exact HK.out | apply KeepBut.set_ | apply keep_drewN | apply keep_drew | apply keep_alloc) | exact HK.out)⟩
         ·rw [if_neg c48] at H
          exact absurd H (by simp)
        ·rw [if_neg c47] at H
         have c47b0 : (t157 == 1) = false := beq_eq_false_iff_ne.mpr c47
         have c47b1 : (t157 != 1) = true := bne_iff_ne.mpr c47
         simp only [Option.some.injEq, Prod.mk.injEq] at H
         obtain ⟨rfl, rfl⟩ := H
         obtain ⟨Ao54, co54, eo54⟩ := Kd.R_slice HO_5.out
         subst eo54
         go_wp2_with (first | ((with_reducible refine gate_callee (f := 83) rfl ?_); refine goesL_ (some 53) rfl rfl Tryd.func83 (by kernel_rfl) rfl #[.pointer (some ⟨g, 0, none⟩), .int .i64 50] rfl (by (try simp only [List.map_toArray, List.map_cons, List.map_nil]); first | done | rfl | (simp only [List.length_drop, List.length_take]; rfl)) ?_; (with_reducible refine (spec_l6Rd_pick.calls kj6 g s0_0 x1001_1 50 t157 t158 w0 _ ?side1 ?side2 A32.out).mono ?_); (case side1 => repeat (first | (with_reducible first | exact HI0.out | apply IsS158.alloc | apply IsS158.drewN | apply IsS158.drew | apply IsS158.set_1) | exact HI0.out)); (case side2 => repeat (first | (with_reducible first | exact HB.out | apply below_alloc | apply pw_below_drewN | apply below_drew1 | refine below_set ?_ (IsS158.ge HI0.out)) | exact HB.out)); rintro e w55 ⟨rfl, hi, hb, hk⟩; refine ⟨_, rfl, ?_⟩; have n0_ := am (Kd.R_mono (Kd.R_keep (IsS158.apart (show IsS158 w0 _ g s0_0 x1001_1 from by repeat (first | (with_reducible first | exact HI0.out | apply IsS158.alloc | apply IsS158.drewN | apply IsS158.drew | apply IsS158.set_1) | exact HI0.out)) (ru HO_5.out) (by decide)) hk (fun _ h => h.2)) (fun _ h => h.1)); have n1_ := am (KeepBut.trans (by repeat (first | (with_reducible first | exact HK.out | apply KeepBut.set_ | apply keep_drewN | apply keep_drew | apply keep_alloc) | exact HK.out)) hk (.inl rfl)); have n2_ := am (hb); have n3_ := am (hi); clear HO_5; clear HK; clear HB; clear HI0; have HO_5 := n0_; have HK := n1_; have HB := n2_; have HI0 := n3_; clear n0_ n1_ n2_ n3_; (try clear hb); (try clear hb2); (try clear hk); (try clear hi)))
         go_ret
         exact ⟨_, by first | rfl | (simp [errW_none, errW_some] <;> rfl) | (simp [*, errW_none, errW_some] <;> rfl), ru HO_5.out, by repeat (first | (with_reducible first | exact HI0.out | apply IsS158.alloc | apply IsS158.drewN | apply IsS158.drew | apply IsS158.set_1) | exact HI0.out), by repeat (first | (with_reducible first | exact HB.out | apply below_alloc | apply pw_below_drewN | apply below_drew1 | refine below_set ?_ (IsS158.ge HI0.out)) | exact HB.out), by repeat (first | (with_reducible first | exact HK.out | apply KeepBut.set_ | apply keep_drewN | apply keep_drew | apply keep_alloc) | exact HK.out)⟩
      ·rw [if_neg c31] at H
       have c31b0 : decide (0 < (x5_1.length : Int)) = false := decide_eq_false c31
       have c31b1 : decide (0 < x5_1.length) = false := decide_eq_false (by omega)
       clear c31
       simp only [Option.some.injEq, Prod.mk.injEq] at H
       obtain ⟨rfl, rfl⟩ := H
       obtain ⟨Ao56, co56, eo56⟩ := Kd.R_slice HO_5.out
       subst eo56
       go_wp2
       go_ret
       exact ⟨_, by first | rfl | (simp [errW_none, errW_some] <;> rfl) | (simp [*, errW_none, errW_some] <;> rfl), ru HO_5.out, by repeat (first | (with_reducible first | exact HI0.out | apply IsS158.alloc | apply IsS158.drewN | apply IsS158.drew | apply IsS158.set_1) | exact HI0.out), by repeat (first | (with_reducible first | exact HB.out | apply below_alloc | apply pw_below_drewN | apply below_drew1 | refine below_set ?_ (IsS158.ge HI0.out)) | exact HB.out), by repeat (first | (with_reducible first | exact HK.out | apply KeepBut.set_ | apply keep_drewN | apply keep_drew | apply keep_alloc) | exact HK.out)⟩

/-! ### spec_DrawDiscantMove: function 25 -/
def spec_DrawDiscantMove.f (k : Nat) (l0 : List Int) : Option ((List (S44)) × Int) := (spec_l6Open.f l0).bind fun bt167 => ((spec_l6Rd_pick.f k bt167.1 bt167.2 10).bind fun bt170 => ((spec_l92Part.f k bt167.1 bt170.2 bt170.1).bind fun bt172 => ((some (([(-7), (-4), (-3), 0, 3, 4, 7] : List Int) : List Int)).bind fun y176 => ((spec_l6Rd_pick.f k bt167.1 bt172.2 7).bind fun bt179 => (if 0 ≤ bt179.1 then (if bt179.1 < (y176.length : Int) then (some (bt172.1, rd y176 bt179.1)) else (none)) else (none))))))
def spec_DrawDiscantMove.T3 : Bool × List (List Nat × List Nat) := (true, [([], []), ([], []), ([], []), ([2], [2]), ([1, 3], [1, 3]), ([4], [4]), ([0, 3, 0], [0]), ([5, 6, 0, 1, 2, 3, 4, 5, 6], [5])])
def spec_DrawDiscantMove.B3 : List Nat := [0, 0, 0, 4, 14, 30, 13, 127]
theorem spec_DrawDiscantMove.tab3 : rtab .any (opsOf Tryd.f25 3) = spec_DrawDiscantMove.T3 := by kernel_rfl
theorem spec_DrawDiscantMove.bits3 : waitsOk spec_DrawDiscantMove.T3.2 spec_DrawDiscantMove.B3 = true := by kernel_rfl
set_option maxHeartbeats 8000000 in
set_option maxRecDepth 100000 in
theorem spec_DrawDiscantMove.calls (k : Nat) (A0 : Option Addr) (c0 : Nat) (l0 : List Int) (r1 : List (S44)) (r2 : Int) (w : World) (hr0 : Kd.C (Kd.int .u8) w A0 l0.length l0) (hc0 : l0.length ≤ c0) (h : spec_DrawDiscantMove.f k l0 = some (r1, r2)) :
  Calls Tryd.prog 25 #[.slice A0 l0.length c0] w fun e w' => ∃ v0_ : Value, e = .returned (.tuple #[v0_, .int .i64 r2]) ∧ Kd.R k44 44 w' w.heap.size (fun _ => True) v0_ r1 ∧ Below w.heap.size w w' := by
 have HR0 := am hr0
 have HC0 := am hc0
 clear hr0 hc0
 have HB := am (Below.refl w.heap.size w)
 have H : ((spec_l6Open.f l0).bind fun bt167 => ((spec_l6Rd_pick.f k bt167.1 bt167.2 10).bind fun bt170 => ((spec_l92Part.f k bt167.1 bt170.2 bt170.1).bind fun bt172 => ((some (([(-7), (-4), (-3), 0, 3, 4, 7] : List Int) : List Int)).bind fun y176 => ((spec_l6Rd_pick.f k bt167.1 bt172.2 7).bind fun bt179 => (if 0 ≤ bt179.1 then (if bt179.1 < (y176.length : Int) then (some (bt172.1, rd y176 bt179.1)) else (none)) else (none))))))) = some (r1, r2) := h
 clear h
 replace H := Option.bind_eq_some_iff.mp H
 obtain ⟨⟨t167, t168⟩, A20, H⟩ := H
 replace H : ((spec_l6Rd_pick.f k t167 t168 10).bind fun bt170 => ((spec_l92Part.f k t167 bt170.2 bt170.1).bind fun bt172 => ((some (([(-7), (-4), (-3), 0, 3, 4, 7] : List Int) : List Int)).bind fun y176 => ((spec_l6Rd_pick.f k t167 bt172.2 7).bind fun bt179 => (if 0 ≤ bt179.1 then (if bt179.1 < (y176.length : Int) then (some (bt172.1, rd y176 bt179.1)) else (none)) else (none)))))) = some (r1, r2) := H
 have A2 := am A20
 clear A20
 replace H := Option.bind_eq_some_iff.mp H
 obtain ⟨⟨t170, t171⟩, A30, H⟩ := H
 replace H : ((spec_l92Part.f k t167 t171 t170).bind fun bt172 => ((some (([(-7), (-4), (-3), 0, 3, 4, 7] : List Int) : List Int)).bind fun y176 => ((spec_l6Rd_pick.f k t167 bt172.2 7).bind fun bt179 => (if 0 ≤ bt179.1 then (if bt179.1 < (y176.length : Int) then (some (bt172.1, rd y176 bt179.1)) else (none)) else (none))))) = some (r1, r2) := H
 have A3 := am A30
 clear A30
 replace H := Option.bind_eq_some_iff.mp H
 obtain ⟨⟨t172, t175⟩, A40, H⟩ := H
 replace H : ((some (([(-7), (-4), (-3), 0, 3, 4, 7] : List Int) : List Int)).bind fun y176 => ((spec_l6Rd_pick.f k t167 t175 7).bind fun bt179 => (if 0 ≤ bt179.1 then (if bt179.1 < (y176.length : Int) then (some (t172, rd y176 bt179.1)) else (none)) else (none)))) = some (r1, r2) := H
 have A4 := am A40
 clear A40
 obtain ⟨y176, hy176⟩ : ∃ y_ : List Int, y_ = (([(-7), (-4), (-3), 0, 3, 4, 7] : List Int)) := ⟨_, rfl⟩
 replace H : ((spec_l6Rd_pick.f k t167 t175 7).bind fun bt179 => (if 0 ≤ bt179.1 then (if bt179.1 < (y176.length : Int) then (some (t172, rd y176 bt179.1)) else (none)) else (none))) = some (r1, r2) := by first | (rw [hy176]; with_reducible exact H) | (have H2_ := (Option.bind_some _ _).symm.trans H; rw [hy176]; with_reducible exact H2_) | (have H2_ := (Option.bind_some _ _).symm.trans H; with_reducible exact H2_) | with_reducible exact H | (rw [hy176]; exact H) | exact H
 have Ny176 := am hy176
 clear hy176
 replace H := Option.bind_eq_some_iff.mp H
 obtain ⟨⟨t179, t180⟩, A50, H⟩ := H
 replace H : (if 0 ≤ t179 then (if t179 < (y176.length : Int) then (some (t172, rd y176 t179)) else (none)) else (none)) = some (r1, r2) := H
 have A5 := am A50
 clear A50
 by_cases c6 : 0 ≤ t179
 ·rw [if_pos c6] at H
  have c6b0 : decide (0 ≤ t179) = true := decide_eq_true c6
  clear c6
  by_cases c7 : t179 < (y176.length : Int)
  ·rw [if_pos c7] at H
   have c7b0 : decide (t179 < (y176.length : Int)) = true := decide_eq_true c7
   clear c7
   simp only [Option.some.injEq, Prod.mk.injEq] at H
   obtain ⟨rfl, rfl⟩ := H
   go_enter Tryd.func25, Tryd.ntmps25
   try go_wp2_with (first | ((with_reducible refine gate_callee (f := 67) rfl ?_); refine goesL_ (some 7) rfl rfl Tryd.func67 (by kernel_rfl) rfl #[.slice A0 l0.length c0] rfl (by (try simp only [List.map_toArray, List.map_cons, List.map_nil]); first | done | rfl | (simp only [List.length_drop, List.length_take]; rfl)) ?_; (with_reducible refine (spec_l6Open.calls _ _ l0 t167 t168 w _ ?side1 ?side2 ?side3 A2.out).mono ?_); (case side1 => repeat (first | (with_reducible first | exact HB.out | apply below_alloc | apply pw_below_drewN | apply below_drew1) | exact HB.out)); (case side2 => exact HR0.out); (case side3 => exact HC0.out); rintro e w8 ⟨g169, rfl, hi, hb, hb2⟩; refine ⟨_, rfl, ?_⟩; have n0_ := am (hb); have n1_ := am (hi); clear HB; have HB := n0_; have HI169 := n1_; clear n0_ n1_; (try clear hb); (try clear hb2); (try clear hk); (try clear hi)) | ((with_reducible refine gate_callee (f := 83) rfl ?_); refine goesL_ (some 10) rfl rfl Tryd.func83 (by kernel_rfl) rfl #[.pointer (some ⟨g169, 0, none⟩), .int .i64 10] rfl (by (try simp only [List.map_toArray, List.map_cons, List.map_nil]); first | done | rfl | (simp only [List.length_drop, List.length_take]; rfl)) ?_; (with_reducible refine (spec_l6Rd_pick.calls k g169 t167 t168 10 t170 t171 w _ ?side1 ?side2 A3.out).mono ?_); (case side1 => repeat (first | (with_reducible first | exact HI169.out | apply IsS158.alloc | apply IsS158.drewN | apply IsS158.drew | apply IsS158.set_1) | exact HI169.out)); (case side2 => repeat (first | (with_reducible first | exact HB.out | apply below_alloc | apply pw_below_drewN | apply below_drew1 | refine below_set ?_ (IsS158.ge HI169.out)) | exact HB.out)); rintro e w9 ⟨rfl, hi, hb, hk⟩; refine ⟨_, rfl, ?_⟩; have n0_ := am (hb); have n1_ := am (hi); clear HB; clear HI169; have HB := n0_; have HI169 := n1_; clear n0_ n1_; (try clear hb); (try clear hb2); (try clear hk); (try clear hi)) | ((with_reducible refine gate_callee (f := 82) rfl ?_); refine goesL_ (some 11) rfl rfl Tryd.func82 (by kernel_rfl) rfl #[.pointer (some ⟨g169, 0, none⟩), .int .i64 t170] rfl (by (try simp only [List.map_toArray, List.map_cons, List.map_nil]); first | done | rfl | (simp only [List.length_drop, List.length_take]; rfl)) ?_; (with_reducible refine (spec_l92Part.calls k g169 t167 t171 t170 t172 t175 w _ ?side1 ?side2 A4.out).mono ?_); (case side1 => repeat (first | (with_reducible first | exact HI169.out | apply IsS158.alloc | apply IsS158.drewN | apply IsS158.drew | apply IsS158.set_1) | exact HI169.out)); (case side2 => repeat (first | (with_reducible first | exact HB.out | apply below_alloc | apply pw_below_drewN | apply below_drew1 | refine below_set ?_ (IsS158.ge HI169.out)) | exact HB.out)); rintro e w10 ⟨v173, rfl, ho0, hi, hb, hk⟩; refine ⟨_, rfl, ?_⟩; have n0_ := am (Kd.R_lower ho0 (below_size (by repeat (first | (with_reducible first | exact HB.out | apply below_alloc | apply pw_below_drewN | apply below_drew1 | refine below_set ?_ (IsS158.ge HI169.out)) | exact HB.out)))); have n1_ := am (hb); have n2_ := am (hi); clear HB; clear HI169; have HO174 := n0_; have HB := n1_; have HI169 := n2_; clear n0_ n1_ n2_; (try clear hb); (try clear hb2); (try clear hk); (try clear hi); (try clear ho0)))
   have pi181 : (0 ≤ (t179 : Int)) = True := eq_true (od)
   have qi181 : (t179 < (y176.length : Int)) = True := eq_true (od)
   have n0_ := am (Kd.R_drew HO174.out)
   have n1_ := am (IsS158.drew HI169.out)
   have n2_ := am (below_drew1 HB.out)
   clear HO174
   clear HI169
   clear HB
   have HO174 := n0_
   have HI169 := n1_
   have HB := n2_
   clear n0_ n1_ n2_
   refine start_ (n := 8) (S := fun w' => True) (ds := []) #[F,F,F,F,F,F,F,F] (by kernel_rfl) rfl rfl trivial (fun hHeld => ?_); refine with_tabW spec_DrawDiscantMove.tab3 spec_DrawDiscantMove.bits3 (fun HT_ HW_ => ?_)
   generalize w10.drew = w11 at HO174 HI169 HB hHeld ⊢
   refine pz 0 (some 12) #[T,F,F,F,F,F,F,F] (any_of HT_.out (by kernel_rfl)) (h := ?_)
   refine pz 2 (some 14) #[T,F,T,F,F,F,F,F] (any_of HT_.out (by kernel_rfl)) (h := ?_)
   refine inv_at [1, 3, 4, 5, 6, 7] (fun a0_ b a w' => ∃ (v177 : Value) (adz_v177 : Addr) (m4_ : Value), a = putSel a0_ b [(1, 13, v177), (3, 15, .int .i64 t179), (4, 16, m4_), (5, 17, .int .i64 (rd y176 t179)), (6, 2, v173), (7, 3, .int .i64 (rd y176 t179))] ∧ (Kd.R k44 44 w' w.heap.size (fun _ => True) v173 t172) ∧ (b 3 = false → IsS158 w w' g169 t167 t175) ∧ (Below w.heap.size w w') ∧ (b 1 = true → Kd.R (Kd.int .i64) 3 w' w.heap.size (fun _ => True) v177 y176) ∧ (b 1 = true → ∃ c_, (v177 : Value) = .slice (some adz_v177) y176.length c_) ∧ (b 3 = true → IsS158 w w' g169 t167 t180) ∧ (b 4 = true → (m4_ : Value) = .pointer (some (adz_v177.add (t179).toNat)))) HT_.out HW_.out (by kernel_rfl) (by kernel_rfl) ?_ ?_ ?_
   ·exact ⟨.bool false, ⟨0, 0, none⟩, .bool false, by simp only [putSel, Bool.false_eq_true, if_false], HO174.out, fun _ => HI169.out, HB.out, fun h_ => absurd h_ (by decide), fun h_ => absurd h_ (by decide), fun h_ => absurd h_ (by decide), fun h_ => absurd h_ (by decide)⟩
   ·skip
    clear HB HI169 HO174
    refine steps_cons ?_ ?_
    ·rintro b a w' ⟨v177, adz_v177, m4_, ha, Q_HO174, Q_HI169, Q_HB, Q_HO178, Q_HA_HO178, Q_HI169_e3, Q_X4_⟩ hb_ hon hoff
     refine ⟨_, rfl, fun K hK => ?_⟩
     replace ha := am ha
     have HO174 := am Q_HO174
     have HB := am Q_HB
     refine Kd.R_lit_step (Kd.int .i64) _ 3 ?hg (N := 13) ?hd (xs := ([(-7), (-4), (-3), 0, 3, 4, 7] : List Int)) (inner := [.int .i64 (-7), .int .i64 (-4), .int .i64 (-3), .int .i64 0, .int .i64 3, .int .i64 4, .int .i64 7]) (ok := fun _ => True) (okp := fun _ => True) ?hr ?hp (fun _ hk => hk) trivial (Below.refl _ _) (Nat.le_refl _) (by simp) ?_; (case hd => rfl); (case hg => rfl); (case hr => first | (go_simp; done) | (go_simp; rfl)); (case hp => exact (Reps.one (show Kd.M (Kd.int .i64) _ _ _ (-7) [.int .i64 (-7)] from rfl) (Reps.one (show Kd.M (Kd.int .i64) _ _ _ (-4) [.int .i64 (-4)] from rfl) (Reps.one (show Kd.M (Kd.int .i64) _ _ _ (-3) [.int .i64 (-3)] from rfl) (Reps.one (show Kd.M (Kd.int .i64) _ _ _ 0 [.int .i64 0] from rfl) (Reps.one (show Kd.M (Kd.int .i64) _ _ _ 3 [.int .i64 3] from rfl) (Reps.one (show Kd.M (Kd.int .i64) _ _ _ 4 [.int .i64 4] from rfl) (Reps.one (show Kd.M (Kd.int .i64) _ _ _ 7 [.int .i64 7] from rfl) (Reps.none _ _)))))))))
     intro v177 w12 ho13 hb hg_ hnew_
     clear hg_ hnew_
     (first | rw [← Ny176.out] at ho13 | (simp only [Int.reduceToNat] at ho13; rw [← Ny176.out] at ho13))
     have n0_ := am (Kd.R_below (ru HO174.out) hb)
     have n1_ := am (Kd.R_lower ho13 (below_size (bu HB.out)))
     have n3_ := am (below_step (bu HB.out) hb)
     have z_HI169 := fun (h0_ : b 3 = false) => (show IsS158 w w12 g169 t167 t175 from by first | exact (IsS158.below (by repeat (first | (with_reducible first | exact (Q_HI169 h0_) | apply IsS158.alloc | apply IsS158.drewN | apply IsS158.drew | apply IsS158.set_1) | exact (Q_HI169 h0_))) hb))
     have z_HI169_e3 := fun (h0_ : b 3 = true) => (show IsS158 w w12 g169 t167 t180 from by first | exact (IsS158.below (by repeat (first | (with_reducible first | exact (Q_HI169_e3 h0_) | apply IsS158.alloc | apply IsS158.drewN | apply IsS158.drew | apply IsS158.set_1) | exact (Q_HI169_e3 h0_))) hb))
     clear HO174
     clear HB
     have HO174 := n0_
     have HO178 := n1_
     have HB := n3_
     clear n0_ n1_ n3_
     clear hb ho13
     obtain ⟨Ao14, co14, eo14⟩ := Kd.R_slice HO178.out
     subst eo14
     obtain ⟨ado14, fo14, _⟩ := Kd.at_int (Kd.R_reads' HO178.out).2.2 0 (by decide) (by rw [Ny176.out]; simp)
     cases fo14
     refine hK.out _ _ ⟨.slice (some ado14) y176.length co14, ado14, m4_, (by rw [ha.out]; exact putSel_upk 0 hb_ rfl rfl rfl), (ru HO174.out), z_HI169, (bu HB.out), fun _ => (ru HO178.out), fun _ => ⟨_, rfl⟩, z_HI169_e3, fun h0_ => absurd ((hoff 4 (by kernel_rfl)).symm.trans h0_) (by decide)⟩
    refine steps_cons ?_ ?_
    ·rintro b a w' ⟨v177, adz_v177, m4_, ha, Q_HO174, Q_HI169, Q_HB, Q_HO178, Q_HA_HO178, Q_HI169_e3, Q_X4_⟩ hb_ hon hoff
     refine ⟨_, rfl, fun K hK => ?_⟩
     have e14 : a.tmps[14]? = some (.pointer (some ⟨g169, 0, none⟩)) := by rw [ha]; exact (putSel_off rfl).trans rfl
     replace ha := am ha
     have HO174 := am Q_HO174
     have HI169 := am (Q_HI169 hb_)
     have HB := am Q_HB
     refine goes_ Tryd.func83 (by kernel_rfl) rfl #[.pointer (some ⟨g169, 0, none⟩), .int .i64 7] (by rfl) rfl rfl (by first | (simp only [List.map_toArray, List.map_cons, List.map_nil, Act.eval, Array.getD_eq_getD_getElem?, Option.getD_some, e14]; done) | (simp only [List.map_toArray, List.map_cons, List.map_nil, Act.eval, Array.getD_eq_getD_getElem?, Option.getD_some, e14]; rfl)) ?_
     with_reducible refine (spec_l6Rd_pick.calls k g169 t167 t175 7 t179 t180 w _ ?side1 ?side2 A5.out).mono ?_
     (case side1 => repeat (first | (with_reducible first | exact HI169.out | apply IsS158.alloc | apply IsS158.drewN | apply IsS158.drew | apply IsS158.set_1) | exact HI169.out))
     (case side2 => repeat (first | (with_reducible first | exact HB.out | apply below_alloc | apply pw_below_drewN | apply below_drew1 | refine below_set ?_ (IsS158.ge HI169.out)) | exact HB.out))
     rintro e w12 ⟨rfl, hi, hb, hk⟩
     refine ⟨_, rfl, ?_⟩
     have n0_ := am (Kd.R_mono (Kd.R_keep (IsS158.apart (show IsS158 w _ g169 t167 t175 from by repeat (first | (with_reducible first | exact HI169.out | apply IsS158.alloc | apply IsS158.drewN | apply IsS158.drew | apply IsS158.set_1) | exact HI169.out)) (ru HO174.out) (by decide)) hk (fun _ h => h.2)) (fun _ h => h.1))
     have n1_ := am (hb)
     have n2_ := am (hi)
     have z_HO178 := fun (h0_ : b 1 = true) => (show Kd.R (Kd.int .i64) 3 w12 w.heap.size (fun _ => True) v177 y176 from by first | exact (Kd.R_mono (Kd.R_keep (IsS158.apart (show IsS158 w _ g169 t167 t175 from by repeat (first | (with_reducible first | exact HI169.out | apply IsS158.alloc | apply IsS158.drewN | apply IsS158.drew | apply IsS158.set_1) | exact HI169.out)) (by (with_reducible repeat (first | apply Kd.R_alloc | apply Kd.R_drewN | apply Kd.R_drew)); exact (Q_HO178 h0_)) (by decide)) hk (fun _ h => h.2)) (fun _ h => h.1)) | exact Kd.R_mono (Kd.R_mono (Kd.R_keep (IsS158.apart (show IsS158 w _ g169 t167 t175 from by repeat (first | (with_reducible first | exact HI169.out | apply IsS158.alloc | apply IsS158.drewN | apply IsS158.drew | apply IsS158.set_1) | exact HI169.out)) (by (with_reducible repeat (first | apply Kd.R_alloc | apply Kd.R_drewN | apply Kd.R_drew)); exact (Q_HO178 h0_)) (by decide)) hk (fun _ h => h.2)) (fun _ h => h.1)) (fun _ h_ => by first | trivial | exact h_ | exact h_.1))
     clear HO174
     clear HB
     clear HI169
     have HO174 := n0_
     have HB := n1_
     have HI169 := n2_
     clear n0_ n1_ n2_
     (try clear hb)
     (try clear hb2)
     (try clear hk)
     (try clear hi)
     refine hK.out _ _ ⟨v177, adz_v177, m4_, (by rw [ha.out]; exact putSel_upk 1 hb_ rfl rfl rfl), (ru HO174.out), fun h0_ => absurd ((up_self b 3).symm.trans h0_) (by decide), (by repeat (first | (with_reducible first | exact HB.out | apply below_alloc | apply pw_below_drewN | apply below_drew1 | refine below_set ?_ (IsS158.ge HI169.out)) | exact HB.out)), z_HO178, Q_HA_HO178, fun _ => (by repeat (first | (with_reducible first | exact HI169.out | apply IsS158.alloc | apply IsS158.drewN | apply IsS158.drew | apply IsS158.set_1) | exact HI169.out)), fun h0_ => absurd ((hoff 4 (by kernel_rfl)).symm.trans h0_) (by decide)⟩
    refine steps_cons ?_ ?_
    ·rintro b a w' ⟨v177, adz_v177, m4_, ha, Q_HO174, Q_HI169, Q_HB, Q_HO178, Q_HA_HO178, Q_HI169_e3, Q_X4_⟩ hb_ hon hoff
     refine ⟨_, rfl, fun K hK => ?_⟩
     have e13 : a.tmps[13]? = some (v177) := by rw [ha]; exact putSel_on (e := (1, 13, v177)) 0 rfl rfl (hon 1 (by kernel_rfl)) rfl
     have e15 : a.tmps[15]? = some (.int .i64 t179) := by rw [ha]; exact putSel_on (e := (3, 15, .int .i64 t179)) 1 rfl rfl (hon 3 (by kernel_rfl)) rfl
     replace ha := am ha
     have HO174 := am Q_HO174
     have HB := am Q_HB
     have HO178 := am (Q_HO178 (hon 1 (by kernel_rfl)))
     have HA_HO178 := am (Q_HA_HO178 (hon 1 (by kernel_rfl)))
     have HI169 := am (Q_HI169_e3 (hon 3 (by kernel_rfl)))
     obtain ⟨c_, hv_⟩ := HA_HO178.out
     rw [hv_] at e13
     refine value_ (w1 := w') (v := .pointer (some (adz_v177.add (t179).toNat))) (by rfl) rfl ?_ ?_
     ·go_simp
      (try simp only [i64_w])
      try rfl
     refine hK.out _ _ ⟨v177, adz_v177, (.pointer (some (adz_v177.add (t179).toNat))), (by rw [ha.out]; exact putSel_upk 2 hb_ rfl rfl rfl), Q_HO174, fun h0_ => absurd ((hon 3 (by kernel_rfl)).symm.trans h0_) (by decide), Q_HB, Q_HO178, Q_HA_HO178, Q_HI169_e3, fun _ => rfl⟩
    refine steps_cons ?_ ?_
    ·rintro b a w' ⟨v177, adz_v177, m4_, ha, Q_HO174, Q_HI169, Q_HB, Q_HO178, Q_HA_HO178, Q_HI169_e3, Q_X4_⟩ hb_ hon hoff
     refine ⟨_, rfl, fun K hK => ?_⟩
     have e16 : a.tmps[16]? = some (m4_) := by rw [ha]; exact putSel_on (e := (4, 16, m4_)) 2 rfl rfl (hon 4 (by kernel_rfl)) rfl
     rw [Q_X4_ (hon 4 (by kernel_rfl))] at e16
     replace ha := am ha
     have HO174 := am Q_HO174
     have HB := am Q_HB
     have HO178 := am (Q_HO178 (hon 1 (by kernel_rfl)))
     have HA_HO178 := am (Q_HA_HO178 (hon 1 (by kernel_rfl)))
     have HI169 := am (Q_HI169_e3 (hon 3 (by kernel_rfl)))
     obtain ⟨c_, hv_⟩ := HA_HO178.out
     have hF_ := HO178.out
     rw [hv_] at hF_
     obtain ⟨ad_, ea_, hx_⟩ := Kd.at_int (Kd.R_reads' hF_).2.2 t179 (of_eq_true pi181) (of_eq_true qi181)
     cases ea_
     refine value_ (w1 := w') (v := .int .i64 (rd y176 t179)) (by rfl) rfl ?_ ?_
     ·go_simp
      (try simp only [i64_w])
      try rfl
     refine hK.out _ _ ⟨v177, adz_v177, m4_, (by rw [ha.out]; exact putSel_upk 3 hb_ rfl rfl rfl), Q_HO174, fun h0_ => absurd ((hon 3 (by kernel_rfl)).symm.trans h0_) (by decide), Q_HB, Q_HO178, Q_HA_HO178, Q_HI169_e3, Q_X4_⟩
    refine steps_cons ?_ ?_
    ·rintro b a w' ⟨v177, adz_v177, m4_, ha, Q_HO174, Q_HI169, Q_HB, Q_HO178, Q_HA_HO178, Q_HI169_e3, Q_X4_⟩ hb_ hon hoff
     refine ⟨_, rfl, fun K hK => ?_⟩
     have e12 : a.tmps[12]? = some (v173) := by rw [ha]; exact (putSel_off rfl).trans rfl
     replace ha := am ha
     have HO174 := am Q_HO174
     have HB := am Q_HB
     have HI169 := am (Q_HI169_e3 (hon 3 (by kernel_rfl)))
     refine value_ (w1 := w') (v := v173) (by rfl) rfl ?_ ?_
     ·go_simp
      (try simp only [i64_w])
      try rfl
     refine hK.out _ _ ⟨v177, adz_v177, m4_, (by rw [ha.out]; exact putSel_upk 4 hb_ rfl rfl rfl), Q_HO174, fun h0_ => absurd ((hon 3 (by kernel_rfl)).symm.trans h0_) (by decide), Q_HB, Q_HO178, Q_HA_HO178, Q_HI169_e3, Q_X4_⟩
    refine steps_cons ?_ ?_
    ·rintro b a w' ⟨v177, adz_v177, m4_, ha, Q_HO174, Q_HI169, Q_HB, Q_HO178, Q_HA_HO178, Q_HI169_e3, Q_X4_⟩ hb_ hon hoff
     refine ⟨_, rfl, fun K hK => ?_⟩
     have e17 : a.tmps[17]? = some (.int .i64 (rd y176 t179)) := by rw [ha]; exact putSel_on (e := (5, 17, .int .i64 (rd y176 t179))) 3 rfl rfl (hon 5 (by kernel_rfl)) rfl
     replace ha := am ha
     have HO174 := am Q_HO174
     have HB := am Q_HB
     have HO178 := am (Q_HO178 (hon 1 (by kernel_rfl)))
     have HA_HO178 := am (Q_HA_HO178 (hon 1 (by kernel_rfl)))
     have HI169 := am (Q_HI169_e3 (hon 3 (by kernel_rfl)))
     refine value_ (w1 := w') (v := .int .i64 (rd y176 t179)) (by rfl) rfl ?_ ?_
     ·go_simp
      (try simp only [i64_w])
      try rfl
     refine hK.out _ _ ⟨v177, adz_v177, m4_, (by rw [ha.out]; exact putSel_upk 5 hb_ rfl rfl rfl), Q_HO174, fun h0_ => absurd ((hon 3 (by kernel_rfl)).symm.trans h0_) (by decide), Q_HB, Q_HO178, Q_HA_HO178, Q_HI169_e3, Q_X4_⟩
    exact steps_nil
   rintro b a w16 hall ⟨v177, adz_v177, m4_, ha, Q_HO174, Q_HI169, Q_HB, Q_HO178, Q_HA_HO178, Q_HI169_e3, Q_X4_⟩
   clear HB HI169 HO174
   have hb1_ := hall 1 (by kernel_rfl)
   have hb3_ := hall 3 (by kernel_rfl)
   have hb4_ := hall 4 (by kernel_rfl)
   have hb5_ := hall 5 (by kernel_rfl)
   have hb6_ := hall 6 (by kernel_rfl)
   have hb7_ := hall 7 (by kernel_rfl)
   subst ha
   obtain rfl := Q_X4_ hb4_
   simp only [putSel, hb1_, hb3_, hb4_, hb5_, hb6_, hb7_, if_true, Act.put, sA, sZ, sS]
   have HO174 := am Q_HO174
   clear Q_HO174
   clear Q_HI169
   have HB := am Q_HB
   clear Q_HB
   have HO178 := am (Q_HO178 hb1_)
   clear Q_HO178
   have HA_HO178 := am (Q_HA_HO178 hb1_)
   clear Q_HA_HO178
   have HI169 := am (Q_HI169_e3 hb3_)
   clear Q_HI169_e3
   clear hall hb1_ hb3_ hb4_ hb5_ hb6_ hb7_
   obtain ⟨co17, eo17⟩ := HA_HO178.out
   clear HA_HO178
   subst eo17
   try go_wp2
   go_ret2
   exact ⟨_, by first | rfl | (simp [errW_none, errW_some] <;> rfl) | (simp [*, errW_none, errW_some] <;> rfl), ru HO174.out, by repeat (first | (with_reducible first | exact HB.out | apply below_alloc | apply pw_below_drewN | apply below_drew1 | refine below_set ?_ (IsS158.ge HI169.out)) | exact HB.out)⟩
  ·rw [if_neg c7] at H
   exact absurd H (by simp)
 ·rw [if_neg c6] at H
  exact absurd H (by simp)

/-! ### impl_MelodyValid: function 58 -/
def impl_MelodyValid.l0 : Nat → List (S30) → Int → Int → Option (Bool)
 | 0, _, _, _ => none
 | k + 1, x8, x9, x10 => if x10 < x9 then (if 0 ≤ x10 then (if x10 < (x8.length : Int) then ((impl_Tone_valid.f ((rd_T30 x8 x10).f0) ((rd_T30 x8 x10).f1)).bind fun t184 => (if t184 = true then (impl_MelodyValid.l0 k x8 x9 (wrap64 (x10 + 1))) else (some false))) else (none)) else (none)) else (some true)
def impl_MelodyValid.f (k : Nat) (l0 : List (S30)) : Option (Bool) := if (l0.length : Int) > 24 then (some false) else (impl_MelodyValid.l0 k l0 (l0.length : Int) 0)
set_option maxHeartbeats 8000000 in
set_option maxRecDepth 100000 in
theorem impl_MelodyValid.calls (k : Nat) (A0 : Option Addr) (c0 : Nat) (l0 : List (S30)) (r : Bool) (w : World) (hr0 : Kd.C k30 w A0 l0.length l0) (hc0 : l0.length ≤ c0) (h : impl_MelodyValid.f k l0 = some r) :
  Calls Tryd.prog 58 #[.slice A0 l0.length c0] w fun e w' => e = .returned (.bool r) ∧ Below w.heap.size w w' := by
 have hu30 := Tryd.underlying30
 have HR0 := am hr0
 have HC0 := am hc0
 clear hr0 hc0
 have HB := am (Below.refl w.heap.size w)
 have H : (if (l0.length : Int) > 24 then (some false) else (impl_MelodyValid.l0 k l0 (l0.length : Int) 0)) = some r := h
 clear h
 by_cases c2 : (l0.length : Int) > 24
 ·rw [if_pos c2] at H
  have c2b0 : decide (24 < (l0.length : Int)) = true := decide_eq_true c2
  have c2b1 : decide (24 < l0.length) = true := decide_eq_true (by omega)
  clear c2
  obtain rfl := Option.some.inj H
  go_enter Tryd.func58, Tryd.ntmps58
  go_wp2
  go_ret
  exact ⟨by first | rfl | (simp [errW_none, errW_some] <;> rfl) | (simp [*, errW_none, errW_some] <;> rfl), bu HB.out⟩
 ·rw [if_neg c2] at H
  have c2b0 : decide (24 < (l0.length : Int)) = false := decide_eq_false c2
  have c2b1 : decide (24 < l0.length) = false := decide_eq_false (by omega)
  clear c2
  have H' := am H
  clear H
  go_enter Tryd.func58, Tryd.ntmps58
  go_wp2
  go_loopg [10] k (fun kq v10 w' => ∃ (x10_1 : Int), v10 = .int .i64 x10_1 ∧ Aside0 (impl_MelodyValid.l0 kq l0 (l0.length : Int) x10_1 = some r) ∧ Aside0 (kq ≤ k) ∧ Aside0 (Below w.heap.size w w'))
  case atStart => exact ⟨(0), (by first | rfl | (simp; done) | (simp [*]; done)), H', ⟨Nat.le_refl _⟩, ⟨bu HB.out⟩⟩
  case round =>
   clear H'
   try clear c2
   try clear c2b0
   try clear c2b1
   try clear p2
   obtain ⟨x10_1, rfl, HA, HK1, HB⟩ := hrel
   cases gk with
   | zero => exact absurd HA.out (by simp [impl_MelodyValid.l0])
   | succ k1 =>
    have H := HA.out
    clear HA
    simp only [impl_MelodyValid.l0] at H
    by_cases c3 : x10_1 < (l0.length : Int)
    ·rw [if_pos c3] at H
     have c3b0 : decide (x10_1 < (l0.length : Int)) = true := decide_eq_true c3
     clear c3
     by_cases c4 : 0 ≤ x10_1
     ·rw [if_pos c4] at H
      have c4b0 : decide (0 ≤ x10_1) = true := decide_eq_true c4
      clear c4
      by_cases c5 : x10_1 < (l0.length : Int)
      ·rw [if_pos c5] at H
       have c5b0 : decide (x10_1 < (l0.length : Int)) = true := decide_eq_true c5
       clear c5
       replace H := Option.bind_eq_some_iff.mp H
       obtain ⟨t184, A60, H⟩ := H
       replace H : (if t184 = true then (impl_MelodyValid.l0 k1 l0 (l0.length : Int) (wrap64 (x10_1 + 1))) else (some false)) = some r := H
       have A6 := am A60
       clear A60
       by_cases c7 : t184 = true
       ·subst c7
        have H1 : (impl_MelodyValid.l0 k1 l0 (l0.length : Int) (wrap64 (x10_1 + 1))) = some r := by rw [if_pos rfl] at H; exact H
        clear H
        have H := H1
        clear H1
        have H' := am H
        clear H
        have p182 : 0 ≤ (x10_1 : Int) := od
        have q182 : x10_1 < (l0.length : Int) := od
        obtain ⟨ad182, e182, hx182_0, hx182_1⟩ := at_T30 HR0.out x10_1 p182 q182
        cases e182
        replace hx182_0 := (HB.out.cell (World.block_lt_of_cell? w _ hx182_0)).trans hx182_0
        replace hx182_1 := (HB.out.cell (World.block_lt_of_cell? w _ hx182_1)).trans hx182_1
        replace p182 := eq_true p182
        replace q182 := eq_true q182
        go_wp2_with (first | ((with_reducible refine gate_dst (N := 4) rfl ?_); refine box_event ?hg (N := 4) ?hd (cs := #[.int .i64 0, .bool false]) (t := 30) ?hr ?_; (case hd => rfl); (case hg => rfl); (case hr => first | (go_simp; done) | (go_simp; rfl)); intro gb183 hg w8 hbox hb; have n0_ := am (below_step (bu HB.out) hb); have n1_ := am (hbox); have n2_ := am ((by rw [hg]; exact (below_size (bu HB.out)) : w.heap.size ≤ gb183)); have n3_ := am ((by rw [hg]; exact (below_size (bu HB.out)) : w.heap.size ≤ gb183)); clear HB; have HB := n0_; have BK183 := n1_; have GW183 := n2_; have GE183 := n3_; clear n0_ n1_ n2_ n3_; clear hb hbox hg; have hcz9_0 : w8.cell? ⟨gb183, 0, none⟩ = some (.int .i64 0) := (blk_cell BK183.out 0).trans rfl; have hcz9_1 : w8.cell? ⟨gb183, 1, none⟩ = some (.bool false) := (blk_cell BK183.out 1).trans rfl; have hfz9_0 := blk_frozen BK183.out 0; have hfz9_1 := blk_frozen BK183.out 1) | ((with_reducible refine gate_callee (f := 76) rfl ?_); refine goesL_ (some 15) rfl rfl Tryd.func76 (by kernel_rfl) rfl #[.agg #[.int .i64 ((rd_T30 l0 x10_1).f0), .bool ((rd_T30 l0 x10_1).f1)]] rfl (by (try simp only [List.map_toArray, List.map_cons, List.map_nil]); first | done | rfl | (simp only [List.length_drop, List.length_take]; rfl)) ?_; (with_reducible refine (impl_Tone_valid.calls ((rd_T30 l0 x10_1).f0) ((rd_T30 l0 x10_1).f1) true _ A6.out).mono ?_); rintro e w10 ⟨rfl, hb⟩; refine ⟨_, rfl, ?_⟩; have n0_ := am (blk_below (g := gb183) (o := .cells #[.int .i64 ((rd_T30 l0 x10_1).f0), .bool ((rd_T30 l0 x10_1).f1)] 30 (0, 0)) (by (with_reducible repeat (first | refine blk_drewN ?_ _ | refine blk_drew ?_ | refine blk_alloc ?_ _)); refine blk_put (cs := #[.int .i64 ((rd_T30 l0 x10_1).f0), .bool false]) ?_ 1 _ rfl; (with_reducible repeat (first | refine blk_drewN ?_ _ | refine blk_drew ?_ | refine blk_alloc ?_ _)); refine blk_put (cs := #[.int .i64 0, .bool false]) ?_ 0 _ rfl; (with_reducible repeat (first | refine blk_drewN ?_ _ | refine blk_drew ?_ | refine blk_alloc ?_ _)); exact BK183.out) hb); have n1_ := am (below_step (bu HB.out) hb); clear BK183; clear HB; have BK183 := n0_; have HB := n1_; clear n0_ n1_; (try clear hb); (try clear hb2); (try clear hk); (try clear hi)))
        go_roundg k1
        case measure => have := HK1.out; omega
        case rel => exact ⟨(wrap64 (x10_1 + 1)), (by first | rfl | (simp; done) | (simp [*]; done)), H', ⟨by have := HK1.out; omega⟩, ⟨bu HB.out⟩⟩
       ·replace c7 := Bool.eq_false_iff.mpr c7
        subst c7
        have H1 : (some false) = some r := by rw [if_neg (show ¬ (false = true) by decide)] at H; exact H
        clear H
        have H := H1
        clear H1
        obtain rfl := Option.some.inj H
        have p182 : 0 ≤ (x10_1 : Int) := od
        have q182 : x10_1 < (l0.length : Int) := od
        obtain ⟨ad182, e182, hx182_0, hx182_1⟩ := at_T30 HR0.out x10_1 p182 q182
        cases e182
        replace hx182_0 := (HB.out.cell (World.block_lt_of_cell? w _ hx182_0)).trans hx182_0
        replace hx182_1 := (HB.out.cell (World.block_lt_of_cell? w _ hx182_1)).trans hx182_1
        replace p182 := eq_true p182
        replace q182 := eq_true q182
        go_wp2_with (first | ((with_reducible refine gate_dst (N := 4) rfl ?_); refine box_event ?hg (N := 4) ?hd (cs := #[.int .i64 0, .bool false]) (t := 30) ?hr ?_; (case hd => rfl); (case hg => rfl); (case hr => first | (go_simp; done) | (go_simp; rfl)); intro gb183 hg w11 hbox hb; have n0_ := am (below_step (bu HB.out) hb); have n1_ := am (hbox); have n2_ := am ((by rw [hg]; exact (below_size (bu HB.out)) : w.heap.size ≤ gb183)); have n3_ := am ((by rw [hg]; exact (below_size (bu HB.out)) : w.heap.size ≤ gb183)); clear HB; have HB := n0_; have BK183 := n1_; have GW183 := n2_; have GE183 := n3_; clear n0_ n1_ n2_ n3_; clear hb hbox hg; have hcz12_0 : w11.cell? ⟨gb183, 0, none⟩ = some (.int .i64 0) := (blk_cell BK183.out 0).trans rfl; have hcz12_1 : w11.cell? ⟨gb183, 1, none⟩ = some (.bool false) := (blk_cell BK183.out 1).trans rfl; have hfz12_0 := blk_frozen BK183.out 0; have hfz12_1 := blk_frozen BK183.out 1) | ((with_reducible refine gate_callee (f := 76) rfl ?_); refine goesL_ (some 15) rfl rfl Tryd.func76 (by kernel_rfl) rfl #[.agg #[.int .i64 ((rd_T30 l0 x10_1).f0), .bool ((rd_T30 l0 x10_1).f1)]] rfl (by (try simp only [List.map_toArray, List.map_cons, List.map_nil]); first | done | rfl | (simp only [List.length_drop, List.length_take]; rfl)) ?_; (with_reducible refine (impl_Tone_valid.calls ((rd_T30 l0 x10_1).f0) ((rd_T30 l0 x10_1).f1) false _ A6.out).mono ?_); rintro e w13 ⟨rfl, hb⟩; refine ⟨_, rfl, ?_⟩; have n0_ := am (blk_below (g := gb183) (o := .cells #[.int .i64 ((rd_T30 l0 x10_1).f0), .bool ((rd_T30 l0 x10_1).f1)] 30 (0, 0)) (by (with_reducible repeat (first | refine blk_drewN ?_ _ | refine blk_drew ?_ | refine blk_alloc ?_ _)); refine blk_put (cs := #[.int .i64 ((rd_T30 l0 x10_1).f0), .bool false]) ?_ 1 _ rfl; (with_reducible repeat (first | refine blk_drewN ?_ _ | refine blk_drew ?_ | refine blk_alloc ?_ _)); refine blk_put (cs := #[.int .i64 0, .bool false]) ?_ 0 _ rfl; (with_reducible repeat (first | refine blk_drewN ?_ _ | refine blk_drew ?_ | refine blk_alloc ?_ _)); exact BK183.out) hb); have n1_ := am (below_step (bu HB.out) hb); clear BK183; clear HB; have BK183 := n0_; have HB := n1_; clear n0_ n1_; (try clear hb); (try clear hb2); (try clear hk); (try clear hi)))
        go_ret
        exact ⟨by first | rfl | (simp [errW_none, errW_some] <;> rfl) | (simp [*, errW_none, errW_some] <;> rfl), bu HB.out⟩
      ·rw [if_neg c5] at H
       exact absurd H (by simp)
     ·rw [if_neg c4] at H
      exact absurd H (by simp)
    ·rw [if_neg c3] at H
     have c3b0 : decide (x10_1 < (l0.length : Int)) = false := decide_eq_false c3
     clear c3
     obtain rfl := Option.some.inj H
     go_wp2
     go_ret
     exact ⟨by first | rfl | (simp [errW_none, errW_some] <;> rfl) | (simp [*, errW_none, errW_some] <;> rfl), bu HB.out⟩

/-! ### impl_ToneAbove: function 88 -/
def impl_ToneAbove.j0 : Nat → Int → Bool → Bool → Int → Bool → Option (Int × Bool × Bool)
 | 0, _, _, _, _, _ => none
 | k + 1, x1, x2, x19, x186000, x186001 => if x19 = true then (some (0, false, false)) else ((impl_Tone_valid.f (wrap64 (x186000 + x1)) x2).bind fun t189 => (if t189 = true then (some (wrap64 (x186000 + x1), x2, true)) else (some (0, false, false))))
def impl_ToneAbove.f (k : Nat) (a0_0 : Int) (a0_1 : Bool) (a1 : Int) (a2 : Bool) : Option (Int × Bool × Bool) := (impl_Tone_valid.f a0_0 a0_1).bind fun t187 => (if t187 = true then (if a1 < (-20) then (impl_ToneAbove.j0 k a1 a2 true a0_0 a0_1) else (impl_ToneAbove.j0 k a1 a2 (decide (a1 > 20)) a0_0 a0_1)) else (impl_ToneAbove.j0 k a1 a2 true a0_0 a0_1))
set_option maxHeartbeats 8000000 in
set_option maxRecDepth 100000 in
theorem impl_ToneAbove.calls (k : Nat) (a0_0 : Int) (a0_1 : Bool) (a1 : Int) (a2 : Bool) (r1 : Int) (r2 : Bool) (r3 : Bool) (w : World) (h : impl_ToneAbove.f k a0_0 a0_1 a1 a2 = some (r1, r2, r3)) :
  Calls Tryd.prog 88 #[.agg #[.int .i64 a0_0, .bool a0_1], .int .i64 a1, .bool a2] w fun e w' => e = .returned (.tuple #[.agg #[.int .i64 r1, .bool r2], .bool r3]) ∧ Below w.heap.size w w' := by
 have hu30 := Tryd.underlying30
 have HB := am (Below.refl w.heap.size w)
 have H : ((impl_Tone_valid.f a0_0 a0_1).bind fun t187 => (if t187 = true then (if a1 < (-20) then (impl_ToneAbove.j0 k a1 a2 true a0_0 a0_1) else (impl_ToneAbove.j0 k a1 a2 (decide (a1 > 20)) a0_0 a0_1)) else (impl_ToneAbove.j0 k a1 a2 true a0_0 a0_1))) = some (r1, r2, r3) := h
 clear h
 have HC4 := am H
 clear H
 go_enter Tryd.func88, Tryd.ntmps88
 go_upto_region 1 with (first | ((with_reducible refine gate_dst (N := 3) rfl ?_); refine box_event ?hg (N := 3) ?hd (cs := #[.int .i64 a0_0, .bool a0_1]) (t := 30) ?hr ?_; (case hd => rfl); (case hg => rfl); (case hr => first | (go_simp; done) | (go_simp; rfl)); intro gb185 hg w5 hbox hb; have n0_ := am (below_step (bu HB.out) hb); have n1_ := am (hbox); have n2_ := am ((by rw [hg]; exact (below_size (bu HB.out)) : w.heap.size ≤ gb185)); have n3_ := am ((by rw [hg]; exact (below_size (bu HB.out)) : w.heap.size ≤ gb185)); clear HB; have HB := n0_; have BK185 := n1_; have GW185 := n2_; have GE185 := n3_; clear n0_ n1_ n2_ n3_; clear hb hbox hg) | ((with_reducible refine gate_dst (N := 6) rfl ?_); refine box_event ?hg (N := 6) ?hd (cs := #[.int .i64 0, .bool false]) (t := 30) ?hr ?_; (case hd => rfl); (case hg => rfl); (case hr => first | (go_simp; done) | (go_simp; rfl)); intro gb186 hg w6 hbox hb; have n0_ := am (blk_below (g := gb185) (o := .cells #[.int .i64 a0_0, .bool a0_1] 30 (0, 0)) (gu BK185.out) hb); have n1_ := am (below_step (bu HB.out) hb); have n2_ := am (hbox); have n3_ := am ((by rw [hg]; exact (below_size (bu HB.out)) : w.heap.size ≤ gb186)); have n4_ := am ((by rw [hg]; exact (below_size (bu HB.out)) : w.heap.size ≤ gb186)); have n5_ := am ((by rw [hg]; exact Nat.ne_of_lt (blk_lt (g := gb185) (o := .cells #[.int .i64 a0_0, .bool a0_1] 30 (0, 0)) (gu BK185.out)) : gb185 ≠ gb186)); have n6_ := am ((by rw [hg]; exact Nat.ne_of_gt (blk_lt (g := gb185) (o := .cells #[.int .i64 a0_0, .bool a0_1] 30 (0, 0)) (gu BK185.out)) : gb186 ≠ gb185)); clear BK185; clear HB; have BK185 := n0_; have HB := n1_; have BK186 := n2_; have GW186 := n3_; have GE186 := n4_; have NB185_186 := n5_; have NB186_185 := n6_; clear n0_ n1_ n2_ n3_ n4_ n5_ n6_; clear hb hbox hg))
 (try simp only [Act.put, sA, sZ, sS])
 go_cut [19] (fun v19 wc => ∃ (kq : Nat) (x19_3 : Bool), v19 = .bool x19_3 ∧ Aside0 (impl_ToneAbove.j0 kq a1 a2 x19_3 a0_0 a0_1 = some (r1, r2, r3)) ∧ Aside0 (kq ≤ k) ∧ Aside0 (wc.heap[gb185]? = some (.cells #[.int .i64 a0_0, .bool a0_1] 30 (0, 0))) ∧ Aside0 (wc.heap[gb186]? = some (.cells #[.int .i64 0, .bool false] 30 (0, 0))) ∧ Aside0 (Below w.heap.size w wc))
 case first =>
  have H := HC4.out
  clear HC4
  replace H := Option.bind_eq_some_iff.mp H
  obtain ⟨t187, A70, H⟩ := H
  replace H : (if t187 = true then (if a1 < (-20) then (impl_ToneAbove.j0 k a1 a2 true a0_0 a0_1) else (impl_ToneAbove.j0 k a1 a2 (decide (a1 > 20)) a0_0 a0_1)) else (impl_ToneAbove.j0 k a1 a2 true a0_0 a0_1)) = some (r1, r2, r3) := H
  have A7 := am A70
  clear A70
  by_cases c8 : t187 = true
  ·subst c8
   have H1 : (if a1 < (-20) then (impl_ToneAbove.j0 k a1 a2 true a0_0 a0_1) else (impl_ToneAbove.j0 k a1 a2 (decide (a1 > 20)) a0_0 a0_1)) = some (r1, r2, r3) := by rw [if_pos rfl] at H; exact H
   clear H
   have H := H1
   clear H1
   by_cases c9 : a1 < (-20)
   ·rw [if_pos c9] at H
    have c9b0 : decide (a1 < (-20)) = true := decide_eq_true c9
    clear c9
    (first | rw [c9b0] | (simp only [i64_w, i32_w]; rw [c9b0]) | skip)
    have H' := am H
    clear H
    have hnb10 := NB185_186.out
    have hnc10 := NB186_185.out
    have hcz11_0 : w6.cell? ⟨gb185, 0, none⟩ = some (.int .i64 a0_0) := (blk_cell BK185.out 0).trans rfl
    have hcz11_1 : w6.cell? ⟨gb185, 1, none⟩ = some (.bool a0_1) := (blk_cell BK185.out 1).trans rfl
    have hfz11_0 := blk_frozen BK185.out 0
    have hfz11_1 := blk_frozen BK185.out 1
    go_wp2_with (first | ((with_reducible refine gate_callee (f := 76) rfl ?_); refine goesL_ (some 10) rfl rfl Tryd.func76 (by kernel_rfl) rfl #[.agg #[.int .i64 a0_0, .bool a0_1]] rfl (by (try simp only [List.map_toArray, List.map_cons, List.map_nil]); first | done | rfl | (simp only [List.length_drop, List.length_take]; rfl)) ?_; (with_reducible refine (impl_Tone_valid.calls a0_0 a0_1 true _ A7.out).mono ?_); rintro e w12 ⟨rfl, hb⟩; refine ⟨_, rfl, ?_⟩; have n0_ := am (blk_below (g := gb185) (o := .cells #[.int .i64 a0_0, .bool a0_1] 30 (0, 0)) (gu BK185.out) hb); have n1_ := am (blk_below (g := gb186) (o := .cells #[.int .i64 0, .bool false] 30 (0, 0)) (gu BK186.out) hb); have n2_ := am (below_step (bu HB.out) hb); clear BK185; clear BK186; clear HB; have BK185 := n0_; have BK186 := n1_; have HB := n2_; clear n0_ n1_ n2_; (try clear hb); (try clear hb2); (try clear hk); (try clear hi)))
    go_meet
    case rel => exact ⟨_, (true), (by first | rfl | (simp; done) | (simp [*]; done)), H', ⟨by first | omega | exact Nat.le_refl _⟩, ⟨gu BK185.out⟩, ⟨gu BK186.out⟩, ⟨bu HB.out⟩⟩
   ·rw [if_neg c9] at H
    have c9b0 : decide (a1 < (-20)) = false := decide_eq_false c9
    clear c9
    (first | rw [c9b0] | (simp only [i64_w, i32_w]; rw [c9b0]) | skip)
    have H' := am H
    clear H
    have hnb13 := NB185_186.out
    have hnc13 := NB186_185.out
    have hcz14_0 : w6.cell? ⟨gb185, 0, none⟩ = some (.int .i64 a0_0) := (blk_cell BK185.out 0).trans rfl
    have hcz14_1 : w6.cell? ⟨gb185, 1, none⟩ = some (.bool a0_1) := (blk_cell BK185.out 1).trans rfl
    have hfz14_0 := blk_frozen BK185.out 0
    have hfz14_1 := blk_frozen BK185.out 1
    go_wp2_with (first | ((with_reducible refine gate_callee (f := 76) rfl ?_); refine goesL_ (some 10) rfl rfl Tryd.func76 (by kernel_rfl) rfl #[.agg #[.int .i64 a0_0, .bool a0_1]] rfl (by (try simp only [List.map_toArray, List.map_cons, List.map_nil]); first | done | rfl | (simp only [List.length_drop, List.length_take]; rfl)) ?_; (with_reducible refine (impl_Tone_valid.calls a0_0 a0_1 true _ A7.out).mono ?_); rintro e w15 ⟨rfl, hb⟩; refine ⟨_, rfl, ?_⟩; have n0_ := am (blk_below (g := gb185) (o := .cells #[.int .i64 a0_0, .bool a0_1] 30 (0, 0)) (gu BK185.out) hb); have n1_ := am (blk_below (g := gb186) (o := .cells #[.int .i64 0, .bool false] 30 (0, 0)) (gu BK186.out) hb); have n2_ := am (below_step (bu HB.out) hb); clear BK185; clear BK186; clear HB; have BK185 := n0_; have BK186 := n1_; have HB := n2_; clear n0_ n1_ n2_; (try clear hb); (try clear hb2); (try clear hk); (try clear hi)))
    go_meet
    case rel => exact ⟨_, (decide (a1 > 20)), (by first | rfl | (simp; done) | (simp [*]; done)), H', ⟨by first | omega | exact Nat.le_refl _⟩, ⟨gu BK185.out⟩, ⟨gu BK186.out⟩, ⟨bu HB.out⟩⟩
  ·replace c8 := Bool.eq_false_iff.mpr c8
   subst c8
   have H1 : (impl_ToneAbove.j0 k a1 a2 true a0_0 a0_1) = some (r1, r2, r3) := by rw [if_neg (show ¬ (false = true) by decide)] at H; exact H
   clear H
   have H := H1
   clear H1
   have H' := am H
   clear H
   have hnb16 := NB185_186.out
   have hnc16 := NB186_185.out
   have hcz17_0 : w6.cell? ⟨gb185, 0, none⟩ = some (.int .i64 a0_0) := (blk_cell BK185.out 0).trans rfl
   have hcz17_1 : w6.cell? ⟨gb185, 1, none⟩ = some (.bool a0_1) := (blk_cell BK185.out 1).trans rfl
   have hfz17_0 := blk_frozen BK185.out 0
   have hfz17_1 := blk_frozen BK185.out 1
   go_wp2_with (first | ((with_reducible refine gate_callee (f := 76) rfl ?_); refine goesL_ (some 10) rfl rfl Tryd.func76 (by kernel_rfl) rfl #[.agg #[.int .i64 a0_0, .bool a0_1]] rfl (by (try simp only [List.map_toArray, List.map_cons, List.map_nil]); first | done | rfl | (simp only [List.length_drop, List.length_take]; rfl)) ?_; (with_reducible refine (impl_Tone_valid.calls a0_0 a0_1 false _ A7.out).mono ?_); rintro e w18 ⟨rfl, hb⟩; refine ⟨_, rfl, ?_⟩; have n0_ := am (blk_below (g := gb185) (o := .cells #[.int .i64 a0_0, .bool a0_1] 30 (0, 0)) (gu BK185.out) hb); have n1_ := am (blk_below (g := gb186) (o := .cells #[.int .i64 0, .bool false] 30 (0, 0)) (gu BK186.out) hb); have n2_ := am (below_step (bu HB.out) hb); clear BK185; clear BK186; clear HB; have BK185 := n0_; have BK186 := n1_; have HB := n2_; clear n0_ n1_ n2_; (try clear hb); (try clear hb2); (try clear hk); (try clear hi)))
   go_meet
   case rel => exact ⟨_, (true), (by first | rfl | (simp; done) | (simp [*]; done)), H', ⟨by first | omega | exact Nat.le_refl _⟩, ⟨gu BK185.out⟩, ⟨gu BK186.out⟩, ⟨bu HB.out⟩⟩
 case rest =>
  clear HC4
  try clear c1
  try clear p2
  try clear c7
  try clear c8
  try clear c9
  try clear c9b0
  try clear c10
  try clear c13
  try clear c16
  try clear hcz11_0
  try clear hcz11_1
  try clear hcz14_0
  try clear hcz14_1
  try clear hcz17_0
  try clear hcz17_1
  try clear hfz11_0
  try clear hfz11_1
  try clear hfz14_0
  try clear hfz14_1
  try clear hfz17_0
  try clear hfz17_1
  obtain ⟨kq, x19_3, rfl, HA, HJ3, BK185, BK186, HB⟩ := hcut
  cases kq with
  | zero => exact absurd HA.out (by simp [impl_ToneAbove.j0])
  | succ kj3 =>
   have H := HA.out
   clear HA
   simp only [impl_ToneAbove.j0] at H
   by_cases c19 : x19_3 = true
   ·subst c19
    have H1 : (some (0, false, false)) = some (r1, r2, r3) := by rw [if_pos rfl] at H; exact H
    clear H
    have H := H1
    clear H1
    simp only [Option.some.injEq, Prod.mk.injEq] at H
    obtain ⟨rfl, rfl, rfl⟩ := H
    have hnb20 := NB186_185.out
    have hnc20 := NB185_186.out
    have hcz21_0 : wc.cell? ⟨gb186, 0, none⟩ = some (.int .i64 0) := (blk_cell BK186.out 0).trans rfl
    have hcz21_1 : wc.cell? ⟨gb186, 1, none⟩ = some (.bool false) := (blk_cell BK186.out 1).trans rfl
    have hfz21_0 := blk_frozen BK186.out 0
    have hfz21_1 := blk_frozen BK186.out 1
    go_wp2
    refine bodyPost_ret (results_ct rfl _ _ gb186 30 #[.int .i64 0, .bool false] (0, 0) _ rfl (by (with_reducible repeat (first | refine blk_drewN ?_ _ | refine blk_drew ?_ | refine blk_alloc ?_ _)); refine blk_put (cs := #[.int .i64 0, .bool false]) ?_ 1 _ rfl; (with_reducible repeat (first | refine blk_drewN ?_ _ | refine blk_drew ?_ | refine blk_alloc ?_ _)); refine blk_put (cs := #[.int .i64 0, .bool false]) ?_ 0 _ rfl; (with_reducible repeat (first | refine blk_drewN ?_ _ | refine blk_drew ?_ | refine blk_alloc ?_ _)); exact BK186.out) Tryd.underlying30 rfl (by kernel_rfl)) rfl ?_
    exact ⟨by first | rfl | (simp [errW_none, errW_some] <;> rfl) | (simp [*, errW_none, errW_some] <;> rfl), bu HB.out⟩
   ·replace c19 := Bool.eq_false_iff.mpr c19
    subst c19
    have H1 : ((impl_Tone_valid.f (wrap64 (a0_0 + a1)) a2).bind fun t189 => (if t189 = true then (some (wrap64 (a0_0 + a1), a2, true)) else (some (0, false, false)))) = some (r1, r2, r3) := by rw [if_neg (show ¬ (false = true) by decide)] at H; exact H
    clear H
    have H := H1
    clear H1
    replace H := Option.bind_eq_some_iff.mp H
    obtain ⟨t189, A220, H⟩ := H
    replace H : (if t189 = true then (some (wrap64 (a0_0 + a1), a2, true)) else (some (0, false, false))) = some (r1, r2, r3) := H
    have A22 := am A220
    clear A220
    by_cases c23 : t189 = true
    ·subst c23
     have H1 : (some (wrap64 (a0_0 + a1), a2, true)) = some (r1, r2, r3) := by rw [if_pos rfl] at H; exact H
     clear H
     have H := H1
     clear H1
     simp only [Option.some.injEq, Prod.mk.injEq] at H
     obtain ⟨rfl, rfl, rfl⟩ := H
     have hnb24 := NB185_186.out
     have hnc24 := NB186_185.out
     have hcz25_0 : wc.cell? ⟨gb185, 0, none⟩ = some (.int .i64 a0_0) := (blk_cell BK185.out 0).trans rfl
     have hcz25_1 : wc.cell? ⟨gb185, 1, none⟩ = some (.bool a0_1) := (blk_cell BK185.out 1).trans rfl
     have hfz25_0 := blk_frozen BK185.out 0
     have hfz25_1 := blk_frozen BK185.out 1
     go_wp2_with (first | ((with_reducible refine gate_dst (N := 8) rfl ?_); refine box_event ?hg (N := 8) ?hd (cs := #[.int .i64 0, .bool false]) (t := 30) ?hr ?_; (case hd => rfl); (case hg => rfl); (case hr => first | (go_simp; done) | (go_simp; rfl)); intro gb188 hg w26 hbox hb; have n0_ := am (blk_below (g := gb185) (o := .cells #[.int .i64 a0_0, .bool a0_1] 30 (0, 0)) (gu BK185.out) hb); have n1_ := am (blk_below (g := gb186) (o := .cells #[.int .i64 0, .bool false] 30 (0, 0)) (gu BK186.out) hb); have n2_ := am (below_step (bu HB.out) hb); have n3_ := am (hbox); have n4_ := am ((by rw [hg]; exact (below_size (bu HB.out)) : w.heap.size ≤ gb188)); have n5_ := am ((by rw [hg]; exact (below_size (bu HB.out)) : w.heap.size ≤ gb188)); have n6_ := am ((by rw [hg]; exact Nat.ne_of_lt (blk_lt (g := gb185) (o := .cells #[.int .i64 a0_0, .bool a0_1] 30 (0, 0)) (gu BK185.out)) : gb185 ≠ gb188)); have n7_ := am ((by rw [hg]; exact Nat.ne_of_gt (blk_lt (g := gb185) (o := .cells #[.int .i64 a0_0, .bool a0_1] 30 (0, 0)) (gu BK185.out)) : gb188 ≠ gb185)); have n8_ := am ((by rw [hg]; exact Nat.ne_of_lt (blk_lt (g := gb186) (o := .cells #[.int .i64 0, .bool false] 30 (0, 0)) (gu BK186.out)) : gb186 ≠ gb188)); have n9_ := am ((by rw [hg]; exact Nat.ne_of_gt (blk_lt (g := gb186) (o := .cells #[.int .i64 0, .bool false] 30 (0, 0)) (gu BK186.out)) : gb188 ≠ gb186)); clear BK185; clear BK186; clear HB; have BK185 := n0_; have BK186 := n1_; have HB := n2_; have BK188 := n3_; have GW188 := n4_; have GE188 := n5_; have NB185_188 := n6_; have NB188_185 := n7_; have NB186_188 := n8_; have NB188_186 := n9_; clear n0_ n1_ n2_ n3_ n4_ n5_ n6_ n7_ n8_ n9_; clear hb hbox hg; have hnb27 := NB188_185.out; have hnc27 := NB185_188.out; have hnb28 := NB188_186.out; have hnc28 := NB186_188.out; have hcz29_0 : w26.cell? ⟨gb188, 0, none⟩ = some (.int .i64 0) := (blk_cell BK188.out 0).trans rfl; have hcz29_1 : w26.cell? ⟨gb188, 1, none⟩ = some (.bool false) := (blk_cell BK188.out 1).trans rfl; have hfz29_0 := blk_frozen BK188.out 0; have hfz29_1 := blk_frozen BK188.out 1) | ((with_reducible refine gate_callee (f := 76) rfl ?_); refine goesL_ (some 28) rfl rfl Tryd.func76 (by kernel_rfl) rfl #[.agg #[.int .i64 (wrap64 (a0_0 + a1)), .bool a2]] rfl (by (try simp only [List.map_toArray, List.map_cons, List.map_nil]); first | done | rfl | (simp only [List.length_drop, List.length_take]; rfl)) ?_; (with_reducible refine (impl_Tone_valid.calls (wrap64 (a0_0 + a1)) a2 true _ A22.out).mono ?_); rintro e w30 ⟨rfl, hb⟩; refine ⟨_, rfl, ?_⟩; have n0_ := am (blk_below (g := gb185) (o := .cells #[.int .i64 a0_0, .bool a0_1] 30 (0, 0)) (by (with_reducible repeat (first | refine blk_drewN ?_ _ | refine blk_drew ?_ | refine blk_alloc ?_ _)); refine blk_far ?_ NB185_188.out _; (with_reducible repeat (first | refine blk_drewN ?_ _ | refine blk_drew ?_ | refine blk_alloc ?_ _)); refine blk_far ?_ NB185_188.out _; (with_reducible repeat (first | refine blk_drewN ?_ _ | refine blk_drew ?_ | refine blk_alloc ?_ _)); exact BK185.out) hb); have n1_ := am (blk_below (g := gb186) (o := .cells #[.int .i64 0, .bool false] 30 (0, 0)) (by (with_reducible repeat (first | refine blk_drewN ?_ _ | refine blk_drew ?_ | refine blk_alloc ?_ _)); refine blk_far ?_ NB186_188.out _; (with_reducible repeat (first | refine blk_drewN ?_ _ | refine blk_drew ?_ | refine blk_alloc ?_ _)); refine blk_far ?_ NB186_188.out _; (with_reducible repeat (first | refine blk_drewN ?_ _ | refine blk_drew ?_ | refine blk_alloc ?_ _)); exact BK186.out) hb); have n2_ := am (blk_below (g := gb188) (o := .cells #[.int .i64 (wrap64 (a0_0 + a1)), .bool a2] 30 (0, 0)) (by (with_reducible repeat (first | refine blk_drewN ?_ _ | refine blk_drew ?_ | refine blk_alloc ?_ _)); refine blk_put (cs := #[.int .i64 (wrap64 (a0_0 + a1)), .bool false]) ?_ 1 _ rfl; (with_reducible repeat (first | refine blk_drewN ?_ _ | refine blk_drew ?_ | refine blk_alloc ?_ _)); refine blk_put (cs := #[.int .i64 0, .bool false]) ?_ 0 _ rfl; (with_reducible repeat (first | refine blk_drewN ?_ _ | refine blk_drew ?_ | refine blk_alloc ?_ _)); exact BK188.out) hb); have n3_ := am (below_step (bu HB.out) hb); clear BK185; clear BK186; clear BK188; clear HB; have BK185 := n0_; have BK186 := n1_; have BK188 := n2_; have HB := n3_; clear n0_ n1_ n2_ n3_; (try clear hb); (try clear hb2); (try clear hk); (try clear hi); have hcz31_0 : w30.cell? ⟨gb188, 0, none⟩ = some (.int .i64 (wrap64 (a0_0 + a1))) := (blk_cell BK188.out 0).trans rfl; have hcz31_1 : w30.cell? ⟨gb188, 1, none⟩ = some (.bool a2) := (blk_cell BK188.out 1).trans rfl; have hfz31_0 := blk_frozen BK188.out 0; have hfz31_1 := blk_frozen BK188.out 1; have hcz32_0 : w30.cell? ⟨gb186, 0, none⟩ = some (.int .i64 0) := (blk_cell BK186.out 0).trans rfl; have hcz32_1 : w30.cell? ⟨gb186, 1, none⟩ = some (.bool false) := (blk_cell BK186.out 1).trans rfl; have hfz32_0 := blk_frozen BK186.out 0; have hfz32_1 := blk_frozen BK186.out 1))
     refine bodyPost_ret (results_ct rfl _ _ gb186 30 #[.int .i64 (wrap64 (a0_0 + a1)), .bool a2] (0, 0) _ rfl (by (with_reducible repeat (first | refine blk_drewN ?_ _ | refine blk_drew ?_ | refine blk_alloc ?_ _)); refine blk_put (cs := #[.int .i64 (wrap64 (a0_0 + a1)), .bool false]) ?_ 1 _ rfl; (with_reducible repeat (first | refine blk_drewN ?_ _ | refine blk_drew ?_ | refine blk_alloc ?_ _)); refine blk_put (cs := #[.int .i64 0, .bool false]) ?_ 0 _ rfl; (with_reducible repeat (first | refine blk_drewN ?_ _ | refine blk_drew ?_ | refine blk_alloc ?_ _)); exact BK186.out) Tryd.underlying30 rfl (by kernel_rfl)) rfl ?_
     exact ⟨by first | rfl | (simp [errW_none, errW_some] <;> rfl) | (simp [*, errW_none, errW_some] <;> rfl), bu HB.out⟩
    ·replace c23 := Bool.eq_false_iff.mpr c23
     subst c23
     have H1 : (some (0, false, false)) = some (r1, r2, r3) := by rw [if_neg (show ¬ (false = true) by decide)] at H; exact H
     clear H
     have H := H1
     clear H1
     simp only [Option.some.injEq, Prod.mk.injEq] at H
     obtain ⟨rfl, rfl, rfl⟩ := H
     have hnb33 := NB185_186.out
     have hnc33 := NB186_185.out
     have hcz34_0 : wc.cell? ⟨gb185, 0, none⟩ = some (.int .i64 a0_0) := (blk_cell BK185.out 0).trans rfl
     have hcz34_1 : wc.cell? ⟨gb185, 1, none⟩ = some (.bool a0_1) := (blk_cell BK185.out 1).trans rfl
     have hfz34_0 := blk_frozen BK185.out 0
     have hfz34_1 := blk_frozen BK185.out 1
     go_wp2_with (first | ((with_reducible refine gate_dst (N := 8) rfl ?_); refine box_event ?hg (N := 8) ?hd (cs := #[.int .i64 0, .bool false]) (t := 30) ?hr ?_; (case hd => rfl); (case hg => rfl); (case hr => first | (go_simp; done) | (go_simp; rfl)); intro gb188 hg w35 hbox hb; have n0_ := am (blk_below (g := gb185) (o := .cells #[.int .i64 a0_0, .bool a0_1] 30 (0, 0)) (gu BK185.out) hb); have n1_ := am (blk_below (g := gb186) (o := .cells #[.int .i64 0, .bool false] 30 (0, 0)) (gu BK186.out) hb); have n2_ := am (below_step (bu HB.out) hb); have n3_ := am (hbox); have n4_ := am ((by rw [hg]; exact (below_size (bu HB.out)) : w.heap.size ≤ gb188)); have n5_ := am ((by rw [hg]; exact (below_size (bu HB.out)) : w.heap.size ≤ gb188)); have n6_ := am ((by rw [hg]; exact Nat.ne_of_lt (blk_lt (g := gb185) (o := .cells #[.int .i64 a0_0, .bool a0_1] 30 (0, 0)) (gu BK185.out)) : gb185 ≠ gb188)); have n7_ := am ((by rw [hg]; exact Nat.ne_of_gt (blk_lt (g := gb185) (o := .cells #[.int .i64 a0_0, .bool a0_1] 30 (0, 0)) (gu BK185.out)) : gb188 ≠ gb185)); have n8_ := am ((by rw [hg]; exact Nat.ne_of_lt (blk_lt (g := gb186) (o := .cells #[.int .i64 0, .bool false] 30 (0, 0)) (gu BK186.out)) : gb186 ≠ gb188)); have n9_ := am ((by rw [hg]; exact Nat.ne_of_gt (blk_lt (g := gb186) (o := .cells #[.int .i64 0, .bool false] 30 (0, 0)) (gu BK186.out)) : gb188 ≠ gb186)); clear BK185; clear BK186; clear HB; have BK185 := n0_; have BK186 := n1_; have HB := n2_; have BK188 := n3_; have GW188 := n4_; have GE188 := n5_; have NB185_188 := n6_; have NB188_185 := n7_; have NB186_188 := n8_; have NB188_186 := n9_; clear n0_ n1_ n2_ n3_ n4_ n5_ n6_ n7_ n8_ n9_; clear hb hbox hg; have hnb36 := NB188_185.out; have hnc36 := NB185_188.out; have hnb37 := NB188_186.out; have hnc37 := NB186_188.out; have hcz38_0 : w35.cell? ⟨gb188, 0, none⟩ = some (.int .i64 0) := (blk_cell BK188.out 0).trans rfl; have hcz38_1 : w35.cell? ⟨gb188, 1, none⟩ = some (.bool false) := (blk_cell BK188.out 1).trans rfl; have hfz38_0 := blk_frozen BK188.out 0; have hfz38_1 := blk_frozen BK188.out 1) | ((with_reducible refine gate_callee (f := 76) rfl ?_); refine goesL_ (some 28) rfl rfl Tryd.func76 (by kernel_rfl) rfl #[.agg #[.int .i64 (wrap64 (a0_0 + a1)), .bool a2]] rfl (by (try simp only [List.map_toArray, List.map_cons, List.map_nil]); first | done | rfl | (simp only [List.length_drop, List.length_take]; rfl)) ?_; (with_reducible refine (impl_Tone_valid.calls (wrap64 (a0_0 + a1)) a2 false _ A22.out).mono ?_); rintro e w39 ⟨rfl, hb⟩; refine ⟨_, rfl, ?_⟩; have n0_ := am (blk_below (g := gb185) (o := .cells #[.int .i64 a0_0, .bool a0_1] 30 (0, 0)) (by (with_reducible repeat (first | refine blk_drewN ?_ _ | refine blk_drew ?_ | refine blk_alloc ?_ _)); refine blk_far ?_ NB185_188.out _; (with_reducible repeat (first | refine blk_drewN ?_ _ | refine blk_drew ?_ | refine blk_alloc ?_ _)); refine blk_far ?_ NB185_188.out _; (with_reducible repeat (first | refine blk_drewN ?_ _ | refine blk_drew ?_ | refine blk_alloc ?_ _)); exact BK185.out) hb); have n1_ := am (blk_below (g := gb186) (o := .cells #[.int .i64 0, .bool false] 30 (0, 0)) (by (with_reducible repeat (first | refine blk_drewN ?_ _ | refine blk_drew ?_ | refine blk_alloc ?_ _)); refine blk_far ?_ NB186_188.out _; (with_reducible repeat (first | refine blk_drewN ?_ _ | refine blk_drew ?_ | refine blk_alloc ?_ _)); refine blk_far ?_ NB186_188.out _; (with_reducible repeat (first | refine blk_drewN ?_ _ | refine blk_drew ?_ | refine blk_alloc ?_ _)); exact BK186.out) hb); have n2_ := am (blk_below (g := gb188) (o := .cells #[.int .i64 (wrap64 (a0_0 + a1)), .bool a2] 30 (0, 0)) (by (with_reducible repeat (first | refine blk_drewN ?_ _ | refine blk_drew ?_ | refine blk_alloc ?_ _)); refine blk_put (cs := #[.int .i64 (wrap64 (a0_0 + a1)), .bool false]) ?_ 1 _ rfl; (with_reducible repeat (first | refine blk_drewN ?_ _ | refine blk_drew ?_ | refine blk_alloc ?_ _)); refine blk_put (cs := #[.int .i64 0, .bool false]) ?_ 0 _ rfl; (with_reducible repeat (first | refine blk_drewN ?_ _ | refine blk_drew ?_ | refine blk_alloc ?_ _)); exact BK188.out) hb); have n3_ := am (below_step (bu HB.out) hb); clear BK185; clear BK186; clear BK188; clear HB; have BK185 := n0_; have BK186 := n1_; have BK188 := n2_; have HB := n3_; clear n0_ n1_ n2_ n3_; (try clear hb); (try clear hb2); (try clear hk); (try clear hi); have hcz40_0 : w39.cell? ⟨gb186, 0, none⟩ = some (.int .i64 0) := (blk_cell BK186.out 0).trans rfl; have hcz40_1 : w39.cell? ⟨gb186, 1, none⟩ = some (.bool false) := (blk_cell BK186.out 1).trans rfl; have hfz40_0 := blk_frozen BK186.out 0; have hfz40_1 := blk_frozen BK186.out 1))
     refine bodyPost_ret (results_ct rfl _ _ gb186 30 #[.int .i64 0, .bool false] (0, 0) _ rfl (by (with_reducible repeat (first | refine blk_drewN ?_ _ | refine blk_drew ?_ | refine blk_alloc ?_ _)); refine blk_put (cs := #[.int .i64 0, .bool false]) ?_ 1 _ rfl; (with_reducible repeat (first | refine blk_drewN ?_ _ | refine blk_drew ?_ | refine blk_alloc ?_ _)); refine blk_put (cs := #[.int .i64 0, .bool false]) ?_ 0 _ rfl; (with_reducible repeat (first | refine blk_drewN ?_ _ | refine blk_drew ?_ | refine blk_alloc ?_ _)); exact BK186.out) Tryd.underlying30 rfl (by kernel_rfl)) rfl ?_
     exact ⟨by first | rfl | (simp [errW_none, errW_some] <;> rfl) | (simp [*, errW_none, errW_some] <;> rfl), bu HB.out⟩

/-- A linked melody. -/
def IsList (w : World) : Option Addr → List S30 → Prop
 | p, [] => p = none
 | p, t :: ts => ∃ (g : Nat) (q : Option Addr), p = some ⟨g, 0, none⟩ ∧ w.heap[g]? = some (.cells #[.int .i64 t.f0, .bool t.f1, .pointer q] 137 (0, 0)) ∧ IsList w q ts
theorem IsList.below {w w1 : World} (hb : Below w.heap.size w w1) : ∀ {ts : List S30} {p : Option Addr}, IsList w p ts → IsList w1 p ts
 | [], _, h => h
 | t :: ts, p, h => by
  obtain ⟨g, q, rfl, hg, hr⟩ := h
  refine ⟨g, q, rfl, ?_, IsList.below hb hr⟩
  have hlt : g < w.heap.size := (Array.getElem?_eq_some_iff.1 hg).1
  rw [hb.block g hlt]
  exact hg
theorem rdLk_at (l : List S30) (i : Nat) (h : i < l.length) : rd_T30 l (i : Int) = l[i] := by
 simp [rd_T30, List.getD_eq_getElem?_getD, h]
set_option maxHeartbeats 2000000 in
set_option maxRecDepth 100000 in
theorem linked_any (A0 : Option Addr) (c0 : Nat) (l0 : List S30) (w : World) (hr0 : Kd.C k30 w A0 l0.length l0) (hc0 : l0.length ≤ c0) (hl : l0.length ≤ 100) :
  Calls Tryd.prog 104 #[.slice A0 l0.length c0] w fun e w' => ∃ p, e = .returned (.pointer p) ∧ IsList w' p l0 ∧ Below w.heap.size w w' := by
 have hu1 := Tryd.underlying137
 have hu2 := Tryd.underlying30
 have HR0 := am hr0
 have HC0 := am hc0
 clear hr0 hc0
 go_enter Tryd.func104, Tryd.ntmps104
 go_wp2_with fail
 go_loopg [3, 4] l0.length (fun kq v3 v4 w' => ∃ (i : Nat) (p : Option Addr), v4 = .int .i64 ((i : Int) - 1) ∧ v3 = .pointer p ∧ Aside0 (i ≤ l0.length ∧ kq = i) ∧ Aside0 (IsList w' p (l0.drop i)) ∧ Aside0 (Below w.heap.size w w'))
 case atStart => exact ⟨l0.length, none, rfl, rfl, ⟨Nat.le_refl _, rfl⟩, ⟨by rw [List.drop_eq_nil_of_le (Nat.le_refl _)]; rfl⟩, ⟨Below.refl _ _⟩⟩
 case round =>
  obtain ⟨i, p, rfl, rfl, HI, HL, HB⟩ := hrel
  by_cases h0 : i = 0
  ·subst h0
   go_wp2
   go_ret
   exact ⟨p, rfl, HL.out, HB.out⟩
  ·obtain ⟨j, rfl⟩ : ∃ j, i = j + 1 := ⟨i - 1, by omega⟩
   have hlt : j < l0.length := by have := HI.out.1; omega
   have ej : ((j + 1 : Nat) : Int) - 1 = (j : Int) := by omega
   rw [ej]
   obtain ⟨ad, e1, hx0, hx1⟩ := at_T30 (Kd.C_below HR0.out HB.out) (j : Int) (by omega) (by omega)
   cases e1
   simp only [Int.toNat_natCast] at hx0 hx1
   rw [rdLk_at l0 j hlt] at hx0 hx1
   go_wp2
   go_roundg j
   case measure => have := HI.out; omega
   case rel =>
    refine ⟨j, some ⟨wr.heap.size, 0, none⟩, rfl, rfl, ⟨by have := HI.out.1; omega, rfl⟩, ⟨?_⟩, ⟨below_alloc HB.out _⟩⟩
    rw [List.drop_eq_getElem_cons hlt]
    exact ⟨wr.heap.size, p, rfl, blk_new _ _, IsList.below (below_alloc (Below.refl _ _) _) HL.out⟩


-- INNER impl_linked
end Go.Proofs.YtcndojoghmblaaaDoor.GD
