-- Made by this session's gprint.py out of the translation. Not trusted: Lean checks it.
import Derived.Test.YtcndojoghmblaaaDoorGBx0
import Derived.Test.YtcndojoghmblaaaDoorGBx1
namespace Go.Proofs.YtcndojoghmblaaaDoor.GB
open Go.RowKit Go.Proofs.YtcndojoghmblaaaDoorW.PrintWords Go.Proofs.YtcndojoghmblaaaDoorW.PrintLast Go.Proofs.YtcndojoghmblaaaDoorW.PrintMore
attribute [local go_sem] max2_int min2_int max_two min_two max_three min_three max_four min_four   -- for this text's walks alone
set_option linter.unusedVariables false
set_option linter.unusedSimpArgs false

/-! ### spec_l92Part: function 82 -/
mutual
def spec_l92Part.l0 : Nat → Int → List (S44) → Int → List Int → Int → Option ((List (S44)) × Int)
 | 0, _, _, _, _, _ => none
 | k + 1, x1, x5, x6, x1000, x1001 => if x1 > 0 then (spec_l92Part.j1 k x1 x5 x6 (decide ((x5.length : Int) < 12)) x1000 x1001) else (spec_l92Part.j1 k x1 x5 x6 false x1000 x1001)
def spec_l92Part.j1 : Nat → Int → List (S44) → Int → Bool → List Int → Int → Option ((List (S44)) × Int)
 | 0, _, _, _, _, _, _ => none
 | k + 1, x1, x5, x6, x18, x1000, x1001 => if x18 = true then ((spec_l6Rd_pick.f k x1000 x1001 (mn 3 x1)).bind fun bt113 => ((spec_l1Letter.f x6).bind fun t115 => (if t115 = 2 then ((spec_l6Rd_pick.f k x1000 bt113.2 3).bind fun bt116 => (if x5.length < 5864062014805 then ((spec_l6Rd_pick.f k x1000 bt116.2 5).bind fun bt121 => (spec_l92Part.l0 k (wrap64 (x1 - (wrap64 (1 + bt113.1)))) (x5 ++ [(⟨(⟨x6, (bt116.1 == 0)⟩ : S30), wrap64 (1 + bt113.1)⟩ : S44)]) (mx 1 (mn 16 (wrap64 ((wrap64 (x6 + bt121.1)) - 2)))) x1000 bt121.2)) else (none))) else (if x5.length < 5864062014805 then ((spec_l6Rd_pick.f k x1000 bt113.2 5).bind fun bt126 => (spec_l92Part.l0 k (wrap64 (x1 - (wrap64 (1 + bt113.1)))) (x5 ++ [(⟨(⟨x6, false⟩ : S30), wrap64 (1 + bt113.1)⟩ : S44)]) (mx 1 (mn 16 (wrap64 ((wrap64 (x6 + bt126.1)) - 2)))) x1000 bt126.2)) else (none))))) else (if (x5.length : Int) > 0 then ((spec_l6Rd_pick.f k x1000 x1001 50).bind fun bt128 => (if bt128.1 = 0 then ((some (([0, 4] : List Int) : List Int)).bind fun y130 => ((spec_l6Rd_pick.f k x1000 bt128.2 2).bind fun bt133 => (if 0 ≤ bt133.1 then (if bt133.1 < (y130.length : Int) then (if 0 < (x5.length : Int) then (some ((x5.set (0 : Int).toNat (⟨(⟨(rd_T44 x5 0).f0.f0, (rd_T44 x5 0).f0.f1⟩ : S30), rd y130 bt133.1⟩ : S44)), bt133.2)) else (none)) else (none)) else (none)))) else (if bt128.1 = 1 then (if 0 < (x5.length : Int) then (some ((x5.set (0 : Int).toNat (⟨(⟨21, (rd_T44 x5 0).f0.f1⟩ : S30), (rd_T44 x5 0).f1⟩ : S44)), bt128.2)) else (none)) else (some (x5, bt128.2))))) else (some (x5, x1001)))
end
def spec_l92Part.f (k : Nat) (s0_0 : List Int) (s0_1 : Int) (a1 : Int) : Option ((List (S44)) × Int) := (spec_l6Rd_pick.f k s0_0 s0_1 6).bind fun bt111 => (spec_l92Part.l0 k a1 (([] : List (S44))) (wrap64 (5 + bt111.1)) s0_0 bt111.2)
theorem spec_l92Part.mono_l : ∀ k, (∀ y0 y1 y2 y3 y4, LeO (spec_l92Part.l0 k y0 y1 y2 y3 y4) (spec_l92Part.l0 (k + 1) y0 y1 y2 y3 y4)) ∧ (∀ y0 y1 y2 y3 y4 y5, LeO (spec_l92Part.j1 k y0 y1 y2 y3 y4 y5) (spec_l92Part.j1 (k + 1) y0 y1 y2 y3 y4 y5))
 | 0 => ⟨fun _ _ _ _ _ r h => by simp [spec_l92Part.l0] at h, fun _ _ _ _ _ _ r h => by simp [spec_l92Part.j1] at h⟩
 | k + 1 => by
  obtain ⟨ih0, ih1⟩ := spec_l92Part.mono_l k
  refine ⟨?_, ?_⟩
  ·intro y0 y1 y2 y3 y4
   unfold spec_l92Part.l0
   repeat' first
   | (with_reducible exact ih0 _ _ _ _ _)
   | (with_reducible exact ih1 _ _ _ _ _ _)
   | (with_reducible exact spec_l6Rd_pick.mono _ _ _ _)
   | (with_reducible exact LeO.refl _)
   | (with_reducible exact LeO.none _)
   | (with_reducible refine LeO.ite ?_ ?_)
   | (with_reducible refine LeO.bind ?_ (fun _ => ?_))
   | exact ih0 _ _ _ _ _
   | exact ih1 _ _ _ _ _ _
   | exact spec_l6Rd_pick.mono _ _ _ _
   | exact LeO.none _
   | refine LeO.ite ?_ ?_
   | refine LeO.bind ?_ (fun _ => ?_)
  ·intro y0 y1 y2 y3 y4 y5
   unfold spec_l92Part.j1
   repeat' first
   | (with_reducible exact ih0 _ _ _ _ _)
   | (with_reducible exact ih1 _ _ _ _ _ _)
   | (with_reducible exact spec_l6Rd_pick.mono _ _ _ _)
   | (with_reducible exact LeO.refl _)
   | (with_reducible exact LeO.none _)
   | (with_reducible refine LeO.ite ?_ ?_)
   | (with_reducible refine LeO.bind ?_ (fun _ => ?_))
   | exact ih0 _ _ _ _ _
   | exact ih1 _ _ _ _ _ _
   | exact spec_l6Rd_pick.mono _ _ _ _
   | exact LeO.none _
   | refine LeO.ite ?_ ?_
   | refine LeO.bind ?_ (fun _ => ?_)
theorem spec_l92Part.mono : ∀ a0 a1 a2 k, LeO (spec_l92Part.f k a0 a1 a2) (spec_l92Part.f (k + 1) a0 a1 a2) := by
 intro a0 a1 a2 k
 obtain ⟨ih0, ih1⟩ := spec_l92Part.mono_l k
 unfold spec_l92Part.f
 repeat' first
   | (with_reducible exact ih0 _ _ _ _ _)
   | (with_reducible exact ih1 _ _ _ _ _ _)
   | (with_reducible exact spec_l6Rd_pick.mono _ _ _ _)
   | (with_reducible exact LeO.refl _)
   | (with_reducible exact LeO.none _)
   | (with_reducible refine LeO.ite ?_ ?_)
   | (with_reducible refine LeO.bind ?_ (fun _ => ?_))
   | exact ih0 _ _ _ _ _
   | exact ih1 _ _ _ _ _ _
   | exact spec_l6Rd_pick.mono _ _ _ _
   | exact LeO.none _
   | refine LeO.ite ?_ ?_
   | refine LeO.bind ?_ (fun _ => ?_)
set_option maxHeartbeats 8000000 in
set_option maxRecDepth 100000 in
theorem spec_l92Part.calls (k : Nat) (g : Nat) (s0_0 : List Int) (s0_1 : Int) (a1 : Int) (r1 : List (S44)) (r2 : Int) (w0 w : World) (hI : IsS158 w0 w g s0_0 s0_1) (hB : Below w0.heap.size w0 w) (h : spec_l92Part.f k s0_0 s0_1 a1 = some (r1, r2)) :
  Calls Tryd.prog 82 #[.pointer (some ⟨g, 0, none⟩), .int .i64 a1] w fun e w' => ∃ v0_ : Value, e = .returned (v0_) ∧ Kd.R k44 44 w' w.heap.size (fun _ => True) v0_ r1 ∧ IsS158 w0 w' g s0_0 r2 ∧ Below w0.heap.size w0 w' ∧ KeepBut w w' g none := by
 have hu30 := Tryd.underlying30
 have hu44 := Tryd.underlying44
 have HI0 := Aside0.mk hI
 have HK := Aside0.mk (KeepBut.refl w g none)
 have HL := Aside0.mk hB.size
 clear hI
 have HW0 := Aside0.mk hB.size
 have HB := Aside0.mk hB
 clear hB
 have H : ((spec_l6Rd_pick.f k s0_0 s0_1 6).bind fun bt111 => (spec_l92Part.l0 k a1 (([] : List (S44))) (wrap64 (5 + bt111.1)) s0_0 bt111.2)) = some (r1, r2) := h
 clear h
 obtain ⟨y108, hy108⟩ : ∃ y_ : List (S44), y_ = (([] : List (S44))) := ⟨_, rfl⟩
 replace H : ((spec_l6Rd_pick.f k s0_0 s0_1 6).bind fun bt111 => (spec_l92Part.l0 k a1 y108 (wrap64 (5 + bt111.1)) s0_0 bt111.2)) = some (r1, r2) := by first | (rw [hy108]; with_reducible exact H) | (have H2_ := (Option.bind_some _ _).symm.trans H; rw [hy108]; with_reducible exact H2_) | (have H2_ := (Option.bind_some _ _).symm.trans H; with_reducible exact H2_) | with_reducible exact H | (rw [hy108]; exact H) | exact H
 have Ny108 := Aside0.mk hy108
 clear hy108
 replace H := Option.bind_eq_some_iff.mp H
 obtain ⟨⟨t111, t112⟩, A30, H⟩ := H
 replace H : (spec_l92Part.l0 k a1 y108 (wrap64 (5 + t111)) s0_0 t112) = some (r1, r2) := H
 have A3 := Aside0.mk A30
 clear A30
 have H' := Aside0.mk H
 clear H
 go_enter Tryd.func82, Tryd.ntmps82
 go_wp2_with (first | ((with_reducible refine gate_dst (N := 8) rfl ?_); (try (refine gate_guard (by rfl) ?_; dsimp only)); refine Kd.R_lit k44 _ 44 ?hg (N := 8) ?hd (xs := ([] : List (S44))) (inner := []) (ok := fun _ => True) (okp := fun _ => True) ?hr ?hp (fun _ hk => hk) trivial (Below.refl _ _) (Nat.le_refl _) (by simp) ?_; (case hd => rfl); (case hg => rfl); (case hr => first | (go_simp; done) | (go_simp; rfl)); (case hp => exact (Reps.none _ _)); intro v109 w4 ho5 hb hg_ hnew_; clear hg_ hnew_; (first | rw [← Ny108.out] at ho5 | (simp only [Int.reduceToNat] at ho5; rw [← Ny108.out] at ho5)); have n0_ := Aside0.mk (Kd.R_lower ho5 (keep_size (w := w) (g := g) (row := none) (by repeat (first | (with_reducible first | exact HK.out | apply KeepBut.set_ | apply keep_drewN | apply keep_drew | apply keep_alloc) | exact HK.out)))); have n1_ := Aside0.mk (IsS158.below (by repeat (first | (with_reducible first | exact HI0.out | apply IsS158.alloc | apply IsS158.drewN | apply IsS158.drew | apply IsS158.set_1) | exact HI0.out)) hb); have n2_ := Aside0.mk (KeepBut.trans (by repeat (first | (with_reducible first | exact HK.out | apply KeepBut.set_ | apply keep_drewN | apply keep_drew | apply keep_alloc) | exact HK.out)) (KeepBut.of_below hb g none) (.inl rfl)); have n3_ := Aside0.mk (below_step (by repeat (first | (with_reducible first | exact HB.out | apply below_alloc | apply pw_below_drewN | apply below_drew1 | refine below_set ?_ (IsS158.ge HI0.out)) | exact HB.out)) hb); clear HI0; clear HK; clear HB; have HO110 := n0_; have HI0 := n1_; have HK := n2_; have HB := n3_; clear n0_ n1_ n2_ n3_; clear hb ho5) | ((with_reducible refine gate_callee (f := 83) rfl ?_); refine goesL_ (some 10) rfl rfl Tryd.func83 (by kernel_rfl) rfl #[.pointer (some ⟨g, 0, none⟩), .int .i64 6] rfl (by (try simp only [List.map_toArray, List.map_cons, List.map_nil]); first | done | rfl | (simp only [List.length_drop, List.length_take]; rfl)) ?_; (with_reducible refine (spec_l6Rd_pick.calls k g s0_0 s0_1 6 t111 t112 w0 _ ?side1 ?side2 A3.out).mono ?_); (case side1 => repeat (first | (with_reducible first | exact HI0.out | apply IsS158.alloc | apply IsS158.drewN | apply IsS158.drew | apply IsS158.set_1) | exact HI0.out)); (case side2 => repeat (first | (with_reducible first | exact HB.out | apply below_alloc | apply pw_below_drewN | apply below_drew1 | refine below_set ?_ (IsS158.ge HI0.out)) | exact HB.out)); rintro e w6 ⟨rfl, hi, hb, hk⟩; refine ⟨_, rfl, ?_⟩; have n0_ := Aside0.mk (Kd.R_mono (Kd.R_keep (IsS158.apart (show IsS158 w0 _ g s0_0 s0_1 from by repeat (first | (with_reducible first | exact HI0.out | apply IsS158.alloc | apply IsS158.drewN | apply IsS158.drew | apply IsS158.set_1) | exact HI0.out)) (ru HO110.out) (by decide)) hk (fun _ h => h.2)) (fun _ h => h.1)); have n1_ := Aside0.mk (KeepBut.trans (by repeat (first | (with_reducible first | exact HK.out | apply KeepBut.set_ | apply keep_drewN | apply keep_drew | apply keep_alloc) | exact HK.out)) hk (.inl rfl)); have n2_ := Aside0.mk (hb); have n3_ := Aside0.mk (hi); clear HO110; clear HK; clear HB; clear HI0; have HO110 := n0_; have HK := n1_; have HB := n2_; have HI0 := n3_; clear n0_ n1_ n2_ n3_; (try clear hb); (try clear hb2); (try clear hk); (try clear hi)))
 go_loopg [1, 5, 6] k (fun kq v1 v5 v6 w' => ∃ (x1_1 : Int) (x5_1 : List (S44)) (x6_1 : Int) (x1001_1 : Int), v1 = .int .i64 x1_1 ∧ v6 = .int .i64 x6_1 ∧ Aside0 (spec_l92Part.l0 kq x1_1 x5_1 x6_1 s0_0 x1001_1 = some (r1, r2)) ∧ Aside0 (kq ≤ k) ∧ Aside0 (Kd.R k44 44 w' w.heap.size (fun _ => True) v5 x5_1) ∧ Aside0 (IsS158 w0 w' g s0_0 x1001_1) ∧ Aside0 (KeepBut w w' g none) ∧ Aside0 (Below w0.heap.size w0 w'))
 case atStart => exact ⟨(a1), (y108), (wrap64 (5 + t111)), (t112), (by first | rfl | (simp; done) | (simp [*]; done)), (by first | rfl | (simp; done) | (simp [*]; done)), H', ⟨Nat.le_refl _⟩, ⟨ru HO110.out⟩, ⟨by repeat (first | (with_reducible first | exact HI0.out | apply IsS158.alloc | apply IsS158.drewN | apply IsS158.drew | apply IsS158.set_1) | exact HI0.out)⟩, ⟨by repeat (first | (with_reducible first | exact HK.out | apply KeepBut.set_ | apply keep_drewN | apply keep_drew | apply keep_alloc) | exact HK.out)⟩, ⟨by repeat (first | (with_reducible first | exact HB.out | apply below_alloc | apply pw_below_drewN | apply below_drew1 | refine below_set ?_ (IsS158.ge HI0.out)) | exact HB.out)⟩⟩
 case round =>
  clear H'
  try clear p2
  try clear p6
  obtain ⟨x1_1, x5_1, x6_1, x1001_1, rfl, rfl, HA, HK1, HO_5, HI0, HK, HB⟩ := hrel
  cases gk with
  | zero => exact absurd HA.out (by simp [spec_l92Part.l0])
  | succ k1 =>
   have H := HA.out
   clear HA
   simp only [spec_l92Part.l0] at H
   have HC7 := Aside0.mk H
   clear H
   go_upto_region 3 with (fail)
   go_cut [18] (fun v18 wc => ∃ (kq : Nat) (x18_6 : Bool), v18 = .bool x18_6 ∧ Aside0 (spec_l92Part.j1 kq x1_1 x5_1 x6_1 x18_6 s0_0 x1001_1 = some (r1, r2)) ∧ Aside0 (kq ≤ k1) ∧ Aside0 (Kd.R k44 44 wc w.heap.size (fun _ => True) u5 x5_1) ∧ Aside0 (IsS158 w0 wc g s0_0 x1001_1) ∧ Aside0 (KeepBut w wc g none) ∧ Aside0 (Below w0.heap.size w0 wc))
   case first =>
    have H := HC7.out
    clear HC7
    by_cases c8 : x1_1 > 0
    ·rw [if_pos c8] at H
     have c8b0 : decide (0 < x1_1) = true := decide_eq_true c8
     clear c8
     (first | rw [c8b0] | (simp only [i64_w, i32_w]; rw [c8b0]) | skip)
     have H' := Aside0.mk H
     clear H
     obtain ⟨Ao9, co9, eo9⟩ := Kd.R_slice HO_5.out
     subst eo9
     go_wp2
     go_meet
     case rel => exact ⟨_, (decide ((x5_1.length : Int) < 12)), (by first | rfl | (simp; done) | (simp [*]; done)), H', ⟨by have := HK1.out; first | omega | exact Nat.le_refl _⟩, ⟨ru HO_5.out⟩, ⟨by repeat (first | (with_reducible first | exact HI0.out | apply IsS158.alloc | apply IsS158.drewN | apply IsS158.drew | apply IsS158.set_1) | exact HI0.out)⟩, ⟨by repeat (first | (with_reducible first | exact HK.out | apply KeepBut.set_ | apply keep_drewN | apply keep_drew | apply keep_alloc) | exact HK.out)⟩, ⟨by repeat (first | (with_reducible first | exact HB.out | apply below_alloc | apply pw_below_drewN | apply below_drew1 | refine below_set ?_ (IsS158.ge HI0.out)) | exact HB.out)⟩⟩
    ·rw [if_neg c8] at H
     have c8b0 : decide (0 < x1_1) = false := decide_eq_false c8
     clear c8
     (first | rw [c8b0] | (simp only [i64_w, i32_w]; rw [c8b0]) | skip)
     have H' := Aside0.mk H
     clear H
     go_wp2
     go_meet
     case rel => exact ⟨_, (false), (by first | rfl | (simp; done) | (simp [*]; done)), H', ⟨by have := HK1.out; first | omega | exact Nat.le_refl _⟩, ⟨ru HO_5.out⟩, ⟨by repeat (first | (with_reducible first | exact HI0.out | apply IsS158.alloc | apply IsS158.drewN | apply IsS158.drew | apply IsS158.set_1) | exact HI0.out)⟩, ⟨by repeat (first | (with_reducible first | exact HK.out | apply KeepBut.set_ | apply keep_drewN | apply keep_drew | apply keep_alloc) | exact HK.out)⟩, ⟨by repeat (first | (with_reducible first | exact HB.out | apply below_alloc | apply pw_below_drewN | apply below_drew1 | refine below_set ?_ (IsS158.ge HI0.out)) | exact HB.out)⟩⟩
   case rest =>
    clear HC7
    try clear p2
    try clear p6
    try clear c8
    try clear c8b0
    try clear p2
    try clear p6
    obtain ⟨kq, x18_6, rfl, HA, HJ6, HO_5, HI0, HK, HB⟩ := hcut
    cases kq with
    | zero => exact absurd HA.out (by simp [spec_l92Part.j1])
    | succ kj6 =>
     have H := HA.out
     clear HA
     simp only [spec_l92Part.j1] at H
     by_cases c10 : x18_6 = true
     ·subst c10
      have H1 : ((spec_l6Rd_pick.f kj6 s0_0 x1001_1 (mn 3 x1_1)).bind fun bt113 => ((spec_l1Letter.f x6_1).bind fun t115 => (if t115 = 2 then ((spec_l6Rd_pick.f kj6 s0_0 bt113.2 3).bind fun bt116 => (if x5_1.length < 5864062014805 then ((spec_l6Rd_pick.f kj6 s0_0 bt116.2 5).bind fun bt121 => (spec_l92Part.l0 kj6 (wrap64 (x1_1 - (wrap64 (1 + bt113.1)))) (x5_1 ++ [(⟨(⟨x6_1, (bt116.1 == 0)⟩ : S30), wrap64 (1 + bt113.1)⟩ : S44)]) (mx 1 (mn 16 (wrap64 ((wrap64 (x6_1 + bt121.1)) - 2)))) s0_0 bt121.2)) else (none))) else (if x5_1.length < 5864062014805 then ((spec_l6Rd_pick.f kj6 s0_0 bt113.2 5).bind fun bt126 => (spec_l92Part.l0 kj6 (wrap64 (x1_1 - (wrap64 (1 + bt113.1)))) (x5_1 ++ [(⟨(⟨x6_1, false⟩ : S30), wrap64 (1 + bt113.1)⟩ : S44)]) (mx 1 (mn 16 (wrap64 ((wrap64 (x6_1 + bt126.1)) - 2)))) s0_0 bt126.2)) else (none))))) = some (r1, r2) := by rw [if_pos rfl] at H; exact H
      clear H
      have H := H1
      clear H1
      obtain ⟨ji11, hji11⟩ : ∃ j_ : Int, (mn 3 x1_1) = j_ := ⟨_, rfl⟩
      replace H : ((spec_l6Rd_pick.f kj6 s0_0 x1001_1 (ji11)).bind fun bt113 => ((spec_l1Letter.f x6_1).bind fun t115 => (if t115 = 2 then ((spec_l6Rd_pick.f kj6 s0_0 bt113.2 3).bind fun bt116 => (if x5_1.length < 5864062014805 then ((spec_l6Rd_pick.f kj6 s0_0 bt116.2 5).bind fun bt121 => (spec_l92Part.l0 kj6 (wrap64 (x1_1 - (wrap64 (1 + bt113.1)))) (x5_1 ++ [(⟨(⟨x6_1, (bt116.1 == 0)⟩ : S30), wrap64 (1 + bt113.1)⟩ : S44)]) (mx 1 (mn 16 (wrap64 ((wrap64 (x6_1 + bt121.1)) - 2)))) s0_0 bt121.2)) else (none))) else (if x5_1.length < 5864062014805 then ((spec_l6Rd_pick.f kj6 s0_0 bt113.2 5).bind fun bt126 => (spec_l92Part.l0 kj6 (wrap64 (x1_1 - (wrap64 (1 + bt113.1)))) (x5_1 ++ [(⟨(⟨x6_1, false⟩ : S30), wrap64 (1 + bt113.1)⟩ : S44)]) (mx 1 (mn 16 (wrap64 ((wrap64 (x6_1 + bt126.1)) - 2)))) s0_0 bt126.2)) else (none))))) = some (r1, r2) := by first | (rw [hji11] at H; exact H) | (simp only [hji11] at H ⊢; exact H)
      have hji11_ : (if x1_1 < 3 then x1_1 else 3) = ji11 := hji11
      replace H := Option.bind_eq_some_iff.mp H
      obtain ⟨⟨t113, t114⟩, A120, H⟩ := H
      replace H : ((spec_l1Letter.f x6_1).bind fun t115 => (if t115 = 2 then ((spec_l6Rd_pick.f kj6 s0_0 t114 3).bind fun bt116 => (if x5_1.length < 5864062014805 then ((spec_l6Rd_pick.f kj6 s0_0 bt116.2 5).bind fun bt121 => (spec_l92Part.l0 kj6 (wrap64 (x1_1 - (wrap64 (1 + t113)))) (x5_1 ++ [(⟨(⟨x6_1, (bt116.1 == 0)⟩ : S30), wrap64 (1 + t113)⟩ : S44)]) (mx 1 (mn 16 (wrap64 ((wrap64 (x6_1 + bt121.1)) - 2)))) s0_0 bt121.2)) else (none))) else (if x5_1.length < 5864062014805 then ((spec_l6Rd_pick.f kj6 s0_0 t114 5).bind fun bt126 => (spec_l92Part.l0 kj6 (wrap64 (x1_1 - (wrap64 (1 + t113)))) (x5_1 ++ [(⟨(⟨x6_1, false⟩ : S30), wrap64 (1 + t113)⟩ : S44)]) (mx 1 (mn 16 (wrap64 ((wrap64 (x6_1 + bt126.1)) - 2)))) s0_0 bt126.2)) else (none)))) = some (r1, r2) := H
      have A12 := Aside0.mk A120
      clear A120
      replace H := Option.bind_eq_some_iff.mp H
      obtain ⟨t115, A130, H⟩ := H
      replace H : (if t115 = 2 then ((spec_l6Rd_pick.f kj6 s0_0 t114 3).bind fun bt116 => (if x5_1.length < 5864062014805 then ((spec_l6Rd_pick.f kj6 s0_0 bt116.2 5).bind fun bt121 => (spec_l92Part.l0 kj6 (wrap64 (x1_1 - (wrap64 (1 + t113)))) (x5_1 ++ [(⟨(⟨x6_1, (bt116.1 == 0)⟩ : S30), wrap64 (1 + t113)⟩ : S44)]) (mx 1 (mn 16 (wrap64 ((wrap64 (x6_1 + bt121.1)) - 2)))) s0_0 bt121.2)) else (none))) else (if x5_1.length < 5864062014805 then ((spec_l6Rd_pick.f kj6 s0_0 t114 5).bind fun bt126 => (spec_l92Part.l0 kj6 (wrap64 (x1_1 - (wrap64 (1 + t113)))) (x5_1 ++ [(⟨(⟨x6_1, false⟩ : S30), wrap64 (1 + t113)⟩ : S44)]) (mx 1 (mn 16 (wrap64 ((wrap64 (x6_1 + bt126.1)) - 2)))) s0_0 bt126.2)) else (none))) = some (r1, r2) := H
      have A13 := Aside0.mk A130
      clear A130
      by_cases c14 : t115 = 2
      ·rw [if_pos c14] at H
       have c14b0 : (t115 == 2) = true := beq_iff_eq.mpr c14
       have c14b1 : (t115 != 2) = false := bne_eq_false_iff_eq.mpr c14
       clear c14
       replace H := Option.bind_eq_some_iff.mp H
       obtain ⟨⟨t116, t117⟩, A150, H⟩ := H
       replace H : (if x5_1.length < 5864062014805 then ((spec_l6Rd_pick.f kj6 s0_0 t117 5).bind fun bt121 => (spec_l92Part.l0 kj6 (wrap64 (x1_1 - (wrap64 (1 + t113)))) (x5_1 ++ [(⟨(⟨x6_1, (t116 == 0)⟩ : S30), wrap64 (1 + t113)⟩ : S44)]) (mx 1 (mn 16 (wrap64 ((wrap64 (x6_1 + bt121.1)) - 2)))) s0_0 bt121.2)) else (none)) = some (r1, r2) := H
       have A15 := Aside0.mk A150
       clear A150
       by_cases c16 : x5_1.length < 5864062014805
       ·rw [if_pos c16] at H
        have LMc16 := Aside0.mk c16
        clear c16
        obtain ⟨y118, hy118⟩ : ∃ y_ : List (S44), y_ = (x5_1 ++ [(⟨(⟨x6_1, (t116 == 0)⟩ : S30), wrap64 (1 + t113)⟩ : S44)]) := ⟨_, rfl⟩
        replace H : ((spec_l6Rd_pick.f kj6 s0_0 t117 5).bind fun bt121 => (spec_l92Part.l0 kj6 (wrap64 (x1_1 - (wrap64 (1 + t113)))) y118 (mx 1 (mn 16 (wrap64 ((wrap64 (x6_1 + bt121.1)) - 2)))) s0_0 bt121.2)) = some (r1, r2) := by first | (rw [hy118]; with_reducible exact H) | (have H2_ := (Option.bind_some _ _).symm.trans H; rw [hy118]; with_reducible exact H2_) | (have H2_ := (Option.bind_some _ _).symm.trans H; with_reducible exact H2_) | with_reducible exact H | (rw [hy118]; exact H) | exact H
        have Ny118 := Aside0.mk hy118
        clear hy118
        replace H := Option.bind_eq_some_iff.mp H
        obtain ⟨⟨t121, t122⟩, A170, H⟩ := H
        replace H : (spec_l92Part.l0 kj6 (wrap64 (x1_1 - (wrap64 (1 + t113)))) y118 (mx 1 (mn 16 (wrap64 ((wrap64 (x6_1 + t121)) - 2)))) s0_0 t122) = some (r1, r2) := H
        have A17 := Aside0.mk A170
        clear A170
        obtain ⟨ji18, hji18⟩ : ∃ j_ : Int, (mn 16 (wrap64 ((wrap64 (x6_1 + t121)) - 2))) = j_ := ⟨_, rfl⟩
        replace H : (spec_l92Part.l0 kj6 (wrap64 (x1_1 - (wrap64 (1 + t113)))) y118 (mx 1 (ji18)) s0_0 t122) = some (r1, r2) := by first | (rw [hji18] at H; exact H) | (simp only [hji18] at H ⊢; exact H)
        (try rw [hji18] at A12)
        (try rw [hji18] at A13)
        (try rw [hji18] at A15)
        (try rw [hji18] at A17)
        have hji18_ : (if (wrap64 ((wrap64 (x6_1 + t121)) - 2)) < 16 then (wrap64 ((wrap64 (x6_1 + t121)) - 2)) else 16) = ji18 := hji18
        obtain ⟨ji19, hji19⟩ : ∃ j_ : Int, (mx 1 (ji18)) = j_ := ⟨_, rfl⟩
        replace H : (spec_l92Part.l0 kj6 (wrap64 (x1_1 - (wrap64 (1 + t113)))) y118 ji19 s0_0 t122) = some (r1, r2) := by first | (rw [hji19] at H; exact H) | (simp only [hji19] at H ⊢; exact H)
        (try rw [hji19] at A12)
        (try rw [hji19] at A13)
        (try rw [hji19] at A15)
        (try rw [hji19] at A17)
        have hji19_ : (if 1 < (ji18) then (ji18) else 1) = ji19 := hji19
        have H' := Aside0.mk H
        clear H
        go_wp2_with (first | ((with_reducible refine gate_callee (f := 83) rfl ?_); refine goesL_ (some 22) rfl rfl Tryd.func83 (by kernel_rfl) rfl #[.pointer (some ⟨g, 0, none⟩), .int .i64 ji11] rfl (by (try simp only [List.map_toArray, List.map_cons, List.map_nil]); first | done | (simp only [hji11]; rfl) | rfl | (simp only [List.length_drop, List.length_take]; rfl)) ?_; (with_reducible refine (spec_l6Rd_pick.calls kj6 g s0_0 x1001_1 ji11 t113 t114 w0 _ ?side1 ?side2 A12.out).mono ?_); (case side1 => repeat (first | (with_reducible first | exact HI0.out | apply IsS158.alloc | apply IsS158.drewN | apply IsS158.drew | apply IsS158.set_1) | exact HI0.out)); (case side2 => repeat (first | (with_reducible first | exact HB.out | apply below_alloc | apply pw_below_drewN | apply below_drew1 | refine below_set ?_ (IsS158.ge HI0.out)) | exact HB.out)); rintro e w20 ⟨rfl, hi, hb, hk⟩; refine ⟨_, rfl, ?_⟩; have n0_ := Aside0.mk (Kd.R_mono (Kd.R_keep (IsS158.apart (show IsS158 w0 _ g s0_0 x1001_1 from by repeat (first | (with_reducible first | exact HI0.out | apply IsS158.alloc | apply IsS158.drewN | apply IsS158.drew | apply IsS158.set_1) | exact HI0.out)) (ru HO_5.out) (by decide)) hk (fun _ h => h.2)) (fun _ h => h.1)); have n1_ := Aside0.mk (KeepBut.trans (by repeat (first | (with_reducible first | exact HK.out | apply KeepBut.set_ | apply keep_drewN | apply keep_drew | apply keep_alloc) | exact HK.out)) hk (.inl rfl)); have n2_ := Aside0.mk (hb); have n3_ := Aside0.mk (hi); clear HO_5; clear HK; clear HB; clear HI0; have HO_5 := n0_; have HK := n1_; have HB := n2_; have HI0 := n3_; clear n0_ n1_ n2_ n3_; (try clear hb); (try clear hb2); (try clear hk); (try clear hi)) | ((with_reducible refine gate_callee (f := 129) rfl ?_); refine goesL_ (some 27) rfl rfl Tryd.func129 (by kernel_rfl) rfl #[.int .i64 x6_1] rfl (by (try simp only [List.map_toArray, List.map_cons, List.map_nil]); first | done | rfl | (simp only [List.length_drop, List.length_take]; rfl)) ?_; (with_reducible refine (spec_l1Letter.calls x6_1 t115 _ A13.out).mono ?_); rintro e w' ⟨rfl, ⟨nd, rfl⟩⟩; refine ⟨_, rfl, ?_⟩) | (go_at_call 83; (with_reducible refine (spec_l6Rd_pick.calls kj6 g s0_0 t114 3 t116 t117 w0 _ ?side1 ?side2 A15.out).mono ?_); (case side1 => repeat (first | (with_reducible first | exact HI0.out | apply IsS158.alloc | apply IsS158.drewN | apply IsS158.drew | apply IsS158.set_1) | exact HI0.out)); (case side2 => repeat (first | (with_reducible first | exact HB.out | apply below_alloc | apply pw_below_drewN | apply below_drew1 | refine below_set ?_ (IsS158.ge HI0.out)) | exact HB.out)); rintro e w21 ⟨rfl, hi, hb, hk⟩; have n0_ := Aside0.mk (Kd.R_mono (Kd.R_keep (IsS158.apart (show IsS158 w0 _ g s0_0 t114 from by repeat (first | (with_reducible first | exact HI0.out | apply IsS158.alloc | apply IsS158.drewN | apply IsS158.drew | apply IsS158.set_1) | exact HI0.out)) (ru HO_5.out) (by decide)) hk (fun _ h => h.2)) (fun _ h => h.1)); have n1_ := Aside0.mk (KeepBut.trans (by repeat (first | (with_reducible first | exact HK.out | apply KeepBut.set_ | apply keep_drewN | apply keep_drew | apply keep_alloc) | exact HK.out)) hk (.inl rfl)); have n2_ := Aside0.mk (hb); have n3_ := Aside0.mk (hi); clear HO_5; clear HK; clear HB; clear HI0; have HO_5 := n0_; have HK := n1_; have HB := n2_; have HI0 := n3_; clear n0_ n1_ n2_ n3_; (try clear hb); (try clear hb2); (try clear hk); (try clear hi)) | ((with_reducible refine gate_builtin (b := .append) (xs := #[.tmp 24, .tmp 37]) rfl ?_); (try (refine gate_guard (by rfl) ?_; dsimp only)); at_builtin; refine Kd.R_append k44 w.heap.size rfl (.tmp 24) (.tmp 37) 23 44 (.agg #[(.int .i64 0), (.bool false), (.int .i64 0)]) 24 rfl Tryd.underlying23 info44 rfl (by decide) (by omega) u5 x5_1 (⟨(⟨x6_1, (t116 == 0)⟩ : S30), wrap64 (1 + t113)⟩ : S44) [.int .i64 x6_1, .bool (t116 == 0), .int .i64 (wrap64 (1 + t113))] (fun _ => True) (fun _ => False) rfl rfl ?aP (fun _ hk => hk.elim) ?aF ?aO (Below.refl _ _) ?aS ?aL ?_; (case aP => exact k44_mkM _ _ _ (⟨(⟨x6_1, (t116 == 0)⟩ : S30), wrap64 (1 + t113)⟩ : S44)); (case aF => exact (fun _ _ => trivial)); (case aO => exact (ru HO_5.out)); (case aS => exact (keep_size (w := w) (g := g) (row := none) (by repeat (first | (with_reducible first | exact HK.out | apply KeepBut.set_ | apply keep_drewN | apply keep_drew | apply keep_alloc) | exact HK.out)))); (case aL => have := LMc16.out; omega); intro v119 w22 ho hb hg hat; rw [← Ny118.out] at ho; have n0_ := Aside0.mk (IsS158.grown (by repeat (first | (with_reducible first | exact HI0.out | apply IsS158.alloc | apply IsS158.drewN | apply IsS158.drew | apply IsS158.set_1) | exact HI0.out)) hg (IsS158.own_ne HI0.out HO_5.out (by decide))); have n1_ := Aside0.mk (below_weaken (by repeat (first | (with_reducible first | exact HB.out | apply below_alloc | apply pw_below_drewN | apply below_drew1 | refine below_set ?_ (IsS158.ge HI0.out)) | exact HB.out)) HL.out hb); have n2_ := Aside0.mk (KeepBut.trans (by repeat (first | (with_reducible first | exact HK.out | apply KeepBut.set_ | apply keep_drewN | apply keep_drew | apply keep_alloc) | exact HK.out)) (KeepBut.of_grown hg g) (Kd.R_base2 HO_5.out)); have n3_ := Aside0.mk (ho); clear HI0; clear HB; clear HK; clear HO_5; have HI0 := n0_; have HB := n1_; have HK := n2_; have HO120 := n3_; clear n0_ n1_ n2_ n3_; clear ho hb hg hat) | ((with_reducible refine gate_callee (f := 83) rfl ?_); refine goesL_ (some 44) rfl rfl Tryd.func83 (by kernel_rfl) rfl #[.pointer (some ⟨g, 0, none⟩), .int .i64 5] rfl (by (try simp only [List.map_toArray, List.map_cons, List.map_nil]); first | done | rfl | (simp only [List.length_drop, List.length_take]; rfl)) ?_; (with_reducible refine (spec_l6Rd_pick.calls kj6 g s0_0 t117 5 t121 t122 w0 _ ?side1 ?side2 A17.out).mono ?_); (case side1 => repeat (first | (with_reducible first | exact HI0.out | apply IsS158.alloc | apply IsS158.drewN | apply IsS158.drew | apply IsS158.set_1) | exact HI0.out)); (case side2 => repeat (first | (with_reducible first | exact HB.out | apply below_alloc | apply pw_below_drewN | apply below_drew1 | refine below_set ?_ (IsS158.ge HI0.out)) | exact HB.out)); rintro e w23 ⟨rfl, hi, hb, hk⟩; refine ⟨_, rfl, ?_⟩; have n0_ := Aside0.mk (Kd.R_mono (Kd.R_keep (IsS158.apart (show IsS158 w0 _ g s0_0 t117 from by repeat (first | (with_reducible first | exact HI0.out | apply IsS158.alloc | apply IsS158.drewN | apply IsS158.drew | apply IsS158.set_1) | exact HI0.out)) (ru HO120.out) (by decide)) hk (fun _ h => h.2)) (fun _ h => h.1)); have n1_ := Aside0.mk (KeepBut.trans (by repeat (first | (with_reducible first | exact HK.out | apply KeepBut.set_ | apply keep_drewN | apply keep_drew | apply keep_alloc) | exact HK.out)) hk (.inl rfl)); have n2_ := Aside0.mk (hb); have n3_ := Aside0.mk (hi); clear HO120; clear HK; clear HB; clear HI0; have HO120 := n0_; have HK := n1_; have HB := n2_; have HI0 := n3_; clear n0_ n1_ n2_ n3_; (try clear hb); (try clear hb2); (try clear hk); (try clear hi)))
        go_roundg kj6
        case measure => have := HK1.out; have := HJ6.out; omega
        case rel => exact ⟨(wrap64 (x1_1 - (wrap64 (1 + t113)))), (y118), (ji19), (t122), (by first | rfl | (simp; done) | (simp [*]; done)), (by first | rfl | (simp; done) | (simp only [← hji19] <;> (first | rfl | simp)) | (simp [*]; done)), H', ⟨by have := HK1.out; have := HJ6.out; omega⟩, ⟨ru HO120.out⟩, ⟨by repeat (first | (with_reducible first | exact HI0.out | apply IsS158.alloc | apply IsS158.drewN | apply IsS158.drew | apply IsS158.set_1) | exact HI0.out)⟩, ⟨by repeat (first | (with_reducible first | exact HK.out | apply KeepBut.set_ | apply keep_drewN | apply keep_drew | apply keep_alloc) | exact HK.out)⟩, ⟨by repeat (first | (with_reducible first | exact HB.out | apply below_alloc | apply pw_below_drewN | apply below_drew1 | refine below_set ?_ (IsS158.ge HI0.out)) | exact HB.out)⟩⟩
       ·rw [if_neg c16] at H
        exact absurd H (by simp)
      ·rw [if_neg c14] at H
       have c14b0 : (t115 == 2) = false := beq_eq_false_iff_ne.mpr c14
       have c14b1 : (t115 != 2) = true := bne_iff_ne.mpr c14
       by_cases c24 : x5_1.length < 5864062014805
       ·rw [if_pos c24] at H
        have LMc24 := Aside0.mk c24
        clear c24
        obtain ⟨y123, hy123⟩ : ∃ y_ : List (S44), y_ = (x5_1 ++ [(⟨(⟨x6_1, false⟩ : S30), wrap64 (1 + t113)⟩ : S44)]) := ⟨_, rfl⟩
        replace H : ((spec_l6Rd_pick.f kj6 s0_0 t114 5).bind fun bt126 => (spec_l92Part.l0 kj6 (wrap64 (x1_1 - (wrap64 (1 + t113)))) y123 (mx 1 (mn 16 (wrap64 ((wrap64 (x6_1 + bt126.1)) - 2)))) s0_0 bt126.2)) = some (r1, r2) := by first | (rw [hy123]; with_reducible exact H) | (have H2_ := (Option.bind_some _ _).symm.trans H; rw [hy123]; with_reducible exact H2_) | (have H2_ := (Option.bind_some _ _).symm.trans H; with_reducible exact H2_) | with_reducible exact H | (rw [hy123]; exact H) | exact H
        have Ny123 := Aside0.mk hy123
        clear hy123
        replace H := Option.bind_eq_some_iff.mp H
        obtain ⟨⟨t126, t127⟩, A250, H⟩ := H
        replace H : (spec_l92Part.l0 kj6 (wrap64 (x1_1 - (wrap64 (1 + t113)))) y123 (mx 1 (mn 16 (wrap64 ((wrap64 (x6_1 + t126)) - 2)))) s0_0 t127) = some (r1, r2) := H
        have A25 := Aside0.mk A250
        clear A250
        obtain ⟨ji26, hji26⟩ : ∃ j_ : Int, (mn 16 (wrap64 ((wrap64 (x6_1 + t126)) - 2))) = j_ := ⟨_, rfl⟩
        replace H : (spec_l92Part.l0 kj6 (wrap64 (x1_1 - (wrap64 (1 + t113)))) y123 (mx 1 (ji26)) s0_0 t127) = some (r1, r2) := by first | (rw [hji26] at H; exact H) | (simp only [hji26] at H ⊢; exact H)
        (try rw [hji26] at A12)
        (try rw [hji26] at A13)
        (try rw [hji26] at A25)
        have hji26_ : (if (wrap64 ((wrap64 (x6_1 + t126)) - 2)) < 16 then (wrap64 ((wrap64 (x6_1 + t126)) - 2)) else 16) = ji26 := hji26
        obtain ⟨ji27, hji27⟩ : ∃ j_ : Int, (mx 1 (ji26)) = j_ := ⟨_, rfl⟩
        replace H : (spec_l92Part.l0 kj6 (wrap64 (x1_1 - (wrap64 (1 + t113)))) y123 ji27 s0_0 t127) = some (r1, r2) := by first | (rw [hji27] at H; exact H) | (simp only [hji27] at H ⊢; exact H)
        (try rw [hji27] at A12)
        (try rw [hji27] at A13)
        (try rw [hji27] at A25)
        have hji27_ : (if 1 < (ji26) then (ji26) else 1) = ji27 := hji27
        have H' := Aside0.mk H
        clear H
        go_wp2_with (first | ((with_reducible refine gate_callee (f := 83) rfl ?_); refine goesL_ (some 22) rfl rfl Tryd.func83 (by kernel_rfl) rfl #[.pointer (some ⟨g, 0, none⟩), .int .i64 ji11] rfl (by (try simp only [List.map_toArray, List.map_cons, List.map_nil]); first | done | (simp only [hji11]; rfl) | rfl | (simp only [List.length_drop, List.length_take]; rfl)) ?_; (with_reducible refine (spec_l6Rd_pick.calls kj6 g s0_0 x1001_1 ji11 t113 t114 w0 _ ?side1 ?side2 A12.out).mono ?_); (case side1 => repeat (first | (with_reducible first | exact HI0.out | apply IsS158.alloc | apply IsS158.drewN | apply IsS158.drew | apply IsS158.set_1) | exact HI0.out)); (case side2 => repeat (first | (with_reducible first | exact HB.out | apply below_alloc | apply pw_below_drewN | apply below_drew1 | refine below_set ?_ (IsS158.ge HI0.out)) | exact HB.out)); rintro e w28 ⟨rfl, hi, hb, hk⟩; refine ⟨_, rfl, ?_⟩; have n0_ := Aside0.mk (Kd.R_mono (Kd.R_keep (IsS158.apart (show IsS158 w0 _ g s0_0 x1001_1 from by repeat (first | (with_reducible first | exact HI0.out | apply IsS158.alloc | apply IsS158.drewN | apply IsS158.drew | apply IsS158.set_1) | exact HI0.out)) (ru HO_5.out) (by decide)) hk (fun _ h => h.2)) (fun _ h => h.1)); have n1_ := Aside0.mk (KeepBut.trans (by repeat (first | (with_reducible first | exact HK.out | apply KeepBut.set_ | apply keep_drewN | apply keep_drew | apply keep_alloc) | exact HK.out)) hk (.inl rfl)); have n2_ := Aside0.mk (hb); have n3_ := Aside0.mk (hi); clear HO_5; clear HK; clear HB; clear HI0; have HO_5 := n0_; have HK := n1_; have HB := n2_; have HI0 := n3_; clear n0_ n1_ n2_ n3_; (try clear hb); (try clear hb2); (try clear hk); (try clear hi)) | ((with_reducible refine gate_callee (f := 129) rfl ?_); refine goesL_ (some 27) rfl rfl Tryd.func129 (by kernel_rfl) rfl #[.int .i64 x6_1] rfl (by (try simp only [List.map_toArray, List.map_cons, List.map_nil]); first | done | rfl | (simp only [List.length_drop, List.length_take]; rfl)) ?_; (with_reducible refine (spec_l1Letter.calls x6_1 t115 _ A13.out).mono ?_); rintro e w' ⟨rfl, ⟨nd, rfl⟩⟩; refine ⟨_, rfl, ?_⟩) | ((with_reducible refine gate_builtin (b := .append) (xs := #[.tmp 24, .tmp 37]) rfl ?_); (try (refine gate_guard (by rfl) ?_; dsimp only)); at_builtin; refine Kd.R_append k44 w.heap.size rfl (.tmp 24) (.tmp 37) 23 44 (.agg #[(.int .i64 0), (.bool false), (.int .i64 0)]) 24 rfl Tryd.underlying23 info44 rfl (by decide) (by omega) u5 x5_1 (⟨(⟨x6_1, false⟩ : S30), wrap64 (1 + t113)⟩ : S44) [.int .i64 x6_1, .bool false, .int .i64 (wrap64 (1 + t113))] (fun _ => True) (fun _ => False) rfl rfl ?aP (fun _ hk => hk.elim) ?aF ?aO (Below.refl _ _) ?aS ?aL ?_; (case aP => exact k44_mkM _ _ _ (⟨(⟨x6_1, false⟩ : S30), wrap64 (1 + t113)⟩ : S44)); (case aF => exact (fun _ _ => trivial)); (case aO => exact (ru HO_5.out)); (case aS => exact (keep_size (w := w) (g := g) (row := none) (by repeat (first | (with_reducible first | exact HK.out | apply KeepBut.set_ | apply keep_drewN | apply keep_drew | apply keep_alloc) | exact HK.out)))); (case aL => have := LMc24.out; omega); intro v124 w29 ho hb hg hat; rw [← Ny123.out] at ho; have n0_ := Aside0.mk (IsS158.grown (by repeat (first | (with_reducible first | exact HI0.out | apply IsS158.alloc | apply IsS158.drewN | apply IsS158.drew | apply IsS158.set_1) | exact HI0.out)) hg (IsS158.own_ne HI0.out HO_5.out (by decide))); have n1_ := Aside0.mk (below_weaken (by repeat (first | (with_reducible first | exact HB.out | apply below_alloc | apply pw_below_drewN | apply below_drew1 | refine below_set ?_ (IsS158.ge HI0.out)) | exact HB.out)) HL.out hb); have n2_ := Aside0.mk (KeepBut.trans (by repeat (first | (with_reducible first | exact HK.out | apply KeepBut.set_ | apply keep_drewN | apply keep_drew | apply keep_alloc) | exact HK.out)) (KeepBut.of_grown hg g) (Kd.R_base2 HO_5.out)); have n3_ := Aside0.mk (ho); clear HI0; clear HB; clear HK; clear HO_5; have HI0 := n0_; have HB := n1_; have HK := n2_; have HO125 := n3_; clear n0_ n1_ n2_ n3_; clear ho hb hg hat) | ((with_reducible refine gate_callee (f := 83) rfl ?_); refine goesL_ (some 44) rfl rfl Tryd.func83 (by kernel_rfl) rfl #[.pointer (some ⟨g, 0, none⟩), .int .i64 5] rfl (by (try simp only [List.map_toArray, List.map_cons, List.map_nil]); first | done | rfl | (simp only [List.length_drop, List.length_take]; rfl)) ?_; (with_reducible refine (spec_l6Rd_pick.calls kj6 g s0_0 t114 5 t126 t127 w0 _ ?side1 ?side2 A25.out).mono ?_); (case side1 => repeat (first | (with_reducible first | exact HI0.out | apply IsS158.alloc | apply IsS158.drewN | apply IsS158.drew | apply IsS158.set_1) | exact HI0.out)); (case side2 => repeat (first | (with_reducible first | exact HB.out | apply below_alloc | apply pw_below_drewN | apply below_drew1 | refine below_set ?_ (IsS158.ge HI0.out)) | exact HB.out)); rintro e w30 ⟨rfl, hi, hb, hk⟩; refine ⟨_, rfl, ?_⟩; have n0_ := Aside0.mk (Kd.R_mono (Kd.R_keep (IsS158.apart (show IsS158 w0 _ g s0_0 t114 from by repeat (first | (with_reducible first | exact HI0.out | apply IsS158.alloc | apply IsS158.drewN | apply IsS158.drew | apply IsS158.set_1) | exact HI0.out)) (ru HO125.out) (by decide)) hk (fun _ h => h.2)) (fun _ h => h.1)); have n1_ := Aside0.mk (KeepBut.trans (by repeat (first | (with_reducible first | exact HK.out | apply KeepBut.set_ | apply keep_drewN | apply keep_drew | apply keep_alloc) | exact HK.out)) hk (.inl rfl)); have n2_ := Aside0.mk (hb); have n3_ := Aside0.mk (hi); clear HO125; clear HK; clear HB; clear HI0; have HO125 := n0_; have HK := n1_; have HB := n2_; have HI0 := n3_; clear n0_ n1_ n2_ n3_; (try clear hb); (try clear hb2); (try clear hk); (try clear hi)))
        go_roundg kj6
        case measure => have := HK1.out; have := HJ6.out; omega
        case rel => exact ⟨(wrap64 (x1_1 - (wrap64 (1 + t113)))), (y123), (ji27), (t127), (by first | rfl | (simp; done) | (simp [*]; done)), (by first | rfl | (simp; done) | (simp only [← hji27] <;> (first | rfl | simp)) | (simp [*]; done)), H', ⟨by have := HK1.out; have := HJ6.out; omega⟩, ⟨ru HO125.out⟩, ⟨by repeat (first | (with_reducible first | exact HI0.out | apply IsS158.alloc | apply IsS158.drewN | apply IsS158.drew | apply IsS158.set_1) | exact HI0.out)⟩, ⟨by repeat (first | (with_reducible first | exact HK.out | apply KeepBut.set_ | apply keep_drewN | apply keep_drew | apply keep_alloc) | exact HK.out)⟩, ⟨by repeat (first | (with_reducible first | exact HB.out | apply below_alloc | apply pw_below_drewN | apply below_drew1 | refine below_set ?_ (IsS158.ge HI0.out)) | exact HB.out)⟩⟩
       ·rw [if_neg c24] at H
        exact absurd H (by simp)
     ·replace c10 := Bool.eq_false_iff.mpr c10
      subst c10
      have H1 : (if (x5_1.length : Int) > 0 then ((spec_l6Rd_pick.f kj6 s0_0 x1001_1 50).bind fun bt128 => (if bt128.1 = 0 then ((some (([0, 4] : List Int) : List Int)).bind fun y130 => ((spec_l6Rd_pick.f kj6 s0_0 bt128.2 2).bind fun bt133 => (if 0 ≤ bt133.1 then (if bt133.1 < (y130.length : Int) then (if 0 < (x5_1.length : Int) then (some ((x5_1.set (0 : Int).toNat (⟨(⟨(rd_T44 x5_1 0).f0.f0, (rd_T44 x5_1 0).f0.f1⟩ : S30), rd y130 bt133.1⟩ : S44)), bt133.2)) else (none)) else (none)) else (none)))) else (if bt128.1 = 1 then (if 0 < (x5_1.length : Int) then (some ((x5_1.set (0 : Int).toNat (⟨(⟨21, (rd_T44 x5_1 0).f0.f1⟩ : S30), (rd_T44 x5_1 0).f1⟩ : S44)), bt128.2)) else (none)) else (some (x5_1, bt128.2))))) else (some (x5_1, x1001_1))) = some (r1, r2) := by rw [if_neg (show ¬ (false = true) by decide)] at H; exact H
      clear H
      have H := H1
      clear H1
      by_cases c31 : (x5_1.length : Int) > 0
      ·rw [if_pos c31] at H
       have c31b0 : decide (0 < (x5_1.length : Int)) = true := decide_eq_true c31
       have c31b1 : decide (0 < x5_1.length) = true := decide_eq_true (by omega)
       clear c31
       replace H := Option.bind_eq_some_iff.mp H
       obtain ⟨⟨t128, t129⟩, A320, H⟩ := H
       replace H : (if t128 = 0 then ((some (([0, 4] : List Int) : List Int)).bind fun y130 => ((spec_l6Rd_pick.f kj6 s0_0 t129 2).bind fun bt133 => (if 0 ≤ bt133.1 then (if bt133.1 < (y130.length : Int) then (if 0 < (x5_1.length : Int) then (some ((x5_1.set (0 : Int).toNat (⟨(⟨(rd_T44 x5_1 0).f0.f0, (rd_T44 x5_1 0).f0.f1⟩ : S30), rd y130 bt133.1⟩ : S44)), bt133.2)) else (none)) else (none)) else (none)))) else (if t128 = 1 then (if 0 < (x5_1.length : Int) then (some ((x5_1.set (0 : Int).toNat (⟨(⟨21, (rd_T44 x5_1 0).f0.f1⟩ : S30), (rd_T44 x5_1 0).f1⟩ : S44)), t129)) else (none)) else (some (x5_1, t129)))) = some (r1, r2) := H
       have A32 := Aside0.mk A320
       clear A320
       by_cases c33 : t128 = 0
       ·rw [if_pos c33] at H
        have c33b0 : (t128 == 0) = true := beq_iff_eq.mpr c33
        have c33b1 : (t128 != 0) = false := bne_eq_false_iff_eq.mpr c33
        clear c33
        obtain ⟨y130, hy130⟩ : ∃ y_ : List Int, y_ = (([0, 4] : List Int)) := ⟨_, rfl⟩
        replace H : ((spec_l6Rd_pick.f kj6 s0_0 t129 2).bind fun bt133 => (if 0 ≤ bt133.1 then (if bt133.1 < (y130.length : Int) then (if 0 < (x5_1.length : Int) then (some ((x5_1.set (0 : Int).toNat (⟨(⟨(rd_T44 x5_1 0).f0.f0, (rd_T44 x5_1 0).f0.f1⟩ : S30), rd y130 bt133.1⟩ : S44)), bt133.2)) else (none)) else (none)) else (none))) = some (r1, r2) := by first | (rw [hy130]; with_reducible exact H) | (have H2_ := (Option.bind_some _ _).symm.trans H; rw [hy130]; with_reducible exact H2_) | (have H2_ := (Option.bind_some _ _).symm.trans H; with_reducible exact H2_) | with_reducible exact H | (rw [hy130]; exact H) | exact H
        have Ny130 := Aside0.mk hy130
        clear hy130
        replace H := Option.bind_eq_some_iff.mp H
        obtain ⟨⟨t133, t134⟩, A340, H⟩ := H
        replace H : (if 0 ≤ t133 then (if t133 < (y130.length : Int) then (if 0 < (x5_1.length : Int) then (some ((x5_1.set (0 : Int).toNat (⟨(⟨(rd_T44 x5_1 0).f0.f0, (rd_T44 x5_1 0).f0.f1⟩ : S30), rd y130 t133⟩ : S44)), t134)) else (none)) else (none)) else (none)) = some (r1, r2) := H
        have A34 := Aside0.mk A340
        clear A340
        by_cases c35 : 0 ≤ t133
        ·rw [if_pos c35] at H
         have c35b0 : decide (0 ≤ t133) = true := decide_eq_true c35
         clear c35
         by_cases c36 : t133 < (y130.length : Int)
         ·rw [if_pos c36] at H
          have c36b0 : decide (t133 < (y130.length : Int)) = true := decide_eq_true c36
          clear c36
          by_cases c37 : 0 < (x5_1.length : Int)
          ·rw [if_pos c37] at H
           have c37b0 : decide (0 < (x5_1.length : Int)) = true := decide_eq_true c37
           have c37b1 : decide (0 < x5_1.length) = true := decide_eq_true (by omega)
           clear c37
           obtain ⟨y136, hy136⟩ : ∃ y_ : List (S44), y_ = (x5_1.set (0 : Int).toNat (⟨(⟨(rd_T44 x5_1 0).f0.f0, (rd_T44 x5_1 0).f0.f1⟩ : S30), rd y130 t133⟩ : S44)) := ⟨_, rfl⟩
           replace H : (some (y136, t134)) = some (r1, r2) := by first | (rw [hy136]; with_reducible exact H) | (have H2_ := (Option.bind_some _ _).symm.trans H; rw [hy136]; with_reducible exact H2_) | (have H2_ := (Option.bind_some _ _).symm.trans H; with_reducible exact H2_) | with_reducible exact H | (rw [hy136]; exact H) | exact H
           have Ny136 := Aside0.mk hy136
           clear hy136
           simp only [Option.some.injEq, Prod.mk.injEq] at H
           obtain ⟨rfl, rfl⟩ := H
           obtain ⟨Ao39, co39, eo39⟩ := Kd.R_slice HO_5.out
           subst eo39
           go_wp2_with (first | ((with_reducible refine gate_callee (f := 83) rfl ?_); refine goesL_ (some 53) rfl rfl Tryd.func83 (by kernel_rfl) rfl #[.pointer (some ⟨g, 0, none⟩), .int .i64 50] rfl (by (try simp only [List.map_toArray, List.map_cons, List.map_nil]); first | done | rfl | (simp only [List.length_drop, List.length_take]; rfl)) ?_; (with_reducible refine (spec_l6Rd_pick.calls kj6 g s0_0 x1001_1 50 t128 t129 w0 _ ?side1 ?side2 A32.out).mono ?_); (case side1 => repeat (first | (with_reducible first | exact HI0.out | apply IsS158.alloc | apply IsS158.drewN | apply IsS158.drew | apply IsS158.set_1) | exact HI0.out)); (case side2 => repeat (first | (with_reducible first | exact HB.out | apply below_alloc | apply pw_below_drewN | apply below_drew1 | refine below_set ?_ (IsS158.ge HI0.out)) | exact HB.out)); rintro e w40 ⟨rfl, hi, hb, hk⟩; refine ⟨_, rfl, ?_⟩; have n0_ := Aside0.mk (Kd.R_mono (Kd.R_keep (IsS158.apart (show IsS158 w0 _ g s0_0 x1001_1 from by repeat (first | (with_reducible first | exact HI0.out | apply IsS158.alloc | apply IsS158.drewN | apply IsS158.drew | apply IsS158.set_1) | exact HI0.out)) (ru HO_5.out) (by decide)) hk (fun _ h => h.2)) (fun _ h => h.1)); have n1_ := Aside0.mk (KeepBut.trans (by repeat (first | (with_reducible first | exact HK.out | apply KeepBut.set_ | apply keep_drewN | apply keep_drew | apply keep_alloc) | exact HK.out)) hk (.inl rfl)); have n2_ := Aside0.mk (hb); have n3_ := Aside0.mk (hi); clear HO_5; clear HK; clear HB; clear HI0; have HO_5 := n0_; have HK := n1_; have HB := n2_; have HI0 := n3_; clear n0_ n1_ n2_ n3_; (try clear hb); (try clear hb2); (try clear hk); (try clear hi)) | ((with_reducible refine gate_dst (N := 57) rfl ?_); (try (refine gate_guard (by rfl) ?_; dsimp only)); refine Kd.R_lit (Kd.int .i64) _ 3 ?hg (N := 57) ?hd (xs := ([0, 4] : List Int)) (inner := [.int .i64 0, .int .i64 4]) (ok := fun _ => True) (okp := fun _ => True) ?hr ?hp (fun _ hk => hk) trivial (Below.refl _ _) (Nat.le_refl _) (by simp) ?_; (case hd => rfl); (case hg => rfl); (case hr => first | (go_simp; done) | (go_simp; rfl)); (case hp => exact (Reps.one (show Kd.M (Kd.int .i64) _ _ _ 0 [.int .i64 0] from rfl) (Reps.one (show Kd.M (Kd.int .i64) _ _ _ 4 [.int .i64 4] from rfl) (Reps.none _ _)))); intro v131 w41 ho42 hb hg_ hnew_; clear hg_ hnew_; (first | rw [← Ny130.out] at ho42 | (simp only [Int.reduceToNat] at ho42; rw [← Ny130.out] at ho42)); have n0_ := Aside0.mk (Kd.R_below (ru HO_5.out) hb); have n1_ := Aside0.mk (Kd.R_lower ho42 (keep_size (w := w) (g := g) (row := none) (by repeat (first | (with_reducible first | exact HK.out | apply KeepBut.set_ | apply keep_drewN | apply keep_drew | apply keep_alloc) | exact HK.out)))); have n2_ := Aside0.mk (IsS158.below (by repeat (first | (with_reducible first | exact HI0.out | apply IsS158.alloc | apply IsS158.drewN | apply IsS158.drew | apply IsS158.set_1) | exact HI0.out)) hb); have n3_ := Aside0.mk (KeepBut.trans (by repeat (first | (with_reducible first | exact HK.out | apply KeepBut.set_ | apply keep_drewN | apply keep_drew | apply keep_alloc) | exact HK.out)) (KeepBut.of_below hb g none) (.inl rfl)); have n4_ := Aside0.mk (below_step (by repeat (first | (with_reducible first | exact HB.out | apply below_alloc | apply pw_below_drewN | apply below_drew1 | refine below_set ?_ (IsS158.ge HI0.out)) | exact HB.out)) hb); clear HO_5; clear HI0; clear HK; clear HB; have HO_5 := n0_; have HO132 := n1_; have HI0 := n2_; have HK := n3_; have HB := n4_; clear n0_ n1_ n2_ n3_ n4_; clear hb ho42) | ((with_reducible refine gate_callee (f := 83) rfl ?_); refine goesL_ (some 59) rfl rfl Tryd.func83 (by kernel_rfl) rfl #[.pointer (some ⟨g, 0, none⟩), .int .i64 2] rfl (by (try simp only [List.map_toArray, List.map_cons, List.map_nil]); first | done | rfl | (simp only [List.length_drop, List.length_take]; rfl)) ?_; (with_reducible refine (spec_l6Rd_pick.calls kj6 g s0_0 t129 2 t133 t134 w0 _ ?side1 ?side2 A34.out).mono ?_); (case side1 => repeat (first | (with_reducible first | exact HI0.out | apply IsS158.alloc | apply IsS158.drewN | apply IsS158.drew | apply IsS158.set_1) | exact HI0.out)); (case side2 => repeat (first | (with_reducible first | exact HB.out | apply below_alloc | apply pw_below_drewN | apply below_drew1 | refine below_set ?_ (IsS158.ge HI0.out)) | exact HB.out)); rintro e w43 ⟨rfl, hi, hb, hk⟩; refine ⟨_, rfl, ?_⟩; have n0_ := Aside0.mk (Kd.R_mono (Kd.R_keep (IsS158.apart (show IsS158 w0 _ g s0_0 t129 from by repeat (first | (with_reducible first | exact HI0.out | apply IsS158.alloc | apply IsS158.drewN | apply IsS158.drew | apply IsS158.set_1) | exact HI0.out)) (ru HO_5.out) (by decide)) hk (fun _ h => h.2)) (fun _ h => h.1)); have n1_ := Aside0.mk (Kd.R_mono (Kd.R_keep (IsS158.apart (show IsS158 w0 _ g s0_0 t129 from by repeat (first | (with_reducible first | exact HI0.out | apply IsS158.alloc | apply IsS158.drewN | apply IsS158.drew | apply IsS158.set_1) | exact HI0.out)) (ru HO132.out) (by decide)) hk (fun _ h => h.2)) (fun _ h => h.1)); have n2_ := Aside0.mk (KeepBut.trans (by repeat (first | (with_reducible first | exact HK.out | apply KeepBut.set_ | apply keep_drewN | apply keep_drew | apply keep_alloc) | exact HK.out)) hk (.inl rfl)); have n3_ := Aside0.mk (hb); have n4_ := Aside0.mk (hi); clear HO_5; clear HO132; clear HK; clear HB; clear HI0; have HO_5 := n0_; have HO132 := n1_; have HK := n2_; have HB := n3_; have HI0 := n4_; clear n0_ n1_ n2_ n3_ n4_; (try clear hb); (try clear hb2); (try clear hk); (try clear hi); obtain ⟨Ao44, co44, eo44⟩ := Kd.R_slice HO132.out; subst eo44; have p135 : 0 ≤ (t133 : Int) := of_decide_eq_true (by first | (with_reducible assumption) | assumption); have q135 : t133 < (y130.length : Int) := of_decide_eq_true (by first | (with_reducible assumption) | assumption); obtain ⟨ad135, e135, hx135_0⟩ := Kd.at_int (Kd.R_reads' HO132.out).2.2 t133 p135 q135; cases e135; replace p135 := eq_true p135; replace q135 := eq_true q135; have p38 : 0 ≤ (0 : Int) := (by omega); have q38 : (0 : Int) < ((x5_1.length : Int) : Int) := of_decide_eq_true (by first | (with_reducible assumption) | assumption); have qi38 : (0 < x5_1.length) = True := eq_true (by omega); obtain ⟨go38, co38, eo38, gb38, gl38, cl38, HG38⟩ := Kd.R_form HO_5.out (by omega); (first | cases eo38 | (injection eo38 with ea_ en_ ec_; (first | subst ea_ | (injection ea_ with ea_; subst ea_)); subst ec_; clear en_)); have GB38 := Aside0.mk gb38; have GG38 := Aside0.mk HG38; clear gb38 gl38 HG38; obtain ⟨ce38, hcl38, hM38, hcc38, hfr38⟩ := Kd.R_elem HO_5.out z44 (0 : Int) p38 q38; obtain rfl := k44_openM hM38; have hx38_0 : w43.cell? ⟨go38, (0 : Int).toNat * 3, none⟩ = some (.int .i64 ((rd_T44 x5_1 0).f0.f0)) := hcc38 0 _ rfl; have hx38_1 : w43.cell? ⟨go38, (0 : Int).toNat * 3 + 1, none⟩ = some (.bool ((rd_T44 x5_1 0).f0.f1)) := hcc38 1 _ rfl; have hx38_2 : w43.cell? ⟨go38, (0 : Int).toNat * 3 + 2, none⟩ = some (.int .i64 ((rd_T44 x5_1 0).f1)) := hcc38 2 _ rfl; have hf38_0 : w43.frozen? ⟨go38, (0 : Int).toNat * 3, none⟩ = false := hfr38 0; have hf38_1 : w43.frozen? ⟨go38, (0 : Int).toNat * 3 + 1, none⟩ = false := hfr38 1; have hf38_2 : w43.frozen? ⟨go38, (0 : Int).toNat * 3 + 2, none⟩ = false := hfr38 2; clear hcl38 hcc38 hfr38 hM38; (try rw [show ((0 : Int)).toNat = 0 from rfl] at hx38_0); (try simp only [Nat.reduceMul, Nat.zero_mul, Nat.zero_add, Nat.reduceAdd] at hx38_0); (try rw [show ((0 : Int)).toNat = 0 from rfl] at hf38_0); (try simp only [Nat.reduceMul, Nat.zero_mul, Nat.zero_add, Nat.reduceAdd] at hf38_0); (try rw [show ((0 : Int)).toNat = 0 from rfl] at hx38_1); (try simp only [Nat.reduceMul, Nat.zero_mul, Nat.zero_add, Nat.reduceAdd] at hx38_1); (try rw [show ((0 : Int)).toNat = 0 from rfl] at hf38_1); (try simp only [Nat.reduceMul, Nat.zero_mul, Nat.zero_add, Nat.reduceAdd] at hf38_1); (try rw [show ((0 : Int)).toNat = 0 from rfl] at hx38_2); (try simp only [Nat.reduceMul, Nat.zero_mul, Nat.zero_add, Nat.reduceAdd] at hx38_2); (try rw [show ((0 : Int)).toNat = 0 from rfl] at hf38_2); (try simp only [Nat.reduceMul, Nat.zero_mul, Nat.zero_add, Nat.reduceAdd] at hf38_2); replace p38 := eq_true p38; replace q38 := eq_true q38; have HX45 := Aside0.mk (show Kd.R k44 44 w43 w.heap.size (fun _ => True) (.slice (some ⟨go38, 0, none⟩) x5_1.length co39) x5_1 from (ru HO_5.out)); obtain ⟨ce45, hcl45, hM45, hcc45, hfr45⟩ := Kd.R_elem HX45.out z44 (0 : Int) (by omega) (by have h_ : (0 : Int) < ((x5_1.length : Int) : Int) := of_decide_eq_true (by first | (with_reducible assumption) | assumption); first | exact h_ | (have e_ := (Kd.R_reads' HO_5.out).1; omega) | simpa using h_); obtain rfl := k44_openM hM45; have HP45 := Kd.R_seg HX45.out (0 : Int) (by omega) (by have h_ : (0 : Int) < ((x5_1.length : Int) : Int) := of_decide_eq_true (by first | (with_reducible assumption) | assumption); first | exact h_ | (have e_ := (Kd.R_reads' HO_5.out).1; omega) | simpa using h_) (seg := [.int .i64 (rd y130 t133)]) (j := 2) hcl45 hcc45 (show 3 ≤ 3 from by decide) (x' := (⟨(⟨(rd_T44 x5_1 0).f0.f0, (rd_T44 x5_1 0).f0.f1⟩ : S30), rd y130 t133⟩ : S44)) (k44_mkM _ _ _ (⟨(⟨(rd_T44 x5_1 0).f0.f0, (rd_T44 x5_1 0).f0.f1⟩ : S30), rd y130 t133⟩ : S44) ) (fun _ hk => hk); have hx45_2 := hcc45 2 _ rfl; (try simp only [show (k44).sz = 3 from rfl, Nat.mul_one, Nat.add_zero] at hx45_2); (try rw [show ((0 : Int)).toNat = 0 from rfl] at hx45_2); (try simp only [Nat.reduceMul, Nat.zero_mul, Nat.zero_add, Nat.reduceAdd] at hx45_2); have hf45_2 := hfr45 2; (try simp only [show (k44).sz = 3 from rfl, Nat.mul_one, Nat.add_zero] at hf45_2); (try rw [show ((0 : Int)).toNat = 0 from rfl] at hf45_2); (try simp only [Nat.reduceMul, Nat.zero_mul, Nat.zero_add, Nat.reduceAdd] at hf45_2); clear hcl45 hcc45 hfr45 hM45) | ((with_reducible refine gate_store (t := 3) (p := 63) rfl ?_); refine store_event (t := 3) (p := 63) (v := ?vo_w46) (w1 := (w43.setCell ⟨go38, 2, none⟩ (.int .i64 (rd y130 t133)))) ?hg ?ho ?hn ?hr ?_; (case ho => rfl); (case hg => rfl); (case hn => rfl); (case hr => first | (go_simp; done) | (go_simp; rfl)); intro w46 hw; have hg : w43.grownBy w46 (some go38) := (by rw [hw]; exact HP45.2); have hp_ : Kd.R k44 44 w46 w.heap.size (fun _ => True) (.slice (some ⟨go38, 0, none⟩) x5_1.length co39) y136 := (by rw [hw, Ny136.out]; exact HP45.1); clear HP45; have n0_ := Aside0.mk (hp_); have n1_ := Aside0.mk (IsS158.grown (by repeat (first | (with_reducible first | exact HI0.out | apply IsS158.alloc | apply IsS158.drewN | apply IsS158.drew | apply IsS158.set_1) | exact HI0.out)) hg (IsS158.own_ne HI0.out HO_5.out (by decide))); have n2_ := Aside0.mk (Kd.R_over' (v := (.slice (some ⟨go38, 0, none⟩) x5_1.length co39)) (ru HO132.out) (Kd.R_typed HO_5.out) (by decide) hg); have n3_ := Aside0.mk ((by rw [hw]; exact below_set (HB.out) (Nat.le_trans HL.out GB38.out) : Below w0.heap.size w0 w46)); have n4_ := Aside0.mk (KeepBut.trans (by repeat (first | (with_reducible first | exact HK.out | apply KeepBut.set_ | apply keep_drewN | apply keep_drew | apply keep_alloc) | exact HK.out)) (KeepBut.of_grown hg g) (Kd.R_base2 HO_5.out)); clear HO_5; clear HI0; clear HO132; clear HB; clear HK; have HO_5 := n0_; have HI0 := n1_; have HO132 := n2_; have HB := n3_; have HK := n4_; clear n0_ n1_ n2_ n3_ n4_; clear hg hw hp_))
           go_ret
           exact ⟨_, by first | rfl | (simp [errW_none, errW_some] <;> rfl) | (simp [*, errW_none, errW_some] <;> rfl), ru HO_5.out, by repeat (first | (with_reducible first | exact HI0.out | apply IsS158.alloc | apply IsS158.drewN | apply IsS158.drew | apply IsS158.set_1) | exact HI0.out), by repeat (first | (with_reducible first | exact HB.out | apply below_alloc | apply pw_below_drewN | apply below_drew1 | refine below_set ?_ (IsS158.ge HI0.out)) | exact HB.out), by repeat (first | (with_reducible first | exact HK.out | apply KeepBut.set_ | apply keep_drewN | apply keep_drew | apply keep_alloc) | exact HK.out)⟩
          ·rw [if_neg c37] at H
           exact absurd H (by simp)
         ·rw [if_neg c36] at H
          exact absurd H (by simp)
        ·rw [if_neg c35] at H
         exact absurd H (by simp)
       ·rw [if_neg c33] at H
        have c33b0 : (t128 == 0) = false := beq_eq_false_iff_ne.mpr c33
        have c33b1 : (t128 != 0) = true := bne_iff_ne.mpr c33
        by_cases c47 : t128 = 1
        ·rw [if_pos c47] at H
         have c47b0 : (t128 == 1) = true := beq_iff_eq.mpr c47
         have c47b1 : (t128 != 1) = false := bne_eq_false_iff_eq.mpr c47
         clear c47
         by_cases c48 : 0 < (x5_1.length : Int)
         ·rw [if_pos c48] at H
          have c48b0 : decide (0 < (x5_1.length : Int)) = true := decide_eq_true c48
          have c48b1 : decide (0 < x5_1.length) = true := decide_eq_true (by omega)
          clear c48
          obtain ⟨y137, hy137⟩ : ∃ y_ : List (S44), y_ = (x5_1.set (0 : Int).toNat (⟨(⟨21, (rd_T44 x5_1 0).f0.f1⟩ : S30), (rd_T44 x5_1 0).f1⟩ : S44)) := ⟨_, rfl⟩
          replace H : (some (y137, t129)) = some (r1, r2) := by first | (rw [hy137]; with_reducible exact H) | (have H2_ := (Option.bind_some _ _).symm.trans H; rw [hy137]; with_reducible exact H2_) | (have H2_ := (Option.bind_some _ _).symm.trans H; with_reducible exact H2_) | with_reducible exact H | (rw [hy137]; exact H) | exact H
          have Ny137 := Aside0.mk hy137
          clear hy137
          simp only [Option.some.injEq, Prod.mk.injEq] at H
          obtain ⟨rfl, rfl⟩ := H
          obtain ⟨Ao50, co50, eo50⟩ := Kd.R_slice HO_5.out
          subst eo50
          go_wp2_with (first | ((with_reducible refine gate_callee (f := 83) rfl ?_); refine goesL_ (some 53) rfl rfl Tryd.func83 (by kernel_rfl) rfl #[.pointer (some ⟨g, 0, none⟩), .int .i64 50] rfl (by (try simp only [List.map_toArray, List.map_cons, List.map_nil]); first | done | rfl | (simp only [List.length_drop, List.length_take]; rfl)) ?_; (with_reducible refine (spec_l6Rd_pick.calls kj6 g s0_0 x1001_1 50 t128 t129 w0 _ ?side1 ?side2 A32.out).mono ?_); (case side1 => repeat (first | (with_reducible first | exact HI0.out | apply IsS158.alloc | apply IsS158.drewN | apply IsS158.drew | apply IsS158.set_1) | exact HI0.out)); (case side2 => repeat (first | (with_reducible first | exact HB.out | apply below_alloc | apply pw_below_drewN | apply below_drew1 | refine below_set ?_ (IsS158.ge HI0.out)) | exact HB.out)); rintro e w51 ⟨rfl, hi, hb, hk⟩; refine ⟨_, rfl, ?_⟩; have n0_ := Aside0.mk (Kd.R_mono (Kd.R_keep (IsS158.apart (show IsS158 w0 _ g s0_0 x1001_1 from by repeat (first | (with_reducible first | exact HI0.out | apply IsS158.alloc | apply IsS158.drewN | apply IsS158.drew | apply IsS158.set_1) | exact HI0.out)) (ru HO_5.out) (by decide)) hk (fun _ h => h.2)) (fun _ h => h.1)); have n1_ := Aside0.mk (KeepBut.trans (by repeat (first | (with_reducible first | exact HK.out | apply KeepBut.set_ | apply keep_drewN | apply keep_drew | apply keep_alloc) | exact HK.out)) hk (.inl rfl)); have n2_ := Aside0.mk (hb); have n3_ := Aside0.mk (hi); clear HO_5; clear HK; clear HB; clear HI0; have HO_5 := n0_; have HK := n1_; have HB := n2_; have HI0 := n3_; clear n0_ n1_ n2_ n3_; (try clear hb); (try clear hb2); (try clear hk); (try clear hi); have p49 : 0 ≤ (0 : Int) := (by omega); have q49 : (0 : Int) < ((x5_1.length : Int) : Int) := of_decide_eq_true (by first | (with_reducible assumption) | assumption); have qi49 : (0 < x5_1.length) = True := eq_true (by omega); obtain ⟨go49, co49, eo49, gb49, gl49, cl49, HG49⟩ := Kd.R_form HO_5.out (by omega); (first | cases eo49 | (injection eo49 with ea_ en_ ec_; (first | subst ea_ | (injection ea_ with ea_; subst ea_)); subst ec_; clear en_)); have GB49 := Aside0.mk gb49; have GG49 := Aside0.mk HG49; clear gb49 gl49 HG49; obtain ⟨ce49, hcl49, hM49, hcc49, hfr49⟩ := Kd.R_elem HO_5.out z44 (0 : Int) p49 q49; obtain rfl := k44_openM hM49; have hx49_0 : w51.cell? ⟨go49, (0 : Int).toNat * 3, none⟩ = some (.int .i64 ((rd_T44 x5_1 0).f0.f0)) := hcc49 0 _ rfl; have hx49_1 : w51.cell? ⟨go49, (0 : Int).toNat * 3 + 1, none⟩ = some (.bool ((rd_T44 x5_1 0).f0.f1)) := hcc49 1 _ rfl; have hx49_2 : w51.cell? ⟨go49, (0 : Int).toNat * 3 + 2, none⟩ = some (.int .i64 ((rd_T44 x5_1 0).f1)) := hcc49 2 _ rfl; have hf49_0 : w51.frozen? ⟨go49, (0 : Int).toNat * 3, none⟩ = false := hfr49 0; have hf49_1 : w51.frozen? ⟨go49, (0 : Int).toNat * 3 + 1, none⟩ = false := hfr49 1; have hf49_2 : w51.frozen? ⟨go49, (0 : Int).toNat * 3 + 2, none⟩ = false := hfr49 2; clear hcl49 hcc49 hfr49 hM49; (try rw [show ((0 : Int)).toNat = 0 from rfl] at hx49_0); (try simp only [Nat.reduceMul, Nat.zero_mul, Nat.zero_add, Nat.reduceAdd] at hx49_0); (try rw [show ((0 : Int)).toNat = 0 from rfl] at hf49_0); (try simp only [Nat.reduceMul, Nat.zero_mul, Nat.zero_add, Nat.reduceAdd] at hf49_0); (try rw [show ((0 : Int)).toNat = 0 from rfl] at hx49_1); (try simp only [Nat.reduceMul, Nat.zero_mul, Nat.zero_add, Nat.reduceAdd] at hx49_1); (try rw [show ((0 : Int)).toNat = 0 from rfl] at hf49_1); (try simp only [Nat.reduceMul, Nat.zero_mul, Nat.zero_add, Nat.reduceAdd] at hf49_1); (try rw [show ((0 : Int)).toNat = 0 from rfl] at hx49_2); (try simp only [Nat.reduceMul, Nat.zero_mul, Nat.zero_add, Nat.reduceAdd] at hx49_2); (try rw [show ((0 : Int)).toNat = 0 from rfl] at hf49_2); (try simp only [Nat.reduceMul, Nat.zero_mul, Nat.zero_add, Nat.reduceAdd] at hf49_2); replace p49 := eq_true p49; replace q49 := eq_true q49; have HX52 := Aside0.mk (show Kd.R k44 44 w51 w.heap.size (fun _ => True) (.slice (some ⟨go49, 0, none⟩) x5_1.length co50) x5_1 from (ru HO_5.out)); obtain ⟨ce52, hcl52, hM52, hcc52, hfr52⟩ := Kd.R_elem HX52.out z44 (0 : Int) (by omega) (by have h_ : (0 : Int) < ((x5_1.length : Int) : Int) := of_decide_eq_true (by first | (with_reducible assumption) | assumption); first | exact h_ | (have e_ := (Kd.R_reads' HO_5.out).1; omega) | simpa using h_); obtain rfl := k44_openM hM52; have HP52 := Kd.R_seg HX52.out (0 : Int) (by omega) (by have h_ : (0 : Int) < ((x5_1.length : Int) : Int) := of_decide_eq_true (by first | (with_reducible assumption) | assumption); first | exact h_ | (have e_ := (Kd.R_reads' HO_5.out).1; omega) | simpa using h_) (seg := [.int .i64 21]) (j := 0) hcl52 hcc52 (show 1 ≤ 3 from by decide) (x' := (⟨(⟨21, (rd_T44 x5_1 0).f0.f1⟩ : S30), (rd_T44 x5_1 0).f1⟩ : S44)) (k44_mkM _ _ _ (⟨(⟨21, (rd_T44 x5_1 0).f0.f1⟩ : S30), (rd_T44 x5_1 0).f1⟩ : S44) ) (fun _ hk => hk); have hx52_0 := hcc52 0 _ rfl; (try simp only [show (k44).sz = 3 from rfl, Nat.mul_one, Nat.add_zero] at hx52_0); (try rw [show ((0 : Int)).toNat = 0 from rfl] at hx52_0); (try simp only [Nat.reduceMul, Nat.zero_mul, Nat.zero_add, Nat.reduceAdd] at hx52_0); have hf52_0 := hfr52 0; (try simp only [show (k44).sz = 3 from rfl, Nat.mul_one, Nat.add_zero] at hf52_0); (try rw [show ((0 : Int)).toNat = 0 from rfl] at hf52_0); (try simp only [Nat.reduceMul, Nat.zero_mul, Nat.zero_add, Nat.reduceAdd] at hf52_0); clear hcl52 hcc52 hfr52 hM52) | ((with_reducible refine gate_store (t := 3) (p := 69) rfl ?_); refine store_event (t := 3) (p := 69) (v := ?vo_w53) (w1 := (w51.setCell ⟨go49, 0, none⟩ (.int .i64 21))) ?hg ?ho ?hn ?hr ?_; (case ho => rfl); (case hg => rfl); (case hn => rfl); (case hr => first | (go_simp; done) | (go_simp; rfl)); intro w53 hw; have hg : w51.grownBy w53 (some go49) := (by rw [hw]; exact HP52.2); have hp_ : Kd.R k44 44 w53 w.heap.size (fun _ => True) (.slice (some ⟨go49, 0, none⟩) x5_1.length co50) y137 := (by rw [hw, Ny137.out]; exact HP52.1); clear HP52; have n0_ := Aside0.mk (hp_); have n1_ := Aside0.mk (IsS158.grown (by repeat (first | (with_reducible first | exact HI0.out | apply IsS158.alloc | apply IsS158.drewN | apply IsS158.drew | apply IsS158.set_1) | exact HI0.out)) hg (IsS158.own_ne HI0.out HO_5.out (by decide))); have n2_ := Aside0.mk ((by rw [hw]; exact below_set (HB.out) (Nat.le_trans HL.out GB49.out) : Below w0.heap.size w0 w53)); have n3_ := Aside0.mk (KeepBut.trans (by repeat (first | (with_reducible first | exact HK.out | apply KeepBut.set_ | apply keep_drewN | apply keep_drew | apply keep_alloc) | exact HK.out)) (KeepBut.of_grown hg g) (Kd.R_base2 HO_5.out)); clear HO_5; clear HI0; clear HB; clear HK; have HO_5 := n0_; have HI0 := n1_; have HB := n2_; have HK := n3_; clear n0_ n1_ n2_ n3_; clear hg hw hp_))
          go_ret
          exact ⟨_, by first | rfl | (simp [errW_none, errW_some] <;> rfl) | (simp [*, errW_none, errW_some] <;> rfl), ru HO_5.out, by repeat (first | (with_reducible first | exact HI0.out | apply IsS158.alloc | apply IsS158.drewN | apply IsS158.drew | apply IsS158.set_1) | exact HI0.out), by repeat (first | (with_reducible first | exact HB.out | apply below_alloc | apply pw_below_drewN | apply below_drew1 | refine below_set ?_ (IsS158.ge HI0.out)) | exact HB.out), by repeat (first | (with_reducible first | exact HK.out | apply KeepBut.set_ | apply keep_drewN | apply keep_drew | apply keep_alloc) | exact HK.out)⟩
         ·rw [if_neg c48] at H
          exact absurd H (by simp)
        ·rw [if_neg c47] at H
         have c47b0 : (t128 == 1) = false := beq_eq_false_iff_ne.mpr c47
         have c47b1 : (t128 != 1) = true := bne_iff_ne.mpr c47
         simp only [Option.some.injEq, Prod.mk.injEq] at H
         obtain ⟨rfl, rfl⟩ := H
         obtain ⟨Ao54, co54, eo54⟩ := Kd.R_slice HO_5.out
         subst eo54
         go_wp2_with (first | ((with_reducible refine gate_callee (f := 83) rfl ?_); refine goesL_ (some 53) rfl rfl Tryd.func83 (by kernel_rfl) rfl #[.pointer (some ⟨g, 0, none⟩), .int .i64 50] rfl (by (try simp only [List.map_toArray, List.map_cons, List.map_nil]); first | done | rfl | (simp only [List.length_drop, List.length_take]; rfl)) ?_; (with_reducible refine (spec_l6Rd_pick.calls kj6 g s0_0 x1001_1 50 t128 t129 w0 _ ?side1 ?side2 A32.out).mono ?_); (case side1 => repeat (first | (with_reducible first | exact HI0.out | apply IsS158.alloc | apply IsS158.drewN | apply IsS158.drew | apply IsS158.set_1) | exact HI0.out)); (case side2 => repeat (first | (with_reducible first | exact HB.out | apply below_alloc | apply pw_below_drewN | apply below_drew1 | refine below_set ?_ (IsS158.ge HI0.out)) | exact HB.out)); rintro e w55 ⟨rfl, hi, hb, hk⟩; refine ⟨_, rfl, ?_⟩; have n0_ := Aside0.mk (Kd.R_mono (Kd.R_keep (IsS158.apart (show IsS158 w0 _ g s0_0 x1001_1 from by repeat (first | (with_reducible first | exact HI0.out | apply IsS158.alloc | apply IsS158.drewN | apply IsS158.drew | apply IsS158.set_1) | exact HI0.out)) (ru HO_5.out) (by decide)) hk (fun _ h => h.2)) (fun _ h => h.1)); have n1_ := Aside0.mk (KeepBut.trans (by repeat (first | (with_reducible first | exact HK.out | apply KeepBut.set_ | apply keep_drewN | apply keep_drew | apply keep_alloc) | exact HK.out)) hk (.inl rfl)); have n2_ := Aside0.mk (hb); have n3_ := Aside0.mk (hi); clear HO_5; clear HK; clear HB; clear HI0; have HO_5 := n0_; have HK := n1_; have HB := n2_; have HI0 := n3_; clear n0_ n1_ n2_ n3_; (try clear hb); (try clear hb2); (try clear hk); (try clear hi)))
         go_ret
         exact ⟨_, by first | rfl | (simp [errW_none, errW_some] <;> rfl) | (simp [*, errW_none, errW_some] <;> rfl), ru HO_5.out, by repeat (first | (with_reducible first | exact HI0.out | apply IsS158.alloc | apply IsS158.drewN | apply IsS158.drew | apply IsS158.set_1) | exact HI0.out), by repeat (first | (with_reducible first | exact HB.out | apply below_alloc | apply pw_below_drewN | apply below_drew1 | refine below_set ?_ (IsS158.ge HI0.out)) | exact HB.out), by repeat (first | (with_reducible first | exact HK.out | apply KeepBut.set_ | apply keep_drewN | apply keep_drew | apply keep_alloc) | exact HK.out)⟩
      ·rw [if_neg c31] at H
       have c31b0 : decide (0 < (x5_1.length : Int)) = false := decide_eq_false c31
       have c31b1 : decide (0 < x5_1.length) = false := decide_eq_false (by omega)
       clear c31
       simp only [Option.some.injEq, Prod.mk.injEq] at H
       obtain ⟨rfl, rfl⟩ := H
       obtain ⟨Ao56, co56, eo56⟩ := Kd.R_slice HO_5.out
       subst eo56
       go_wp2
       go_ret
       exact ⟨_, by first | rfl | (simp [errW_none, errW_some] <;> rfl) | (simp [*, errW_none, errW_some] <;> rfl), ru HO_5.out, by repeat (first | (with_reducible first | exact HI0.out | apply IsS158.alloc | apply IsS158.drewN | apply IsS158.drew | apply IsS158.set_1) | exact HI0.out), by repeat (first | (with_reducible first | exact HB.out | apply below_alloc | apply pw_below_drewN | apply below_drew1 | refine below_set ?_ (IsS158.ge HI0.out)) | exact HB.out), by repeat (first | (with_reducible first | exact HK.out | apply KeepBut.set_ | apply keep_drewN | apply keep_drew | apply keep_alloc) | exact HK.out)⟩

/-! ### spec_l92Discant: function 66 -/
def spec_l92Discant.l0 : Nat → List (S44) → List (S44) → Int → List Int → Int → Option ((List (S44)) × (List (S44)) × Int)
 | 0, _, _, _, _, _ => none
 | k + 1, x5, x6, x7, x1000, x1001 => if x7 < (x6.length : Int) then ((some (([4, 4, 3, 7, 0, 2] : List Int) : List Int)).bind fun y152 => ((spec_l6Rd_pick.f k x1000 x1001 6).bind fun bt155 => (if 0 ≤ bt155.1 then (if bt155.1 < (y152.length : Int) then (if 0 ≤ x7 then (spec_l92Discant.l0 k x5 (x6.set (x7 : Int).toNat (⟨(⟨mn 20 (wrap64 ((mx 0 ((rd_T44 x6 x7).f0.f0)) + (rd y152 bt155.1))), false⟩ : S30), (rd_T44 x6 x7).f1⟩ : S44)) (wrap64 (x7 + 1)) x1000 bt155.2) else (none)) else (none)) else (none)))) else (some (x5, x6, x1001))
def spec_l92Discant.f (k : Nat) (s0_0 : List Int) (s0_1 : Int) : Option ((List (S44)) × (List (S44)) × Int) := (spec_l6Rd_pick.f k s0_0 s0_1 12).bind fun bt138 => ((spec_l92Part.f k s0_0 bt138.2 bt138.1).bind fun bt140 => ((spec_l6Rd_pick.f k s0_0 bt140.2 2).bind fun bt144 => (if bt144.1 = 0 then ((some (([] : List (S44)) : List (S44))).bind fun y146 => (if y146.length + bt140.1.length < 5864062014805 then (spec_l92Discant.l0 k bt140.1 (y146 ++ bt140.1) 0 s0_0 bt144.2) else (none))) else ((spec_l6Rd_pick.f k s0_0 bt144.2 8).bind fun bt160 => (if bt160.1 = 0 then ((spec_l92Part.f k s0_0 bt160.2 (wrap64 (bt138.1 + 1))).bind fun bt162 => (some (bt140.1, bt162.1, bt162.2))) else ((spec_l92Part.f k s0_0 bt160.2 bt138.1).bind fun bt166 => (some (bt140.1, bt166.1, bt166.2))))))))
theorem spec_l92Discant.mono_l : ∀ k, (∀ y0 y1 y2 y3 y4, LeO (spec_l92Discant.l0 k y0 y1 y2 y3 y4) (spec_l92Discant.l0 (k + 1) y0 y1 y2 y3 y4))
 | 0 => fun _ _ _ _ _ r h => by simp [spec_l92Discant.l0] at h
 | k + 1 => by
  have ih0 := spec_l92Discant.mono_l k
  ·intro y0 y1 y2 y3 y4
   unfold spec_l92Discant.l0
   repeat' first
   | (with_reducible exact ih0 _ _ _ _ _)
   | (with_reducible exact spec_l6Rd_pick.mono _ _ _ _)
   | (with_reducible exact spec_l92Part.mono _ _ _ _)
   | (with_reducible exact LeO.refl _)
   | (with_reducible exact LeO.none _)
   | (with_reducible refine LeO.ite ?_ ?_)
   | (with_reducible refine LeO.bind ?_ (fun _ => ?_))
   | exact ih0 _ _ _ _ _
   | exact spec_l6Rd_pick.mono _ _ _ _
   | exact spec_l92Part.mono _ _ _ _
   | exact LeO.none _
   | refine LeO.ite ?_ ?_
   | refine LeO.bind ?_ (fun _ => ?_)
theorem spec_l92Discant.mono : ∀ a0 a1 k, LeO (spec_l92Discant.f k a0 a1) (spec_l92Discant.f (k + 1) a0 a1) := by
 intro a0 a1 k
 have ih0 := spec_l92Discant.mono_l k
 unfold spec_l92Discant.f
 repeat' first
   | (with_reducible exact ih0 _ _ _ _ _)
   | (with_reducible exact spec_l6Rd_pick.mono _ _ _ _)
   | (with_reducible exact spec_l92Part.mono _ _ _ _)
   | (with_reducible exact LeO.refl _)
   | (with_reducible exact LeO.none _)
   | (with_reducible refine LeO.ite ?_ ?_)
   | (with_reducible refine LeO.bind ?_ (fun _ => ?_))
   | exact ih0 _ _ _ _ _
   | exact spec_l6Rd_pick.mono _ _ _ _
   | exact spec_l92Part.mono _ _ _ _
   | exact LeO.none _
   | refine LeO.ite ?_ ?_
   | refine LeO.bind ?_ (fun _ => ?_)
set_option maxHeartbeats 8000000 in
set_option maxRecDepth 100000 in
theorem spec_l92Discant.calls (k : Nat) (g : Nat) (s0_0 : List Int) (s0_1 : Int) (r1 : List (S44)) (r2 : List (S44)) (r3 : Int) (w0 w : World) (hI : IsS158 w0 w g s0_0 s0_1) (hB : Below w0.heap.size w0 w) (h : spec_l92Discant.f k s0_0 s0_1 = some (r1, r2, r3)) :
  Calls Tryd.prog 66 #[.pointer (some ⟨g, 0, none⟩)] w fun e w' => ∃ v0_ v1_ : Value, e = .returned (.tuple #[v0_, v1_]) ∧ Kd.R k44 44 w' w.heap.size (fun k_ => some k_ ≠ (v1_ : Value).ownBlock) v0_ r1 ∧ Kd.R k44 44 w' w.heap.size (fun k_ => some k_ ≠ (v0_ : Value).ownBlock) v1_ r2 ∧ IsS158 w0 w' g s0_0 r3 ∧ Below w0.heap.size w0 w' ∧ KeepBut w w' g none := by
 have hu30 := Tryd.underlying30
 have HI0 := Aside0.mk hI
 have HK := Aside0.mk (KeepBut.refl w g none)
 have HL := Aside0.mk hB.size
 clear hI
 have HW0 := Aside0.mk hB.size
 have HB := Aside0.mk hB
 clear hB
 have H : ((spec_l6Rd_pick.f k s0_0 s0_1 12).bind fun bt138 => ((spec_l92Part.f k s0_0 bt138.2 bt138.1).bind fun bt140 => ((spec_l6Rd_pick.f k s0_0 bt140.2 2).bind fun bt144 => (if bt144.1 = 0 then ((some (([] : List (S44)) : List (S44))).bind fun y146 => (if y146.length + bt140.1.length < 5864062014805 then (spec_l92Discant.l0 k bt140.1 (y146 ++ bt140.1) 0 s0_0 bt144.2) else (none))) else ((spec_l6Rd_pick.f k s0_0 bt144.2 8).bind fun bt160 => (if bt160.1 = 0 then ((spec_l92Part.f k s0_0 bt160.2 (wrap64 (bt138.1 + 1))).bind fun bt162 => (some (bt140.1, bt162.1, bt162.2))) else ((spec_l92Part.f k s0_0 bt160.2 bt138.1).bind fun bt166 => (some (bt140.1, bt166.1, bt166.2))))))))) = some (r1, r2, r3) := h
 clear h
 replace H := Option.bind_eq_some_iff.mp H
 obtain ⟨⟨t138, t139⟩, A20, H⟩ := H
 replace H : ((spec_l92Part.f k s0_0 t139 t138).bind fun bt140 => ((spec_l6Rd_pick.f k s0_0 bt140.2 2).bind fun bt144 => (if bt144.1 = 0 then ((some (([] : List (S44)) : List (S44))).bind fun y146 => (if y146.length + bt140.1.length < 5864062014805 then (spec_l92Discant.l0 k bt140.1 (y146 ++ bt140.1) 0 s0_0 bt144.2) else (none))) else ((spec_l6Rd_pick.f k s0_0 bt144.2 8).bind fun bt160 => (if bt160.1 = 0 then ((spec_l92Part.f k s0_0 bt160.2 (wrap64 (t138 + 1))).bind fun bt162 => (some (bt140.1, bt162.1, bt162.2))) else ((spec_l92Part.f k s0_0 bt160.2 t138).bind fun bt166 => (some (bt140.1, bt166.1, bt166.2)))))))) = some (r1, r2, r3) := H
 have A2 := Aside0.mk A20
 clear A20
 replace H := Option.bind_eq_some_iff.mp H
 obtain ⟨⟨t140, t143⟩, A30, H⟩ := H
 replace H : ((spec_l6Rd_pick.f k s0_0 t143 2).bind fun bt144 => (if bt144.1 = 0 then ((some (([] : List (S44)) : List (S44))).bind fun y146 => (if y146.length + t140.length < 5864062014805 then (spec_l92Discant.l0 k t140 (y146 ++ t140) 0 s0_0 bt144.2) else (none))) else ((spec_l6Rd_pick.f k s0_0 bt144.2 8).bind fun bt160 => (if bt160.1 = 0 then ((spec_l92Part.f k s0_0 bt160.2 (wrap64 (t138 + 1))).bind fun bt162 => (some (t140, bt162.1, bt162.2))) else ((spec_l92Part.f k s0_0 bt160.2 t138).bind fun bt166 => (some (t140, bt166.1, bt166.2))))))) = some (r1, r2, r3) := H
 have A3 := Aside0.mk A30
 clear A30
 replace H := Option.bind_eq_some_iff.mp H
 obtain ⟨⟨t144, t145⟩, A40, H⟩ := H
 replace H : (if t144 = 0 then ((some (([] : List (S44)) : List (S44))).bind fun y146 => (if y146.length + t140.length < 5864062014805 then (spec_l92Discant.l0 k t140 (y146 ++ t140) 0 s0_0 t145) else (none))) else ((spec_l6Rd_pick.f k s0_0 t145 8).bind fun bt160 => (if bt160.1 = 0 then ((spec_l92Part.f k s0_0 bt160.2 (wrap64 (t138 + 1))).bind fun bt162 => (some (t140, bt162.1, bt162.2))) else ((spec_l92Part.f k s0_0 bt160.2 t138).bind fun bt166 => (some (t140, bt166.1, bt166.2)))))) = some (r1, r2, r3) := H
 have A4 := Aside0.mk A40
 clear A40
 by_cases c5 : t144 = 0
 ·rw [if_pos c5] at H
  have c5b0 : (t144 == 0) = true := beq_iff_eq.mpr c5
  have c5b1 : (t144 != 0) = false := bne_eq_false_iff_eq.mpr c5
  clear c5
  obtain ⟨y146, hy146⟩ : ∃ y_ : List (S44), y_ = (([] : List (S44))) := ⟨_, rfl⟩
  replace H : (if y146.length + t140.length < 5864062014805 then (spec_l92Discant.l0 k t140 (y146 ++ t140) 0 s0_0 t145) else (none)) = some (r1, r2, r3) := by first | (rw [hy146]; with_reducible exact H) | (have H2_ := (Option.bind_some _ _).symm.trans H; rw [hy146]; with_reducible exact H2_) | (have H2_ := (Option.bind_some _ _).symm.trans H; with_reducible exact H2_) | with_reducible exact H | (rw [hy146]; exact H) | exact H
  have Ny146 := Aside0.mk hy146
  clear hy146
  by_cases c6 : y146.length + t140.length < 5864062014805
  ·rw [if_pos c6] at H
   have LMc6 := Aside0.mk c6
   clear c6
   obtain ⟨y149, hy149⟩ : ∃ y_ : List (S44), y_ = (y146 ++ t140) := ⟨_, rfl⟩
   replace H : (spec_l92Discant.l0 k t140 y149 0 s0_0 t145) = some (r1, r2, r3) := by first | (rw [hy149]; with_reducible exact H) | (have H2_ := (Option.bind_some _ _).symm.trans H; rw [hy149]; with_reducible exact H2_) | (have H2_ := (Option.bind_some _ _).symm.trans H; with_reducible exact H2_) | with_reducible exact H | (rw [hy149]; exact H) | exact H
   have Ny149 := Aside0.mk hy149
   clear hy149
   have H' := Aside0.mk H
   clear H
   go_enter Tryd.func66, Tryd.ntmps66
   go_wp2_with (first | ((with_reducible refine gate_callee (f := 83) rfl ?_); refine goesL_ (some 10) rfl rfl Tryd.func83 (by kernel_rfl) rfl #[.pointer (some ⟨g, 0, none⟩), .int .i64 12] rfl (by (try simp only [List.map_toArray, List.map_cons, List.map_nil]); first | done | rfl | (simp only [List.length_drop, List.length_take]; rfl)) ?_; (with_reducible refine (spec_l6Rd_pick.calls k g s0_0 s0_1 12 t138 t139 w0 _ ?side1 ?side2 A2.out).mono ?_); (case side1 => repeat (first | (with_reducible first | exact HI0.out | apply IsS158.alloc | apply IsS158.drewN | apply IsS158.drew | apply IsS158.set_1) | exact HI0.out)); (case side2 => repeat (first | (with_reducible first | exact HB.out | apply below_alloc | apply pw_below_drewN | apply below_drew1 | refine below_set ?_ (IsS158.ge HI0.out)) | exact HB.out)); rintro e w7 ⟨rfl, hi, hb, hk⟩; refine ⟨_, rfl, ?_⟩; have n0_ := Aside0.mk (KeepBut.trans (by repeat (first | (with_reducible first | exact HK.out | apply KeepBut.set_ | apply keep_drewN | apply keep_drew | apply keep_alloc) | exact HK.out)) hk (.inl rfl)); have n1_ := Aside0.mk (hb); have n2_ := Aside0.mk (hi); clear HK; clear HB; clear HI0; have HK := n0_; have HB := n1_; have HI0 := n2_; clear n0_ n1_ n2_; (try clear hb); (try clear hb2); (try clear hk); (try clear hi)) | ((with_reducible refine gate_callee (f := 82) rfl ?_); refine goesL_ (some 13) rfl rfl Tryd.func82 (by kernel_rfl) rfl #[.pointer (some ⟨g, 0, none⟩), .int .i64 t138] rfl (by (try simp only [List.map_toArray, List.map_cons, List.map_nil]); first | done | rfl | (simp only [List.length_drop, List.length_take]; rfl)) ?_; (with_reducible refine (spec_l92Part.calls k g s0_0 t139 t138 t140 t143 w0 _ ?side1 ?side2 A3.out).mono ?_); (case side1 => repeat (first | (with_reducible first | exact HI0.out | apply IsS158.alloc | apply IsS158.drewN | apply IsS158.drew | apply IsS158.set_1) | exact HI0.out)); (case side2 => repeat (first | (with_reducible first | exact HB.out | apply below_alloc | apply pw_below_drewN | apply below_drew1 | refine below_set ?_ (IsS158.ge HI0.out)) | exact HB.out)); rintro e w8 ⟨v141, rfl, ho0, hi, hb, hk⟩; refine ⟨_, rfl, ?_⟩; have n0_ := Aside0.mk (Kd.R_lower ho0 (keep_size (w := w) (g := g) (row := none) (by repeat (first | (with_reducible first | exact HK.out | apply KeepBut.set_ | apply keep_drewN | apply keep_drew | apply keep_alloc) | exact HK.out)))); have n1_ := Aside0.mk (KeepBut.trans (by repeat (first | (with_reducible first | exact HK.out | apply KeepBut.set_ | apply keep_drewN | apply keep_drew | apply keep_alloc) | exact HK.out)) hk (.inl rfl)); have n2_ := Aside0.mk (hb); have n3_ := Aside0.mk (hi); clear HK; clear HB; clear HI0; have HO142 := n0_; have HK := n1_; have HB := n2_; have HI0 := n3_; clear n0_ n1_ n2_ n3_; (try clear hb); (try clear hb2); (try clear hk); (try clear hi); (try clear ho0)) | ((with_reducible refine gate_callee (f := 83) rfl ?_); refine goesL_ (some 15) rfl rfl Tryd.func83 (by kernel_rfl) rfl #[.pointer (some ⟨g, 0, none⟩), .int .i64 2] rfl (by (try simp only [List.map_toArray, List.map_cons, List.map_nil]); first | done | rfl | (simp only [List.length_drop, List.length_take]; rfl)) ?_; (with_reducible refine (spec_l6Rd_pick.calls k g s0_0 t143 2 t144 t145 w0 _ ?side1 ?side2 A4.out).mono ?_); (case side1 => repeat (first | (with_reducible first | exact HI0.out | apply IsS158.alloc | apply IsS158.drewN | apply IsS158.drew | apply IsS158.set_1) | exact HI0.out)); (case side2 => repeat (first | (with_reducible first | exact HB.out | apply below_alloc | apply pw_below_drewN | apply below_drew1 | refine below_set ?_ (IsS158.ge HI0.out)) | exact HB.out)); rintro e w9 ⟨rfl, hi, hb, hk⟩; refine ⟨_, rfl, ?_⟩; have n0_ := Aside0.mk (Kd.R_mono (Kd.R_keep (IsS158.apart (show IsS158 w0 _ g s0_0 t143 from by repeat (first | (with_reducible first | exact HI0.out | apply IsS158.alloc | apply IsS158.drewN | apply IsS158.drew | apply IsS158.set_1) | exact HI0.out)) (ru HO142.out) (by decide)) hk (fun _ h => h.2)) (fun _ h => h.1)); have n1_ := Aside0.mk (KeepBut.trans (by repeat (first | (with_reducible first | exact HK.out | apply KeepBut.set_ | apply keep_drewN | apply keep_drew | apply keep_alloc) | exact HK.out)) hk (.inl rfl)); have n2_ := Aside0.mk (hb); have n3_ := Aside0.mk (hi); clear HO142; clear HK; clear HB; clear HI0; have HO142 := n0_; have HK := n1_; have HB := n2_; have HI0 := n3_; clear n0_ n1_ n2_ n3_; (try clear hb); (try clear hb2); (try clear hk); (try clear hi)) | ((with_reducible refine gate_dst (N := 17) rfl ?_); refine Kd.R_lit k44 _ 44 ?hg (N := 17) ?hd (xs := ([] : List (S44))) (inner := []) (ok := fun _ => True) (okp := fun _ => True) ?hr ?hp (fun _ hk => hk) trivial (Below.refl _ _) (Nat.le_refl _) (by simp) ?_; (case hd => rfl); (case hg => rfl); (case hr => first | (go_simp; done) | (go_simp; rfl)); (case hp => exact (Reps.none _ _)); intro v147 w10 ho11 hb hg_ hnew_; clear hg_ hnew_; (first | rw [← Ny146.out] at ho11 | (simp only [Int.reduceToNat] at ho11; rw [← Ny146.out] at ho11)); have n0_ := Aside0.mk (Kd.R_elder' (ru HO142.out) (Kd.R_base ho11) hb); have n1_ := Aside0.mk (Kd.R_lower (Kd.R_new' ho11 (Kd.R_lt (ru HO142.out))) (keep_size (w := w) (g := g) (row := none) (by repeat (first | (with_reducible first | exact HK.out | apply KeepBut.set_ | apply keep_drewN | apply keep_drew | apply keep_alloc) | exact HK.out)))); have n2_ := Aside0.mk (IsS158.below (by repeat (first | (with_reducible first | exact HI0.out | apply IsS158.alloc | apply IsS158.drewN | apply IsS158.drew | apply IsS158.set_1) | exact HI0.out)) hb); have n3_ := Aside0.mk (KeepBut.trans (by repeat (first | (with_reducible first | exact HK.out | apply KeepBut.set_ | apply keep_drewN | apply keep_drew | apply keep_alloc) | exact HK.out)) (KeepBut.of_below hb g none) (.inl rfl)); have n4_ := Aside0.mk (below_step (by repeat (first | (with_reducible first | exact HB.out | apply below_alloc | apply pw_below_drewN | apply below_drew1 | refine below_set ?_ (IsS158.ge HI0.out)) | exact HB.out)) hb); clear HO142; clear HI0; clear HK; clear HB; have HO142 := n0_; have HO148 := n1_; have HI0 := n2_; have HK := n3_; have HB := n4_; clear n0_ n1_ n2_ n3_ n4_; clear hb ho11; obtain ⟨Ao13, co13, eo13⟩ := Kd.R_slice HO142.out; subst eo13) | ((with_reducible refine gate_builtin (b := .append) (xs := #[.tmp 17, .tmp 18]) rfl ?_); at_builtin; refine Kd.R_append_rows k44 w.heap.size rfl (.tmp 17) (.tmp 18) 23 44 (.agg #[(.int .i64 0), (.bool false), (.int .i64 0)]) 24 rfl Tryd.underlying23 info44 rfl (by decide) (by omega) v147 y146 t140 _ _ _ (fun k_ => some k_ ≠ (.slice Ao13 t140.length co13 : Value).ownBlock) (fun _ => False) rfl rfl ?aO ?aR (fun _ _ h => h) (fun _ h => h.elim) ?aF (Below.refl _ _) ?aS ?aL ?_; (case aR => repeat (first | exact (Kd.R_reads' HO142.out).2.2 | (with_reducible refine Kd.C_alloc ?_ _) | (with_reducible refine Kd.C_drewN ?_ _) | (with_reducible refine Kd.C_drew ?_))); (case aF => exact (fun k_ hk => Kd.fresh' (Kd.R_lt (ru HO142.out)) k_ hk)); (case aO => exact (by (with_reducible repeat (first | apply Kd.R_alloc | apply Kd.R_drewN | apply Kd.R_drew)); exact Kd.R_mono HO148.out (fun _ hk => hk.2))); (case aS => exact (keep_size (w := w) (g := g) (row := none) (by repeat (first | (with_reducible first | exact HK.out | apply KeepBut.set_ | apply keep_drewN | apply keep_drew | apply keep_alloc) | exact HK.out)))); (case aL => have := LMc6.out; omega); intro v150 w12 ho hb hg hat; rw [← Ny149.out] at ho; have n0_ := Aside0.mk (IsS158.grown (by repeat (first | (with_reducible first | exact HI0.out | apply IsS158.alloc | apply IsS158.drewN | apply IsS158.drew | apply IsS158.set_1) | exact HI0.out)) hg (IsS158.own_ne HI0.out HO148.out (by decide))); have n1_ := Aside0.mk (Kd.R_after (ok := (fun _ => True)) (ru HO142.out) hg hat); have n2_ := Aside0.mk (below_weaken (by repeat (first | (with_reducible first | exact HB.out | apply below_alloc | apply pw_below_drewN | apply below_drew1 | refine below_set ?_ (IsS158.ge HI0.out)) | exact HB.out)) HL.out hb); have n3_ := Aside0.mk (KeepBut.trans (by repeat (first | (with_reducible first | exact HK.out | apply KeepBut.set_ | apply keep_drewN | apply keep_drew | apply keep_alloc) | exact HK.out)) (KeepBut.of_grown hg g) (Kd.R_base2 HO148.out)); have n4_ := Aside0.mk (ho); clear HI0; clear HO142; clear HB; clear HK; clear HO148; have HI0 := n0_; have HO142 := n1_; have HB := n2_; have HK := n3_; have HO151 := n4_; clear n0_ n1_ n2_ n3_ n4_; clear ho hb hg hat))
   go_loopg [7] k (fun kq v7 w' => ∃ (x6_1 : List (S44)) (x7_1 : Int) (x1001_1 : Int), v7 = .int .i64 x7_1 ∧ Aside0 (spec_l92Discant.l0 kq t140 x6_1 x7_1 s0_0 x1001_1 = some (r1, r2, r3)) ∧ Aside0 (kq ≤ k) ∧ Aside0 (Kd.R k44 44 w' w.heap.size (fun k_ => some k_ ≠ (v150 : Value).ownBlock) (.slice Ao13 t140.length co13) t140) ∧ Aside0 (Kd.R k44 44 w' w.heap.size (fun k_ => some k_ ≠ ((.slice Ao13 t140.length co13) : Value).ownBlock) v150 x6_1) ∧ Aside0 (IsS158 w0 w' g s0_0 x1001_1) ∧ Aside0 (KeepBut w w' g none) ∧ Aside0 (Below w0.heap.size w0 w'))
   case atStart => exact ⟨(y149), (0), (t145), (by first | rfl | (simp; done) | (simp [*]; done)), H', ⟨Nat.le_refl _⟩, ⟨by (with_reducible repeat (first | apply Kd.R_alloc | apply Kd.R_drewN | apply Kd.R_drew)); exact Kd.R_mono HO142.out (fun _ hk => hk.2)⟩, ⟨ru HO151.out⟩, ⟨by repeat (first | (with_reducible first | exact HI0.out | apply IsS158.alloc | apply IsS158.drewN | apply IsS158.drew | apply IsS158.set_1) | exact HI0.out)⟩, ⟨by repeat (first | (with_reducible first | exact HK.out | apply KeepBut.set_ | apply keep_drewN | apply keep_drew | apply keep_alloc) | exact HK.out)⟩, ⟨by repeat (first | (with_reducible first | exact HB.out | apply below_alloc | apply pw_below_drewN | apply below_drew1 | refine below_set ?_ (IsS158.ge HI0.out)) | exact HB.out)⟩⟩
   case round =>
    clear H'
    try clear p2
    try clear c5
    try clear c5b0
    try clear c5b1
    try clear c6
    try clear p6
    try clear c8
    obtain ⟨x6_1, x7_1, x1001_1, rfl, HA, HK1, HO_5, HO_6, HI0, HK, HB⟩ := hrel
    cases gk with
    | zero => exact absurd HA.out (by simp [spec_l92Discant.l0])
    | succ k1 =>
     have H := HA.out
     clear HA
     simp only [spec_l92Discant.l0] at H
     by_cases c14 : x7_1 < (x6_1.length : Int)
     ·rw [if_pos c14] at H
      have c14b0 : decide (x7_1 < (x6_1.length : Int)) = true := decide_eq_true c14
      clear c14
      obtain ⟨y152, hy152⟩ : ∃ y_ : List Int, y_ = (([4, 4, 3, 7, 0, 2] : List Int)) := ⟨_, rfl⟩
      replace H : ((spec_l6Rd_pick.f k1 s0_0 x1001_1 6).bind fun bt155 => (if 0 ≤ bt155.1 then (if bt155.1 < (y152.length : Int) then (if 0 ≤ x7_1 then (spec_l92Discant.l0 k1 t140 (x6_1.set (x7_1 : Int).toNat (⟨(⟨mn 20 (wrap64 ((mx 0 ((rd_T44 x6_1 x7_1).f0.f0)) + (rd y152 bt155.1))), false⟩ : S30), (rd_T44 x6_1 x7_1).f1⟩ : S44)) (wrap64 (x7_1 + 1)) s0_0 bt155.2) else (none)) else (none)) else (none))) = some (r1, r2, r3) := by first | (rw [hy152]; with_reducible exact H) | (have H2_ := (Option.bind_some _ _).symm.trans H; rw [hy152]; with_reducible exact H2_) | (have H2_ := (Option.bind_some _ _).symm.trans H; with_reducible exact H2_) | with_reducible exact H | (rw [hy152]; exact H) | exact H
      have Ny152 := Aside0.mk hy152
      clear hy152
      replace H := Option.bind_eq_some_iff.mp H
      obtain ⟨⟨t155, t156⟩, A150, H⟩ := H
      replace H : (if 0 ≤ t155 then (if t155 < (y152.length : Int) then (if 0 ≤ x7_1 then (spec_l92Discant.l0 k1 t140 (x6_1.set (x7_1 : Int).toNat (⟨(⟨mn 20 (wrap64 ((mx 0 ((rd_T44 x6_1 x7_1).f0.f0)) + (rd y152 t155))), false⟩ : S30), (rd_T44 x6_1 x7_1).f1⟩ : S44)) (wrap64 (x7_1 + 1)) s0_0 t156) else (none)) else (none)) else (none)) = some (r1, r2, r3) := H
      have A15 := Aside0.mk A150
      clear A150
      by_cases c16 : 0 ≤ t155
      ·rw [if_pos c16] at H
       have c16b0 : decide (0 ≤ t155) = true := decide_eq_true c16
       clear c16
       by_cases c17 : t155 < (y152.length : Int)
       ·rw [if_pos c17] at H
        have c17b0 : decide (t155 < (y152.length : Int)) = true := decide_eq_true c17
        clear c17
        by_cases c18 : 0 ≤ x7_1
        ·rw [if_pos c18] at H
         have c18b0 : decide (0 ≤ x7_1) = true := decide_eq_true c18
         clear c18
         obtain ⟨ji19, hji19⟩ : ∃ j_ : Int, (mx 0 ((rd_T44 x6_1 x7_1).f0.f0)) = j_ := ⟨_, rfl⟩
         replace H : (spec_l92Discant.l0 k1 t140 (x6_1.set (x7_1 : Int).toNat (⟨(⟨mn 20 (wrap64 ((ji19) + (rd y152 t155))), false⟩ : S30), (rd_T44 x6_1 x7_1).f1⟩ : S44)) (wrap64 (x7_1 + 1)) s0_0 t156) = some (r1, r2, r3) := by first | (rw [hji19] at H; exact H) | (simp only [hji19] at H ⊢; exact H)
         (try rw [hji19] at A15)
         have hji19_ : (if 0 < ((rd_T44 x6_1 x7_1).f0.f0) then ((rd_T44 x6_1 x7_1).f0.f0) else 0) = ji19 := hji19
         obtain ⟨ji20, hji20⟩ : ∃ j_ : Int, (mn 20 (wrap64 ((ji19) + (rd y152 t155)))) = j_ := ⟨_, rfl⟩
         replace H : (spec_l92Discant.l0 k1 t140 (x6_1.set (x7_1 : Int).toNat (⟨(⟨ji20, false⟩ : S30), (rd_T44 x6_1 x7_1).f1⟩ : S44)) (wrap64 (x7_1 + 1)) s0_0 t156) = some (r1, r2, r3) := by first | (rw [hji20] at H; exact H) | (simp only [hji20] at H ⊢; exact H)
         (try rw [hji20] at A15)
         have hji20_ : (if (wrap64 ((ji19) + (rd y152 t155))) < 20 then (wrap64 ((ji19) + (rd y152 t155))) else 20) = ji20 := hji20
         obtain ⟨y159, hy159⟩ : ∃ y_ : List (S44), y_ = (x6_1.set (x7_1 : Int).toNat (⟨(⟨ji20, false⟩ : S30), (rd_T44 x6_1 x7_1).f1⟩ : S44)) := ⟨_, rfl⟩
         replace H : (spec_l92Discant.l0 k1 t140 y159 (wrap64 (x7_1 + 1)) s0_0 t156) = some (r1, r2, r3) := by first | (rw [hy159]; with_reducible exact H) | (have H2_ := (Option.bind_some _ _).symm.trans H; rw [hy159]; with_reducible exact H2_) | (have H2_ := (Option.bind_some _ _).symm.trans H; with_reducible exact H2_) | with_reducible exact H | (rw [hy159]; exact H) | exact H
         have Ny159 := Aside0.mk hy159
         clear hy159
         have H' := Aside0.mk H
         clear H
         obtain ⟨Ao22, co22, eo22⟩ := Kd.R_slice HO_6.out
         subst eo22
         go_wp2_with (first | ((with_reducible refine gate_dst (N := 26) rfl ?_); refine Kd.R_lit (Kd.int .i64) _ 3 ?hg (N := 26) ?hd (xs := ([4, 4, 3, 7, 0, 2] : List Int)) (inner := [.int .i64 4, .int .i64 4, .int .i64 3, .int .i64 7, .int .i64 0, .int .i64 2]) (ok := fun _ => True) (okp := fun _ => True) ?hr ?hp (fun _ hk => hk) trivial (Below.refl _ _) (Nat.le_refl _) (by simp) ?_; (case hd => rfl); (case hg => rfl); (case hr => first | (go_simp; done) | (go_simp; rfl)); (case hp => exact (Reps.one (show Kd.M (Kd.int .i64) _ _ _ 4 [.int .i64 4] from rfl) (Reps.one (show Kd.M (Kd.int .i64) _ _ _ 4 [.int .i64 4] from rfl) (Reps.one (show Kd.M (Kd.int .i64) _ _ _ 3 [.int .i64 3] from rfl) (Reps.one (show Kd.M (Kd.int .i64) _ _ _ 7 [.int .i64 7] from rfl) (Reps.one (show Kd.M (Kd.int .i64) _ _ _ 0 [.int .i64 0] from rfl) (Reps.one (show Kd.M (Kd.int .i64) _ _ _ 2 [.int .i64 2] from rfl) (Reps.none _ _)))))))); intro v153 w23 ho24 hb hg_ hnew_; clear hg_ hnew_; (first | rw [← Ny152.out] at ho24 | (simp only [Int.reduceToNat] at ho24; rw [← Ny152.out] at ho24)); have n0_ := Aside0.mk (Kd.R_below (ru HO_5.out) hb); have n1_ := Aside0.mk (Kd.R_below (ru HO_6.out) hb); have n2_ := Aside0.mk (Kd.R_lower ho24 (keep_size (w := w) (g := g) (row := none) (by repeat (first | (with_reducible first | exact HK.out | apply KeepBut.set_ | apply keep_drewN | apply keep_drew | apply keep_alloc) | exact HK.out)))); have n3_ := Aside0.mk (IsS158.below (by repeat (first | (with_reducible first | exact HI0.out | apply IsS158.alloc | apply IsS158.drewN | apply IsS158.drew | apply IsS158.set_1) | exact HI0.out)) hb); have n4_ := Aside0.mk (KeepBut.trans (by repeat (first | (with_reducible first | exact HK.out | apply KeepBut.set_ | apply keep_drewN | apply keep_drew | apply keep_alloc) | exact HK.out)) (KeepBut.of_below hb g none) (.inl rfl)); have n5_ := Aside0.mk (below_step (by repeat (first | (with_reducible first | exact HB.out | apply below_alloc | apply pw_below_drewN | apply below_drew1 | refine below_set ?_ (IsS158.ge HI0.out)) | exact HB.out)) hb); clear HO_5; clear HO_6; clear HI0; clear HK; clear HB; have HO_5 := n0_; have HO_6 := n1_; have HO154 := n2_; have HI0 := n3_; have HK := n4_; have HB := n5_; clear n0_ n1_ n2_ n3_ n4_ n5_; clear hb ho24) | ((with_reducible refine gate_callee (f := 83) rfl ?_); refine goesL_ (some 28) rfl rfl Tryd.func83 (by kernel_rfl) rfl #[.pointer (some ⟨g, 0, none⟩), .int .i64 6] rfl (by (try simp only [List.map_toArray, List.map_cons, List.map_nil]); first | done | rfl | (simp only [List.length_drop, List.length_take]; rfl)) ?_; (with_reducible refine (spec_l6Rd_pick.calls k1 g s0_0 x1001_1 6 t155 t156 w0 _ ?side1 ?side2 A15.out).mono ?_); (case side1 => repeat (first | (with_reducible first | exact HI0.out | apply IsS158.alloc | apply IsS158.drewN | apply IsS158.drew | apply IsS158.set_1) | exact HI0.out)); (case side2 => repeat (first | (with_reducible first | exact HB.out | apply below_alloc | apply pw_below_drewN | apply below_drew1 | refine below_set ?_ (IsS158.ge HI0.out)) | exact HB.out)); rintro e w25 ⟨rfl, hi, hb, hk⟩; refine ⟨_, rfl, ?_⟩; have n0_ := Aside0.mk (Kd.R_mono (Kd.R_keep (IsS158.apart (show IsS158 w0 _ g s0_0 x1001_1 from by repeat (first | (with_reducible first | exact HI0.out | apply IsS158.alloc | apply IsS158.drewN | apply IsS158.drew | apply IsS158.set_1) | exact HI0.out)) (ru HO_5.out) (by decide)) hk (fun _ h => h.2)) (fun _ h => h.1)); have n1_ := Aside0.mk (Kd.R_mono (Kd.R_keep (IsS158.apart (show IsS158 w0 _ g s0_0 x1001_1 from by repeat (first | (with_reducible first | exact HI0.out | apply IsS158.alloc | apply IsS158.drewN | apply IsS158.drew | apply IsS158.set_1) | exact HI0.out)) (ru HO_6.out) (by decide)) hk (fun _ h => h.2)) (fun _ h => h.1)); have n2_ := Aside0.mk (Kd.R_mono (Kd.R_keep (IsS158.apart (show IsS158 w0 _ g s0_0 x1001_1 from by repeat (first | (with_reducible first | exact HI0.out | apply IsS158.alloc | apply IsS158.drewN | apply IsS158.drew | apply IsS158.set_1) | exact HI0.out)) (ru HO154.out) (by decide)) hk (fun _ h => h.2)) (fun _ h => h.1)); have n3_ := Aside0.mk (KeepBut.trans (by repeat (first | (with_reducible first | exact HK.out | apply KeepBut.set_ | apply keep_drewN | apply keep_drew | apply keep_alloc) | exact HK.out)) hk (.inl rfl)); have n4_ := Aside0.mk (hb); have n5_ := Aside0.mk (hi); clear HO_5; clear HO_6; clear HO154; clear HK; clear HB; clear HI0; have HO_5 := n0_; have HO_6 := n1_; have HO154 := n2_; have HK := n3_; have HB := n4_; have HI0 := n5_; clear n0_ n1_ n2_ n3_ n4_ n5_; (try clear hb); (try clear hb2); (try clear hk); (try clear hi); obtain ⟨Ao26, co26, eo26⟩ := Kd.R_slice HO154.out; subst eo26; have p157 : 0 ≤ (t155 : Int) := of_decide_eq_true (by first | (with_reducible assumption) | assumption); have q157 : t155 < (y152.length : Int) := of_decide_eq_true (by first | (with_reducible assumption) | assumption); obtain ⟨ad157, e157, hx157_0⟩ := Kd.at_int (Kd.R_reads' HO154.out).2.2 t155 p157 q157; cases e157; replace p157 := eq_true p157; replace q157 := eq_true q157; have p158 : 0 ≤ (x7_1 : Int) := of_decide_eq_true (by first | (with_reducible assumption) | assumption); have q158 : x7_1 < (x6_1.length : Int) := of_decide_eq_true (by first | (with_reducible assumption) | assumption); obtain ⟨ad158, e158, hx158_0, hx158_1, hx158_2⟩ := at_T44 (Kd.R_reads' HO_6.out).2.2 x7_1 p158 q158; cases e158; replace p158 := eq_true p158; replace q158 := eq_true q158; have p21 : 0 ≤ (x7_1 : Int) := of_decide_eq_true (by first | (with_reducible assumption) | assumption); have q21 : (x7_1 : Int) < ((x6_1.length : Int) : Int) := of_decide_eq_true (by first | (with_reducible assumption) | assumption); obtain ⟨go21, co21, eo21, gb21, gl21, cl21, HG21⟩ := Kd.R_form HO_6.out (by omega); (first | cases eo21 | (injection eo21 with ea_ en_ ec_; (first | subst ea_ | (injection ea_ with ea_; subst ea_)); subst ec_; clear en_)); have GB21 := Aside0.mk gb21; have GG21 := Aside0.mk HG21; clear gb21 gl21 HG21; (first | simp only [add_plain] at hx158_0 | skip); (first | simp only [add_plain] at hx158_1 | skip); (first | simp only [add_plain] at hx158_2 | skip); obtain ⟨ce21, hcl21, hM21, hcc21, hfr21⟩ := Kd.R_elem HO_6.out z44 (x7_1 : Int) p21 q21; obtain rfl := k44_openM hM21; have hx21_0 : w25.cell? ⟨go21, (x7_1 : Int).toNat * 3, none⟩ = some (.int .i64 ((rd_T44 x6_1 x7_1).f0.f0)) := hcc21 0 _ rfl; have hx21_1 : w25.cell? ⟨go21, (x7_1 : Int).toNat * 3 + 1, none⟩ = some (.bool ((rd_T44 x6_1 x7_1).f0.f1)) := hcc21 1 _ rfl; have hx21_2 : w25.cell? ⟨go21, (x7_1 : Int).toNat * 3 + 2, none⟩ = some (.int .i64 ((rd_T44 x6_1 x7_1).f1)) := hcc21 2 _ rfl; have hf21_0 : w25.frozen? ⟨go21, (x7_1 : Int).toNat * 3, none⟩ = false := hfr21 0; have hf21_1 : w25.frozen? ⟨go21, (x7_1 : Int).toNat * 3 + 1, none⟩ = false := hfr21 1; have hf21_2 : w25.frozen? ⟨go21, (x7_1 : Int).toNat * 3 + 2, none⟩ = false := hfr21 2; clear hcl21 hcc21 hfr21 hM21; replace p21 := eq_true p21; replace q21 := eq_true q21; have HX27 := Aside0.mk (show Kd.R k44 44 w25 w.heap.size (fun k_ => some k_ ≠ (.slice Ao13 t140.length co13 : Value).ownBlock) (.slice (some ⟨go21, 0, none⟩) x6_1.length co22) x6_1 from (ru HO_6.out)); obtain ⟨ce27, hcl27, hM27, hcc27, hfr27⟩ := Kd.R_elem HX27.out z44 (x7_1 : Int) (of_decide_eq_true (by first | (with_reducible assumption) | assumption)) (by have h_ : (x7_1 : Int) < ((x6_1.length : Int) : Int) := of_decide_eq_true (by first | (with_reducible assumption) | assumption); first | exact h_ | (have e_ := (Kd.R_reads' HO_6.out).1; omega) | simpa using h_); obtain rfl := k44_openM hM27; have HP27 := Kd.R_seg HX27.out (x7_1 : Int) (of_decide_eq_true (by first | (with_reducible assumption) | assumption)) (by have h_ : (x7_1 : Int) < ((x6_1.length : Int) : Int) := of_decide_eq_true (by first | (with_reducible assumption) | assumption); first | exact h_ | (have e_ := (Kd.R_reads' HO_6.out).1; omega) | simpa using h_) (seg := [.int .i64 ji20, .bool false]) (j := 0) hcl27 hcc27 (show 2 ≤ 3 from by decide) (x' := (⟨(⟨ji20, false⟩ : S30), (rd_T44 x6_1 x7_1).f1⟩ : S44)) (k44_mkM _ _ _ (⟨(⟨ji20, false⟩ : S30), (rd_T44 x6_1 x7_1).f1⟩ : S44) ) (fun _ hk => hk); have hx27_0 := hcc27 0 _ rfl; (try simp only [show (k44).sz = 3 from rfl, Nat.mul_one, Nat.add_zero] at hx27_0); have hf27_0 := hfr27 0; (try simp only [show (k44).sz = 3 from rfl, Nat.mul_one, Nat.add_zero] at hf27_0); have hx27_1 := hcc27 1 _ rfl; (try simp only [show (k44).sz = 3 from rfl, Nat.mul_one, Nat.add_zero] at hx27_1); have hf27_1 := hfr27 1; (try simp only [show (k44).sz = 3 from rfl, Nat.mul_one, Nat.add_zero] at hf27_1); clear hcl27 hcc27 hfr27 hM27) | ((with_reducible refine gate_store (t := 30) (p := 45) rfl ?_); refine store_event (t := 30) (p := 45) (v := ?vo_w28) (w1 := ((w25.setCell ⟨go21, (x7_1 : Int).toNat * 3, none⟩ (.int .i64 ji20)).setCell ⟨go21, (x7_1 : Int).toNat * 3 + 1, none⟩ (.bool false))) ?hg ?ho ?hn ?hr ?_; (case ho => rfl); (case hg => rfl); (case hn => rfl); (case hr => first | (go_simp; done) | (go_simp; rfl)); intro w28 hw; have hg : w25.grownBy w28 (some go21) := (by rw [hw]; exact HP27.2); have hp_ : Kd.R k44 44 w28 w.heap.size (fun k_ => some k_ ≠ (.slice Ao13 t140.length co13 : Value).ownBlock) (.slice (some ⟨go21, 0, none⟩) x6_1.length co22) y159 := (by rw [hw, Ny159.out]; exact HP27.1); clear HP27; have n0_ := Aside0.mk (Kd.R_after (v := (.slice (some ⟨go21, 0, none⟩) x6_1.length co22)) (v1 := (.slice (some ⟨go21, 0, none⟩) x6_1.length co22)) (ok := (fun _ => True)) (by (with_reducible repeat (first | apply Kd.R_alloc | apply Kd.R_drewN | apply Kd.R_drew)); exact Kd.R_mono HO_5.out (fun _ hk => ⟨trivial, hk⟩)) hg (.inl rfl)); have n1_ := Aside0.mk (hp_); have n2_ := Aside0.mk (IsS158.grown (by repeat (first | (with_reducible first | exact HI0.out | apply IsS158.alloc | apply IsS158.drewN | apply IsS158.drew | apply IsS158.set_1) | exact HI0.out)) hg (IsS158.own_ne HI0.out HO_6.out (by decide))); have n3_ := Aside0.mk (Kd.R_over' (v := (.slice (some ⟨go21, 0, none⟩) x6_1.length co22)) (ru HO154.out) (Kd.R_typed HO_6.out) (by decide) hg); have n4_ := Aside0.mk ((by rw [hw]; exact below_set (below_set (HB.out) (Nat.le_trans HL.out GB21.out)) (Nat.le_trans HL.out GB21.out) : Below w0.heap.size w0 w28)); have n5_ := Aside0.mk (KeepBut.trans (by repeat (first | (with_reducible first | exact HK.out | apply KeepBut.set_ | apply keep_drewN | apply keep_drew | apply keep_alloc) | exact HK.out)) (KeepBut.of_grown hg g) (Kd.R_base2 HO_6.out)); clear HO_5; clear HO_6; clear HI0; clear HO154; clear HB; clear HK; have HO_5 := n0_; have HO_6 := n1_; have HI0 := n2_; have HO154 := n3_; have HB := n4_; have HK := n5_; clear n0_ n1_ n2_ n3_ n4_ n5_; clear hg hw hp_))
         go_roundg k1
         case measure => have := HK1.out; omega
         case rel => exact ⟨(y159), (wrap64 (x7_1 + 1)), (t156), (by first | rfl | (simp; done) | (simp [*]; done)), H', ⟨by have := HK1.out; omega⟩, ⟨by (with_reducible repeat (first | apply Kd.R_alloc | apply Kd.R_drewN | apply Kd.R_drew)); exact Kd.R_mono HO_5.out (fun _ hk => hk.2)⟩, ⟨ru HO_6.out⟩, ⟨by repeat (first | (with_reducible first | exact HI0.out | apply IsS158.alloc | apply IsS158.drewN | apply IsS158.drew | apply IsS158.set_1) | exact HI0.out)⟩, ⟨by repeat (first | (with_reducible first | exact HK.out | apply KeepBut.set_ | apply keep_drewN | apply keep_drew | apply keep_alloc) | exact HK.out)⟩, ⟨by repeat (first | (with_reducible first | exact HB.out | apply below_alloc | apply pw_below_drewN | apply below_drew1 | refine below_set ?_ (IsS158.ge HI0.out)) | exact HB.out)⟩⟩
        ·rw [if_neg c18] at H
         exact absurd H (by simp)
       ·rw [if_neg c17] at H
        exact absurd H (by simp)
      ·rw [if_neg c16] at H
       exact absurd H (by simp)
     ·rw [if_neg c14] at H
      have c14b0 : decide (x7_1 < (x6_1.length : Int)) = false := decide_eq_false c14
      clear c14
      simp only [Option.some.injEq, Prod.mk.injEq] at H
      obtain ⟨rfl, rfl, rfl⟩ := H
      obtain ⟨Ao29, co29, eo29⟩ := Kd.R_slice HO_6.out
      subst eo29
      go_wp2
      go_ret2
      exact ⟨_, _, by first | rfl | (simp [errW_none, errW_some] <;> rfl) | (simp [*, errW_none, errW_some] <;> rfl), ru HO_5.out, ru HO_6.out, by repeat (first | (with_reducible first | exact HI0.out | apply IsS158.alloc | apply IsS158.drewN | apply IsS158.drew | apply IsS158.set_1) | exact HI0.out), by repeat (first | (with_reducible first | exact HB.out | apply below_alloc | apply pw_below_drewN | apply below_drew1 | refine below_set ?_ (IsS158.ge HI0.out)) | exact HB.out), by repeat (first | (with_reducible first | exact HK.out | apply KeepBut.set_ | apply keep_drewN | apply keep_drew | apply keep_alloc) | exact HK.out)⟩
  ·rw [if_neg c6] at H
   exact absurd H (by simp)
 ·rw [if_neg c5] at H
  have c5b0 : (t144 == 0) = false := beq_eq_false_iff_ne.mpr c5
  have c5b1 : (t144 != 0) = true := bne_iff_ne.mpr c5
  replace H := Option.bind_eq_some_iff.mp H
  obtain ⟨⟨t160, t161⟩, A300, H⟩ := H
  replace H : (if t160 = 0 then ((spec_l92Part.f k s0_0 t161 (wrap64 (t138 + 1))).bind fun bt162 => (some (t140, bt162.1, bt162.2))) else ((spec_l92Part.f k s0_0 t161 t138).bind fun bt166 => (some (t140, bt166.1, bt166.2)))) = some (r1, r2, r3) := H
  have A30 := Aside0.mk A300
  clear A300
  by_cases c31 : t160 = 0
  ·rw [if_pos c31] at H
   have c31b0 : (t160 == 0) = true := beq_iff_eq.mpr c31
   have c31b1 : (t160 != 0) = false := bne_eq_false_iff_eq.mpr c31
   clear c31
   replace H := Option.bind_eq_some_iff.mp H
   obtain ⟨⟨t162, t165⟩, A320, H⟩ := H
   replace H : (some (t140, t162, t165)) = some (r1, r2, r3) := H
   have A32 := Aside0.mk A320
   clear A320
   simp only [Option.some.injEq, Prod.mk.injEq] at H
   obtain ⟨rfl, rfl, rfl⟩ := H
   go_enter Tryd.func66, Tryd.ntmps66
   go_wp2_with (first | ((with_reducible refine gate_callee (f := 83) rfl ?_); refine goesL_ (some 10) rfl rfl Tryd.func83 (by kernel_rfl) rfl #[.pointer (some ⟨g, 0, none⟩), .int .i64 12] rfl (by (try simp only [List.map_toArray, List.map_cons, List.map_nil]); first | done | rfl | (simp only [List.length_drop, List.length_take]; rfl)) ?_; (with_reducible refine (spec_l6Rd_pick.calls k g s0_0 s0_1 12 t138 t139 w0 _ ?side1 ?side2 A2.out).mono ?_); (case side1 => repeat (first | (with_reducible first | exact HI0.out | apply IsS158.alloc | apply IsS158.drewN | apply IsS158.drew | apply IsS158.set_1) | exact HI0.out)); (case side2 => repeat (first | (with_reducible first | exact HB.out | apply below_alloc | apply pw_below_drewN | apply below_drew1 | refine below_set ?_ (IsS158.ge HI0.out)) | exact HB.out)); rintro e w33 ⟨rfl, hi, hb, hk⟩; refine ⟨_, rfl, ?_⟩; have n0_ := Aside0.mk (KeepBut.trans (by repeat (first | (with_reducible first | exact HK.out | apply KeepBut.set_ | apply keep_drewN | apply keep_drew | apply keep_alloc) | exact HK.out)) hk (.inl rfl)); have n1_ := Aside0.mk (hb); have n2_ := Aside0.mk (hi); clear HK; clear HB; clear HI0; have HK := n0_; have HB := n1_; have HI0 := n2_; clear n0_ n1_ n2_; (try clear hb); (try clear hb2); (try clear hk); (try clear hi)) | ((with_reducible refine gate_callee (f := 82) rfl ?_); refine goesL_ (some 13) rfl rfl Tryd.func82 (by kernel_rfl) rfl #[.pointer (some ⟨g, 0, none⟩), .int .i64 t138] rfl (by (try simp only [List.map_toArray, List.map_cons, List.map_nil]); first | done | rfl | (simp only [List.length_drop, List.length_take]; rfl)) ?_; (with_reducible refine (spec_l92Part.calls k g s0_0 t139 t138 t140 t143 w0 _ ?side1 ?side2 A3.out).mono ?_); (case side1 => repeat (first | (with_reducible first | exact HI0.out | apply IsS158.alloc | apply IsS158.drewN | apply IsS158.drew | apply IsS158.set_1) | exact HI0.out)); (case side2 => repeat (first | (with_reducible first | exact HB.out | apply below_alloc | apply pw_below_drewN | apply below_drew1 | refine below_set ?_ (IsS158.ge HI0.out)) | exact HB.out)); rintro e w34 ⟨v141, rfl, ho0, hi, hb, hk⟩; refine ⟨_, rfl, ?_⟩; have n0_ := Aside0.mk (Kd.R_lower ho0 (keep_size (w := w) (g := g) (row := none) (by repeat (first | (with_reducible first | exact HK.out | apply KeepBut.set_ | apply keep_drewN | apply keep_drew | apply keep_alloc) | exact HK.out)))); have n1_ := Aside0.mk (KeepBut.trans (by repeat (first | (with_reducible first | exact HK.out | apply KeepBut.set_ | apply keep_drewN | apply keep_drew | apply keep_alloc) | exact HK.out)) hk (.inl rfl)); have n2_ := Aside0.mk (hb); have n3_ := Aside0.mk (hi); clear HK; clear HB; clear HI0; have HO142 := n0_; have HK := n1_; have HB := n2_; have HI0 := n3_; clear n0_ n1_ n2_ n3_; (try clear hb); (try clear hb2); (try clear hk); (try clear hi); (try clear ho0)) | ((with_reducible refine gate_callee (f := 83) rfl ?_); refine goesL_ (some 15) rfl rfl Tryd.func83 (by kernel_rfl) rfl #[.pointer (some ⟨g, 0, none⟩), .int .i64 2] rfl (by (try simp only [List.map_toArray, List.map_cons, List.map_nil]); first | done | rfl | (simp only [List.length_drop, List.length_take]; rfl)) ?_; (with_reducible refine (spec_l6Rd_pick.calls k g s0_0 t143 2 t144 t145 w0 _ ?side1 ?side2 A4.out).mono ?_); (case side1 => repeat (first | (with_reducible first | exact HI0.out | apply IsS158.alloc | apply IsS158.drewN | apply IsS158.drew | apply IsS158.set_1) | exact HI0.out)); (case side2 => repeat (first | (with_reducible first | exact HB.out | apply below_alloc | apply pw_below_drewN | apply below_drew1 | refine below_set ?_ (IsS158.ge HI0.out)) | exact HB.out)); rintro e w35 ⟨rfl, hi, hb, hk⟩; refine ⟨_, rfl, ?_⟩; have n0_ := Aside0.mk (Kd.R_mono (Kd.R_keep (IsS158.apart (show IsS158 w0 _ g s0_0 t143 from by repeat (first | (with_reducible first | exact HI0.out | apply IsS158.alloc | apply IsS158.drewN | apply IsS158.drew | apply IsS158.set_1) | exact HI0.out)) (ru HO142.out) (by decide)) hk (fun _ h => h.2)) (fun _ h => h.1)); have n1_ := Aside0.mk (KeepBut.trans (by repeat (first | (with_reducible first | exact HK.out | apply KeepBut.set_ | apply keep_drewN | apply keep_drew | apply keep_alloc) | exact HK.out)) hk (.inl rfl)); have n2_ := Aside0.mk (hb); have n3_ := Aside0.mk (hi); clear HO142; clear HK; clear HB; clear HI0; have HO142 := n0_; have HK := n1_; have HB := n2_; have HI0 := n3_; clear n0_ n1_ n2_ n3_; (try clear hb); (try clear hb2); (try clear hk); (try clear hi)) | ((with_reducible refine gate_callee (f := 83) rfl ?_); refine goesL_ (some 49) rfl rfl Tryd.func83 (by kernel_rfl) rfl #[.pointer (some ⟨g, 0, none⟩), .int .i64 8] rfl (by (try simp only [List.map_toArray, List.map_cons, List.map_nil]); first | done | rfl | (simp only [List.length_drop, List.length_take]; rfl)) ?_; (with_reducible refine (spec_l6Rd_pick.calls k g s0_0 t145 8 t160 t161 w0 _ ?side1 ?side2 A30.out).mono ?_); (case side1 => repeat (first | (with_reducible first | exact HI0.out | apply IsS158.alloc | apply IsS158.drewN | apply IsS158.drew | apply IsS158.set_1) | exact HI0.out)); (case side2 => repeat (first | (with_reducible first | exact HB.out | apply below_alloc | apply pw_below_drewN | apply below_drew1 | refine below_set ?_ (IsS158.ge HI0.out)) | exact HB.out)); rintro e w36 ⟨rfl, hi, hb, hk⟩; refine ⟨_, rfl, ?_⟩; have n0_ := Aside0.mk (Kd.R_mono (Kd.R_keep (IsS158.apart (show IsS158 w0 _ g s0_0 t145 from by repeat (first | (with_reducible first | exact HI0.out | apply IsS158.alloc | apply IsS158.drewN | apply IsS158.drew | apply IsS158.set_1) | exact HI0.out)) (ru HO142.out) (by decide)) hk (fun _ h => h.2)) (fun _ h => h.1)); have n1_ := Aside0.mk (KeepBut.trans (by repeat (first | (with_reducible first | exact HK.out | apply KeepBut.set_ | apply keep_drewN | apply keep_drew | apply keep_alloc) | exact HK.out)) hk (.inl rfl)); have n2_ := Aside0.mk (hb); have n3_ := Aside0.mk (hi); clear HO142; clear HK; clear HB; clear HI0; have HO142 := n0_; have HK := n1_; have HB := n2_; have HI0 := n3_; clear n0_ n1_ n2_ n3_; (try clear hb); (try clear hb2); (try clear hk); (try clear hi)) | ((with_reducible refine gate_callee (f := 82) rfl ?_); refine goesL_ (some 56) rfl rfl Tryd.func82 (by kernel_rfl) rfl #[.pointer (some ⟨g, 0, none⟩), .int .i64 (wrap64 (t138 + 1))] rfl (by (try simp only [List.map_toArray, List.map_cons, List.map_nil]); first | done | rfl | (simp only [List.length_drop, List.length_take]; rfl)) ?_; (with_reducible refine (spec_l92Part.calls k g s0_0 t161 (wrap64 (t138 + 1)) t162 t165 w0 _ ?side1 ?side2 A32.out).mono ?_); (case side1 => repeat (first | (with_reducible first | exact HI0.out | apply IsS158.alloc | apply IsS158.drewN | apply IsS158.drew | apply IsS158.set_1) | exact HI0.out)); (case side2 => repeat (first | (with_reducible first | exact HB.out | apply below_alloc | apply pw_below_drewN | apply below_drew1 | refine below_set ?_ (IsS158.ge HI0.out)) | exact HB.out)); rintro e w37 ⟨v163, rfl, ho0, hi, hb, hk⟩; refine ⟨_, rfl, ?_⟩; have n0_ := Aside0.mk (Kd.R_mono (Kd.R_told (Kd.R_oldK (IsS158.apart (show IsS158 w0 _ g s0_0 t161 from by repeat (first | (with_reducible first | exact HI0.out | apply IsS158.alloc | apply IsS158.drewN | apply IsS158.drew | apply IsS158.set_1) | exact HI0.out)) (ru HO142.out) (by decide)) hk) (Kd.R_base ho0)) (fun _ h_ => h_.1)); have n1_ := Aside0.mk (Kd.R_lower (Kd.R_new' ho0 (Kd.R_lt (ru HO142.out))) (keep_size (w := w) (g := g) (row := none) (by repeat (first | (with_reducible first | exact HK.out | apply KeepBut.set_ | apply keep_drewN | apply keep_drew | apply keep_alloc) | exact HK.out)))); have n2_ := Aside0.mk (KeepBut.trans (by repeat (first | (with_reducible first | exact HK.out | apply KeepBut.set_ | apply keep_drewN | apply keep_drew | apply keep_alloc) | exact HK.out)) hk (.inl rfl)); have n3_ := Aside0.mk (hb); have n4_ := Aside0.mk (hi); clear HO142; clear HK; clear HB; clear HI0; have HO142 := n0_; have HO164 := n1_; have HK := n2_; have HB := n3_; have HI0 := n4_; clear n0_ n1_ n2_ n3_ n4_; (try clear hb); (try clear hb2); (try clear hk); (try clear hi); (try clear ho0)))
   go_ret2
   exact ⟨_, _, by first | rfl | (simp [errW_none, errW_some] <;> rfl) | (simp [*, errW_none, errW_some] <;> rfl), by (with_reducible repeat (first | apply Kd.R_alloc | apply Kd.R_drewN | apply Kd.R_drew)); exact Kd.R_mono HO142.out (fun _ hk => hk.2), by (with_reducible repeat (first | apply Kd.R_alloc | apply Kd.R_drewN | apply Kd.R_drew)); exact Kd.R_mono HO164.out (fun _ hk => hk.2), by repeat (first | (with_reducible first | exact HI0.out | apply IsS158.alloc | apply IsS158.drewN | apply IsS158.drew | apply IsS158.set_1) | exact HI0.out), by repeat (first | (with_reducible first | exact HB.out | apply below_alloc | apply pw_below_drewN | apply below_drew1 | refine below_set ?_ (IsS158.ge HI0.out)) | exact HB.out), by repeat (first | (with_reducible first | exact HK.out | apply KeepBut.set_ | apply keep_drewN | apply keep_drew | apply keep_alloc) | exact HK.out)⟩
  ·rw [if_neg c31] at H
   have c31b0 : (t160 == 0) = false := beq_eq_false_iff_ne.mpr c31
   have c31b1 : (t160 != 0) = true := bne_iff_ne.mpr c31
   replace H := Option.bind_eq_some_iff.mp H
   obtain ⟨⟨t166, t169⟩, A380, H⟩ := H
   replace H : (some (t140, t166, t169)) = some (r1, r2, r3) := H
   have A38 := Aside0.mk A380
   clear A380
   simp only [Option.some.injEq, Prod.mk.injEq] at H
   obtain ⟨rfl, rfl, rfl⟩ := H
   go_enter Tryd.func66, Tryd.ntmps66
   go_wp2_with (first | ((with_reducible refine gate_callee (f := 83) rfl ?_); refine goesL_ (some 10) rfl rfl Tryd.func83 (by kernel_rfl) rfl #[.pointer (some ⟨g, 0, none⟩), .int .i64 12] rfl (by (try simp only [List.map_toArray, List.map_cons, List.map_nil]); first | done | rfl | (simp only [List.length_drop, List.length_take]; rfl)) ?_; (with_reducible refine (spec_l6Rd_pick.calls k g s0_0 s0_1 12 t138 t139 w0 _ ?side1 ?side2 A2.out).mono ?_); (case side1 => repeat (first | (with_reducible first | exact HI0.out | apply IsS158.alloc | apply IsS158.drewN | apply IsS158.drew | apply IsS158.set_1) | exact HI0.out)); (case side2 => repeat (first | (with_reducible first | exact HB.out | apply below_alloc | apply pw_below_drewN | apply below_drew1 | refine below_set ?_ (IsS158.ge HI0.out)) | exact HB.out)); rintro e w39 ⟨rfl, hi, hb, hk⟩; refine ⟨_, rfl, ?_⟩; have n0_ := Aside0.mk (KeepBut.trans (by repeat (first | (with_reducible first | exact HK.out | apply KeepBut.set_ | apply keep_drewN | apply keep_drew | apply keep_alloc) | exact HK.out)) hk (.inl rfl)); have n1_ := Aside0.mk (hb); have n2_ := Aside0.mk (hi); clear HK; clear HB; clear HI0; have HK := n0_; have HB := n1_; have HI0 := n2_; clear n0_ n1_ n2_; (try clear hb); (try clear hb2); (try clear hk); (try clear hi)) | ((with_reducible refine gate_callee (f := 82) rfl ?_); refine goesL_ (some 13) rfl rfl Tryd.func82 (by kernel_rfl) rfl #[.pointer (some ⟨g, 0, none⟩), .int .i64 t138] rfl (by (try simp only [List.map_toArray, List.map_cons, List.map_nil]); first | done | rfl | (simp only [List.length_drop, List.length_take]; rfl)) ?_; (with_reducible refine (spec_l92Part.calls k g s0_0 t139 t138 t140 t143 w0 _ ?side1 ?side2 A3.out).mono ?_); (case side1 => repeat (first | (with_reducible first | exact HI0.out | apply IsS158.alloc | apply IsS158.drewN | apply IsS158.drew | apply IsS158.set_1) | exact HI0.out)); (case side2 => repeat (first | (with_reducible first | exact HB.out | apply below_alloc | apply pw_below_drewN | apply below_drew1 | refine below_set ?_ (IsS158.ge HI0.out)) | exact HB.out)); rintro e w40 ⟨v141, rfl, ho0, hi, hb, hk⟩; refine ⟨_, rfl, ?_⟩; have n0_ := Aside0.mk (Kd.R_lower ho0 (keep_size (w := w) (g := g) (row := none) (by repeat (first | (with_reducible first | exact HK.out | apply KeepBut.set_ | apply keep_drewN | apply keep_drew | apply keep_alloc) | exact HK.out)))); have n1_ := Aside0.mk (KeepBut.trans (by repeat (first | (with_reducible first | exact HK.out | apply KeepBut.set_ | apply keep_drewN | apply keep_drew | apply keep_alloc) | exact HK.out)) hk (.inl rfl)); have n2_ := Aside0.mk (hb); have n3_ := Aside0.mk (hi); clear HK; clear HB; clear HI0; have HO142 := n0_; have HK := n1_; have HB := n2_; have HI0 := n3_; clear n0_ n1_ n2_ n3_; (try clear hb); (try clear hb2); (try clear hk); (try clear hi); (try clear ho0)) | ((with_reducible refine gate_callee (f := 83) rfl ?_); refine goesL_ (some 15) rfl rfl Tryd.func83 (by kernel_rfl) rfl #[.pointer (some ⟨g, 0, none⟩), .int .i64 2] rfl (by (try simp only [List.map_toArray, List.map_cons, List.map_nil]); first | done | rfl | (simp only [List.length_drop, List.length_take]; rfl)) ?_; (with_reducible refine (spec_l6Rd_pick.calls k g s0_0 t143 2 t144 t145 w0 _ ?side1 ?side2 A4.out).mono ?_); (case side1 => repeat (first | (with_reducible first | exact HI0.out | apply IsS158.alloc | apply IsS158.drewN | apply IsS158.drew | apply IsS158.set_1) | exact HI0.out)); (case side2 => repeat (first | (with_reducible first | exact HB.out | apply below_alloc | apply pw_below_drewN | apply below_drew1 | refine below_set ?_ (IsS158.ge HI0.out)) | exact HB.out)); rintro e w41 ⟨rfl, hi, hb, hk⟩; refine ⟨_, rfl, ?_⟩; have n0_ := Aside0.mk (Kd.R_mono (Kd.R_keep (IsS158.apart (show IsS158 w0 _ g s0_0 t143 from by repeat (first | (with_reducible first | exact HI0.out | apply IsS158.alloc | apply IsS158.drewN | apply IsS158.drew | apply IsS158.set_1) | exact HI0.out)) (ru HO142.out) (by decide)) hk (fun _ h => h.2)) (fun _ h => h.1)); have n1_ := Aside0.mk (KeepBut.trans (by repeat (first | (with_reducible first | exact HK.out | apply KeepBut.set_ | apply keep_drewN | apply keep_drew | apply keep_alloc) | exact HK.out)) hk (.inl rfl)); have n2_ := Aside0.mk (hb); have n3_ := Aside0.mk (hi); clear HO142; clear HK; clear HB; clear HI0; have HO142 := n0_; have HK := n1_; have HB := n2_; have HI0 := n3_; clear n0_ n1_ n2_ n3_; (try clear hb); (try clear hb2); (try clear hk); (try clear hi)) | ((with_reducible refine gate_callee (f := 83) rfl ?_); refine goesL_ (some 49) rfl rfl Tryd.func83 (by kernel_rfl) rfl #[.pointer (some ⟨g, 0, none⟩), .int .i64 8] rfl (by (try simp only [List.map_toArray, List.map_cons, List.map_nil]); first | done | rfl | (simp only [List.length_drop, List.length_take]; rfl)) ?_; (with_reducible refine (spec_l6Rd_pick.calls k g s0_0 t145 8 t160 t161 w0 _ ?side1 ?side2 A30.out).mono ?_); (case side1 => repeat (first | (with_reducible first | exact HI0.out | apply IsS158.alloc | apply IsS158.drewN | apply IsS158.drew | apply IsS158.set_1) | exact HI0.out)); (case side2 => repeat (first | (with_reducible first | exact HB.out | apply below_alloc | apply pw_below_drewN | apply below_drew1 | refine below_set ?_ (IsS158.ge HI0.out)) | exact HB.out)); rintro e w42 ⟨rfl, hi, hb, hk⟩; refine ⟨_, rfl, ?_⟩; have n0_ := Aside0.mk (Kd.R_mono (Kd.R_keep (IsS158.apart (show IsS158 w0 _ g s0_0 t145 from by repeat (first | (with_reducible first | exact HI0.out | apply IsS158.alloc | apply IsS158.drewN | apply IsS158.drew | apply IsS158.set_1) | exact HI0.out)) (ru HO142.out) (by decide)) hk (fun _ h => h.2)) (fun _ h => h.1)); have n1_ := Aside0.mk (KeepBut.trans (by repeat (first | (with_reducible first | exact HK.out | apply KeepBut.set_ | apply keep_drewN | apply keep_drew | apply keep_alloc) | exact HK.out)) hk (.inl rfl)); have n2_ := Aside0.mk (hb); have n3_ := Aside0.mk (hi); clear HO142; clear HK; clear HB; clear HI0; have HO142 := n0_; have HK := n1_; have HB := n2_; have HI0 := n3_; clear n0_ n1_ n2_ n3_; (try clear hb); (try clear hb2); (try clear hk); (try clear hi)) | ((with_reducible refine gate_callee (f := 82) rfl ?_); refine goesL_ (some 56) rfl rfl Tryd.func82 (by kernel_rfl) rfl #[.pointer (some ⟨g, 0, none⟩), .int .i64 t138] rfl (by (try simp only [List.map_toArray, List.map_cons, List.map_nil]); first | done | rfl | (simp only [List.length_drop, List.length_take]; rfl)) ?_; (with_reducible refine (spec_l92Part.calls k g s0_0 t161 t138 t166 t169 w0 _ ?side1 ?side2 A38.out).mono ?_); (case side1 => repeat (first | (with_reducible first | exact HI0.out | apply IsS158.alloc | apply IsS158.drewN | apply IsS158.drew | apply IsS158.set_1) | exact HI0.out)); (case side2 => repeat (first | (with_reducible first | exact HB.out | apply below_alloc | apply pw_below_drewN | apply below_drew1 | refine below_set ?_ (IsS158.ge HI0.out)) | exact HB.out)); rintro e w43 ⟨v167, rfl, ho0, hi, hb, hk⟩; refine ⟨_, rfl, ?_⟩; have n0_ := Aside0.mk (Kd.R_mono (Kd.R_told (Kd.R_oldK (IsS158.apart (show IsS158 w0 _ g s0_0 t161 from by repeat (first | (with_reducible first | exact HI0.out | apply IsS158.alloc | apply IsS158.drewN | apply IsS158.drew | apply IsS158.set_1) | exact HI0.out)) (ru HO142.out) (by decide)) hk) (Kd.R_base ho0)) (fun _ h_ => h_.1)); have n1_ := Aside0.mk (Kd.R_lower (Kd.R_new' ho0 (Kd.R_lt (ru HO142.out))) (keep_size (w := w) (g := g) (row := none) (by repeat (first | (with_reducible first | exact HK.out | apply KeepBut.set_ | apply keep_drewN | apply keep_drew | apply keep_alloc) | exact HK.out)))); have n2_ := Aside0.mk (KeepBut.trans (by repeat (first | (with_reducible first | exact HK.out | apply KeepBut.set_ | apply keep_drewN | apply keep_drew | apply keep_alloc) | exact HK.out)) hk (.inl rfl)); have n3_ := Aside0.mk (hb); have n4_ := Aside0.mk (hi); clear HO142; clear HK; clear HB; clear HI0; have HO142 := n0_; have HO168 := n1_; have HK := n2_; have HB := n3_; have HI0 := n4_; clear n0_ n1_ n2_ n3_ n4_; (try clear hb); (try clear hb2); (try clear hk); (try clear hi); (try clear ho0)))
   go_ret2
   exact ⟨_, _, by first | rfl | (simp [errW_none, errW_some] <;> rfl) | (simp [*, errW_none, errW_some] <;> rfl), by (with_reducible repeat (first | apply Kd.R_alloc | apply Kd.R_drewN | apply Kd.R_drew)); exact Kd.R_mono HO142.out (fun _ hk => hk.2), by (with_reducible repeat (first | apply Kd.R_alloc | apply Kd.R_drewN | apply Kd.R_drew)); exact Kd.R_mono HO168.out (fun _ hk => hk.2), by repeat (first | (with_reducible first | exact HI0.out | apply IsS158.alloc | apply IsS158.drewN | apply IsS158.drew | apply IsS158.set_1) | exact HI0.out), by repeat (first | (with_reducible first | exact HB.out | apply below_alloc | apply pw_below_drewN | apply below_drew1 | refine below_set ?_ (IsS158.ge HI0.out)) | exact HB.out), by repeat (first | (with_reducible first | exact HK.out | apply KeepBut.set_ | apply keep_drewN | apply keep_drew | apply keep_alloc) | exact HK.out)⟩

/-! ### spec_l6Open: function 67 -/
def spec_l6Open.f (l0 : List Int) : Option (List Int × Int) := if (l0.length : Int) > 2000 then (if 2000 ≤ (l0.length : Int) then (some (l0.take 2000, 0)) else (none)) else (some (l0, 0))
set_option maxHeartbeats 8000000 in
set_option maxRecDepth 100000 in
theorem spec_l6Open.calls (A0 : Option Addr) (c0 : Nat) (l0 : List Int) (r1 : List Int) (r2 : Int) (w0 w : World) (hB : Below w0.heap.size w0 w) (hr0 : Kd.C (Kd.int .u8) w0 A0 l0.length l0) (hc0 : l0.length ≤ c0) (h : spec_l6Open.f l0 = some (r1, r2)) :
  Calls Tryd.prog 67 #[.slice A0 l0.length c0] w fun e w' => ∃ g_ : Nat, e = .returned (.pointer (some ⟨g_, 0, none⟩)) ∧ IsS158 w0 w' g_ r1 r2 ∧ Below w0.heap.size w0 w' ∧ Below w.heap.size w w' := by
 have hu158 := Tryd.underlying158
 have HR0 := Aside0.mk hr0
 have HC0 := Aside0.mk hc0
 clear hr0 hc0
 have HBW := Aside0.mk (Below.refl w.heap.size w)
 have HW0 := Aside0.mk hB.size
 have HB := Aside0.mk hB
 clear hB
 have H : (if (l0.length : Int) > 2000 then (if 2000 ≤ (l0.length : Int) then (some (l0.take 2000, 0)) else (none)) else (some (l0, 0))) = some (r1, r2) := h
 clear h
 by_cases c2 : (l0.length : Int) > 2000
 ·rw [if_pos c2] at H
  have c2b0 : decide (2000 < (l0.length : Int)) = true := decide_eq_true c2
  have c2b1 : decide (2000 < l0.length) = true := decide_eq_true (by omega)
  clear c2
  by_cases c3 : 2000 ≤ (l0.length : Int)
  ·rw [if_pos c3] at H
   have c3b0 := eq_true c3
   have c3b1 : decide (2000 ≤ (l0.length : Int)) = true := decide_eq_true c3
   clear c3
   simp only [Option.some.injEq, Prod.mk.injEq] at H
   obtain ⟨rfl, rfl⟩ := H
   obtain ⟨i04, hi04, _, hsz4, _⟩ := info_parts info5
   obtain ⟨hcut4, hA4, hC4⟩ := print_take_of (P := Tryd.prog) (Value.int .u8) 0 22 5 .i64 Tryd.underlying22 hi04 hsz4 A0 c0 l0 2000 (by omega) (of_decide_eq_true (by first | (with_reducible assumption) | assumption)) HC0.out
   have HR170 := Aside0.mk (Kd.C_of_reads (h1 := fun _ => rfl) (hA4 _ (Kd.reads_of_C HR0.out)))
   have HC170 := Aside0.mk hC4
   clear hA4 hC4 hi04 hsz4
   go_enter Tryd.func67, Tryd.ntmps67
   go_wp2_with (first | ((with_reducible refine gate_dst (N := 10) rfl ?_); refine box_event ?hg (N := 10) ?hd (cs := #[.slice A0 (l0.take 2000).length c0, .int .i64 0]) (t := 158) ?hr ?_; (case hd => rfl); (case hg => rfl); (case hr => first | (go_simp; done) | (go_simp; rfl)); intro gb171 hg w5 hbox hb; have n0_ := Aside0.mk (below_step HBW.out hb); have n1_ := Aside0.mk (below_step (bu HB.out) hb); have n2_ := Aside0.mk (hbox); have n3_ := Aside0.mk ((by rw [hg]; exact (below_size (bu HBW.out)) : w.heap.size ≤ gb171)); have n4_ := Aside0.mk ((Nat.le_trans HW0.out (by rw [hg]; exact (below_size (bu HBW.out)) : w.heap.size ≤ gb171) : w0.heap.size ≤ gb171)); clear HBW; clear HB; have HBW := n0_; have HB := n1_; have BK171 := n2_; have GW171 := n3_; have GE171 := n4_; clear n0_ n1_ n2_ n3_ n4_; clear hb hbox hg))
   go_ret
   exact ⟨_, rfl, (show IsS158 w0 _ gb171 (l0.take 2000) 0 from ⟨_, _, gu BK171.out, GE171.out, HR170.out⟩), bu HB.out, by repeat (first | (with_reducible first | exact HBW.out | apply below_alloc | apply pw_below_drewN | apply below_drew1 | refine below_set ?_ GW171.out) | exact HBW.out)⟩
  ·rw [if_neg c3] at H
   exact absurd H (by simp)
 ·rw [if_neg c2] at H
  have c2b0 : decide (2000 < (l0.length : Int)) = false := decide_eq_false c2
  have c2b1 : decide (2000 < l0.length) = false := decide_eq_false (by omega)
  clear c2
  simp only [Option.some.injEq, Prod.mk.injEq] at H
  obtain ⟨rfl, rfl⟩ := H
  go_enter Tryd.func67, Tryd.ntmps67
  go_wp2_with (first | ((with_reducible refine gate_dst (N := 10) rfl ?_); refine box_event ?hg (N := 10) ?hd (cs := #[.slice A0 l0.length c0, .int .i64 0]) (t := 158) ?hr ?_; (case hd => rfl); (case hg => rfl); (case hr => first | (go_simp; done) | (go_simp; rfl)); intro gb172 hg w6 hbox hb; have n0_ := Aside0.mk (below_step HBW.out hb); have n1_ := Aside0.mk (below_step (bu HB.out) hb); have n2_ := Aside0.mk (hbox); have n3_ := Aside0.mk ((by rw [hg]; exact (below_size (bu HBW.out)) : w.heap.size ≤ gb172)); have n4_ := Aside0.mk ((Nat.le_trans HW0.out (by rw [hg]; exact (below_size (bu HBW.out)) : w.heap.size ≤ gb172) : w0.heap.size ≤ gb172)); clear HBW; clear HB; have HBW := n0_; have HB := n1_; have BK172 := n2_; have GW172 := n3_; have GE172 := n4_; clear n0_ n1_ n2_ n3_ n4_; clear hb hbox hg))
  go_ret
  exact ⟨_, rfl, (show IsS158 w0 _ gb172 l0 0 from ⟨_, _, gu BK172.out, GE172.out, HR0.out⟩), bu HB.out, by repeat (first | (with_reducible first | exact HBW.out | apply below_alloc | apply pw_below_drewN | apply below_drew1 | refine below_set ?_ GW172.out) | exact HBW.out)⟩

/-! ### spec_DrawDiscantParallels: function 21 -/
def spec_DrawDiscantParallels.f (k : Nat) (l0 : List Int) : Option ((List (S44)) × (List (S44))) := (spec_l6Open.f l0).bind fun bt173 => ((spec_l92Discant.f k bt173.1 bt173.2).bind fun bt176 => (some (bt176.1, bt176.2.1)))
theorem spec_DrawDiscantParallels.mono : ∀ a0 k, LeO (spec_DrawDiscantParallels.f k a0) (spec_DrawDiscantParallels.f (k + 1) a0) := by
 intro a0 k
 unfold spec_DrawDiscantParallels.f
 repeat' first
   | (with_reducible exact spec_l92Discant.mono _ _ _)
   | (with_reducible exact LeO.refl _)
   | (with_reducible exact LeO.none _)
   | (with_reducible refine LeO.ite ?_ ?_)
   | (with_reducible refine LeO.bind ?_ (fun _ => ?_))
   | exact spec_l92Discant.mono _ _ _
   | exact LeO.none _
   | refine LeO.ite ?_ ?_
   | refine LeO.bind ?_ (fun _ => ?_)
set_option maxHeartbeats 8000000 in
set_option maxRecDepth 100000 in
theorem spec_DrawDiscantParallels.calls (k : Nat) (A0 : Option Addr) (c0 : Nat) (l0 : List Int) (r1 : List (S44)) (r2 : List (S44)) (w : World) (hr0 : Kd.C (Kd.int .u8) w A0 l0.length l0) (hc0 : l0.length ≤ c0) (h : spec_DrawDiscantParallels.f k l0 = some (r1, r2)) :
  Calls Tryd.prog 21 #[.slice A0 l0.length c0] w fun e w' => ∃ v0_ v1_ : Value, e = .returned (.tuple #[v0_, v1_]) ∧ Kd.R k44 44 w' w.heap.size (fun k_ => some k_ ≠ (v1_ : Value).ownBlock) v0_ r1 ∧ Kd.R k44 44 w' w.heap.size (fun k_ => some k_ ≠ (v0_ : Value).ownBlock) v1_ r2 ∧ Below w.heap.size w w' := by
 have HR0 := Aside0.mk hr0
 have HC0 := Aside0.mk hc0
 clear hr0 hc0
 have HB := Aside0.mk (Below.refl w.heap.size w)
 have H : ((spec_l6Open.f l0).bind fun bt173 => ((spec_l92Discant.f k bt173.1 bt173.2).bind fun bt176 => (some (bt176.1, bt176.2.1)))) = some (r1, r2) := h
 clear h
 replace H := Option.bind_eq_some_iff.mp H
 obtain ⟨⟨t173, t174⟩, A20, H⟩ := H
 replace H : ((spec_l92Discant.f k t173 t174).bind fun bt176 => (some (bt176.1, bt176.2.1))) = some (r1, r2) := H
 have A2 := Aside0.mk A20
 clear A20
 replace H := Option.bind_eq_some_iff.mp H
 obtain ⟨⟨t176, t179, t182⟩, A30, H⟩ := H
 replace H : (some (t176, t179)) = some (r1, r2) := H
 have A3 := Aside0.mk A30
 clear A30
 simp only [Option.some.injEq, Prod.mk.injEq] at H
 obtain ⟨rfl, rfl⟩ := H
 go_enter Tryd.func21, Tryd.ntmps21
 go_wp2_with (first | ((with_reducible refine gate_callee (f := 67) rfl ?_); refine goesL_ (some 5) rfl rfl Tryd.func67 (by kernel_rfl) rfl #[.slice A0 l0.length c0] rfl (by (try simp only [List.map_toArray, List.map_cons, List.map_nil]); first | done | rfl | (simp only [List.length_drop, List.length_take]; rfl)) ?_; (with_reducible refine (spec_l6Open.calls _ _ l0 t173 t174 w _ ?side1 ?side2 ?side3 A2.out).mono ?_); (case side1 => repeat (first | (with_reducible first | exact HB.out | apply below_alloc | apply pw_below_drewN | apply below_drew1) | exact HB.out)); (case side2 => exact HR0.out); (case side3 => exact HC0.out); rintro e w4 ⟨g175, rfl, hi, hb, hb2⟩; refine ⟨_, rfl, ?_⟩; have n0_ := Aside0.mk (hb); have n1_ := Aside0.mk (hi); clear HB; have HB := n0_; have HI175 := n1_; clear n0_ n1_; (try clear hb); (try clear hb2); (try clear hk); (try clear hi)) | ((with_reducible refine gate_callee (f := 66) rfl ?_); refine goesL_ (some 6) rfl rfl Tryd.func66 (by kernel_rfl) rfl #[.pointer (some ⟨g175, 0, none⟩)] rfl (by (try simp only [List.map_toArray, List.map_cons, List.map_nil]); first | done | rfl | (simp only [List.length_drop, List.length_take]; rfl)) ?_; (with_reducible refine (spec_l92Discant.calls k g175 t173 t174 t176 t179 t182 w _ ?side1 ?side2 A3.out).mono ?_); (case side1 => repeat (first | (with_reducible first | exact HI175.out | apply IsS158.alloc | apply IsS158.drewN | apply IsS158.drew | apply IsS158.set_1) | exact HI175.out)); (case side2 => repeat (first | (with_reducible first | exact HB.out | apply below_alloc | apply pw_below_drewN | apply below_drew1 | refine below_set ?_ (IsS158.ge HI175.out)) | exact HB.out)); rintro e w5 ⟨v177, v180, rfl, ho0, ho1, hi, hb, hk⟩; refine ⟨_, rfl, ?_⟩; have n0_ := Aside0.mk (Kd.R_lower ho0 (below_size (by repeat (first | (with_reducible first | exact HB.out | apply below_alloc | apply pw_below_drewN | apply below_drew1 | refine below_set ?_ (IsS158.ge HI175.out)) | exact HB.out)))); have n1_ := Aside0.mk (Kd.R_lower ho1 (below_size (by repeat (first | (with_reducible first | exact HB.out | apply below_alloc | apply pw_below_drewN | apply below_drew1 | refine below_set ?_ (IsS158.ge HI175.out)) | exact HB.out)))); have n2_ := Aside0.mk (hb); have n3_ := Aside0.mk (hi); clear HB; clear HI175; have HO178 := n0_; have HO181 := n1_; have HB := n2_; have HI175 := n3_; clear n0_ n1_ n2_ n3_; (try clear hb); (try clear hb2); (try clear hk); (try clear hi); (try clear ho0); (try clear ho1)))
 go_ret2
 exact ⟨_, _, by first | rfl | (simp [errW_none, errW_some] <;> rfl) | (simp [*, errW_none, errW_some] <;> rfl), ru HO178.out, ru HO181.out, by repeat (first | (with_reducible first | exact HB.out | apply below_alloc | apply pw_below_drewN | apply below_drew1 | refine below_set ?_ (IsS158.ge HI175.out)) | exact HB.out)⟩

/-- The tones of two parts, beat by beat. -/
def pairs (xs ys : List S30) : List S85 := List.zipWith (fun a b => ⟨a, b⟩) xs ys
def impl_soundsOf.f (k : Nat) (l0 : List (S44)) (l1 : List (S44)) : Option (List (S85) × Bool) := (impl_PartValid.f k l0).bind fun a => (impl_PartValid.f k l1).bind fun b => some (if a = true ∧ b = true ∧ (expand l0).length = (expand l1).length then (pairs (expand l0) (expand l1), true) else ([], false))
theorem impl_soundsOf.mono : ∀ a0 a1 k, LeO (impl_soundsOf.f k a0 a1) (impl_soundsOf.f (k + 1) a0 a1) := by
 intro a0 a1 k
 unfold impl_soundsOf.f
 exact LeO.bind (impl_PartValid.mono _ _) (fun _ => LeO.bind (impl_PartValid.mono _ _) (fun _ => LeO.refl _))
theorem R_empty0 {α : Type} (d : Kd α) (e : Nat) {W : World} {g base : Nat} (ok : Nat → Prop) (hok : ok g) (h : W.heap[g]? = some (.cells #[] e (0, 0))) (hb : base ≤ g) : d.R e W base ok (.slice (some ⟨g, 0, none⟩) 0 0) [] :=
 ⟨fun k hk => by
  simp [Value.ownBlock] at hk
  subst hk
  exact hok, [], ⟨by simp, .inr ⟨g, 0, #[], rfl, hb, h, Nat.le_refl _, by simp [maxLen], by simp, by simp⟩⟩, Reps.none _ _⟩
theorem pairs_snoc (xs ys : List S30) (i : Nat) (h0 : i < xs.length) (h1 : i < ys.length) : (pairs xs ys).take (i + 1) = (pairs xs ys).take i ++ [⟨xs[i], ys[i]⟩] := by
 have h : i < (pairs xs ys).length := by unfold pairs; rw [List.length_zipWith]; omega
 rw [List.take_succ_eq_append_getElem h]
 have e : (pairs xs ys)[i] = ⟨xs[i], ys[i]⟩ := by simp [pairs]
 rw [e]
set_option maxHeartbeats 4000000 in
set_option maxRecDepth 100000 in
theorem sounds_ok (k : Nat) (A0 : Option Addr) (c0 : Nat) (l0 : List (S44)) (A1 : Option Addr) (c1 : Nat) (l1 : List (S44)) (w : World) (hr0 : Kd.C k44 w A0 l0.length l0) (hc0 : l0.length ≤ c0) (hr1 : Kd.C k44 w A1 l1.length l1) (hc1 : l1.length ≤ c1)
  (h0 : impl_PartValid.f k l0 = some true) (h1 : impl_PartValid.f k l1 = some true) (he : (expand l0).length = (expand l1).length) (hp : 0 < (expand l0).length) :
  Calls Tryd.prog 68 #[.slice A0 l0.length c0, .slice A1 l1.length c1] w fun e w' => ∃ v0_ : Value, e = .returned (.tuple #[v0_, .bool true]) ∧ Kd.R k85 85 w' w.heap.size (fun _ => True) v0_ (pairs (expand l0) (expand l1)) ∧ Below w.heap.size w w' := by
 obtain ⟨hl0, hv0⟩ := valid_true h0
 obtain ⟨hl1, hv1⟩ := valid_true h1
 have HV0 := Aside0.mk (show ∀ v ∈ l0, 0 ≤ v.f1 ∧ v.f1 ≤ 3 from fun v hv' => ⟨by have := hv0 v hv'; omega, (hv0 v hv').2⟩)
 have HV1 := Aside0.mk (show ∀ v ∈ l1, 0 ≤ v.f1 ∧ v.f1 ≤ 3 from fun v hv' => ⟨by have := hv1 v hv'; omega, (hv1 v hv').2⟩)
 have hlen := expand_len l0 (fun v h => (hv0 v h).2)
 have HR0 := Aside0.mk hr0
 have HC0 := Aside0.mk hc0
 have HR1 := Aside0.mk hr1
 have HC1 := Aside0.mk hc1
 have H0 := Aside0.mk h0
 have H1 := Aside0.mk h1
 clear hr0 hc0 hr1 hc1 h0 h1 hv0 hv1
 have hu79 := Tryd.underlying94
 have hu89 := Tryd.underlying160
 have hu48 := Tryd.underlying30
 have huP := Tryd.underlying85
 obtain ⟨n, hn⟩ : ∃ n, n = (expand l0).length := ⟨_, rfl⟩
 have hn1 : (expand l1).length = n := by omega
 have hn0 : (expand l0).length = n := by omega
 have hnp : 0 < n := by omega
 have hnb : n ≤ 36 := by omega
 have HN0 := Aside0.mk hn0
 have HN1 := Aside0.mk hn1
 clear hn he hp hlen hn0 hn1
 have e0 : ¬ (n = 0) := by omega
 go_enter Tryd.func68, Tryd.ntmps68
 go_wp2_with fail
 refine (ringOf_yes k A0 c0 l0 _ HR0.out HC0.out H0.out HV0.out hl0).mono ?_
 rintro e w1 ⟨g1, rfl, B1, hI1⟩
 have HI1 := Aside0.mk hI1
 clear hI1
 go_wp2_with fail
 refine (ringOf_yes k A1 c1 l1 _ (Kd.C_below HR1.out HI1.out.below) HC1.out H1.out HV1.out hl1).mono ?_
 rintro e w2 ⟨g2, rfl, B2, hI2⟩
 have HI2 := Aside0.mk hI2
 clear hI2
 have hr1 := (HI1.out.mono HI2.out.below).ring
 have hr2 := HI2.out.ring
 rw [HN0.out] at hr1
 rw [HN1.out] at hr2
 simp only [rp, e0, if_false] at hr1 hr2
 have a0 : w2.cell? ⟨g1, 0, none⟩ = some (.pointer (some ⟨B1 0, 0, none⟩)) := blk_cell hr1 0
 have a2 : w2.cell? ⟨g1, 2, none⟩ = some (.int .i64 (n : Int)) := blk_cell hr1 2
 have b0 : w2.cell? ⟨g2, 0, none⟩ = some (.pointer (some ⟨B2 0, 0, none⟩)) := blk_cell hr2 0
 have b2 : w2.cell? ⟨g2, 2, none⟩ = some (.int .i64 (n : Int)) := blk_cell hr2 2
 have HRG1 := Aside0.mk hr1
 have HRG2 := Aside0.mk hr2
 clear hr1 hr2
 have hneq : ((n : Int) != (n : Int)) = false := by simp
 go_wp2_with fail
 go_quiet (fail)
 have hz1 := blk_new (w2.drewN nq) (.cells #[] 85)
 have hw := blk_alloc (blk_drewN HRG1.out nq) (.cells #[] 85)
 have hw2 := blk_alloc (blk_drewN HRG2.out nq) (.cells #[] 85)
 have a0' : ((w2.drewN nq).alloc (.cells #[] 85)).cell? ⟨g1, 0, none⟩ = some (.pointer (some ⟨B1 0, 0, none⟩)) := blk_cell hw 0
 have a2' : ((w2.drewN nq).alloc (.cells #[] 85)).cell? ⟨g1, 2, none⟩ = some (.int .i64 (n : Int)) := blk_cell hw 2
 have b0' : ((w2.drewN nq).alloc (.cells #[] 85)).cell? ⟨g2, 0, none⟩ = some (.pointer (some ⟨B2 0, 0, none⟩)) := blk_cell hw2 0
 have HZ1 := Aside0.mk hz1
 clear hw hw2 hz1
 go_wp2_with fail
 go_quiet (fail)
 go_wp2_with fail
 go_loopg [10, 11, 12, 53] n (fun kq v10 v11 v12 v53 w' => ∃ i : Nat, v53 = .int .i64 (i : Int) ∧ v11 = .pointer (some ⟨B1 (if i = n then 0 else i), 0, none⟩) ∧ v12 = .pointer (some ⟨B2 (if i = n then 0 else i), 0, none⟩) ∧ Aside0 (i ≤ n ∧ kq = n - i) ∧ Aside0 (Kd.R k85 85 w' w2.heap.size (fun _ => True) v10 ((pairs (expand l0) (expand l1)).take i)) ∧ Aside0 (Below w2.heap.size w2 w'))
 case atStart =>
  have e1 : ¬ (0 = n) := fun e => e0 e.symm
  refine ⟨0, rfl, by simp [e1], by simp [e1], ⟨by omega, by omega⟩, ⟨?_⟩, ⟨?_⟩⟩
  ·exact R_empty0 _ _ _ trivial (blk_drewN HZ1.out _) (Nat.le_refl _)
  ·repeat (first | exact Below.refl _ _ | apply pw_below_drewN | apply below_alloc)
 case round =>
  clear HZ1 a0' a2' b0' a0 a2 b0 b2
  obtain ⟨i, rfl, rfl, rfl, HI, HO, HB⟩ := hrel
  by_cases hin : i < n
  ·have hi0 : i < (expand l0).length := by rw [HN0.out]; exact hin
   have hi1 : i < (expand l1).length := by rw [HN1.out]; exact hin
   have eif : (if i = n then 0 else i) = i := if_neg (by omega)
   simp only [eif]
   have nd1 := ((HI1.out.mono HI2.out.below).mono HB.out).node i hi0
   have nd2 := (HI2.out.mono HB.out).node i hi1
   rw [HN0.out] at nd1
   rw [HN1.out] at nd2
   have p0 : wr.cell? ⟨B1 i, 0, none⟩ = some (.int .i64 (expand l0)[i].f0) := blk_cell nd1 0
   have p1 : wr.cell? ⟨B1 i, 1, none⟩ = some (.bool (expand l0)[i].f1) := blk_cell nd1 1
   have q0 : wr.cell? ⟨B2 i, 0, none⟩ = some (.int .i64 (expand l1)[i].f0) := blk_cell nd2 0
   have q1 : wr.cell? ⟨B2 i, 1, none⟩ = some (.bool (expand l1)[i].f1) := blk_cell nd2 1
   have ND1 := Aside0.mk nd1
   have ND2 := Aside0.mk nd2
   clear nd1 nd2 eif
   go_wp2_with fail
   refine start_ (n := 13) (S := fun w' => w'.cell? ⟨B1 i, 0, none⟩ = some (.int .i64 (expand l0)[i].f0) ∧ w'.cell? ⟨B1 i, 1, none⟩ = some (.bool (expand l0)[i].f1) ∧ w'.cell? ⟨B2 i, 0, none⟩ = some (.int .i64 (expand l1)[i].f0) ∧ w'.cell? ⟨B2 i, 1, none⟩ = some (.bool (expand l1)[i].f1)) (ds := []) #[false, false, false, false, false, false, false, false, false, false, false, false, false] (by kernel_rfl) rfl rfl ⟨p0, p1, q0, q1⟩ (fun hHeld => ?_)
   clear p0 p1 q0 q1
   have HO1 := Aside0.mk (Kd.R_drew HO.out)
   have HB1 := Aside0.mk (below_drew HB.out)
   have ND1' := Aside0.mk (blk_drew ND1.out)
   have ND2' := Aside0.mk (blk_drew ND2.out)
   clear HO HB ND1 ND2
   generalize wr.drew = w5 at HO1 HB1 ND1' ND2' hHeld ⊢
   refine pure_ (i := 0) (N := some 55) (v := ?_) (a' := ?_) #[true, false, false, false, false, false, false, false, false, false, false, false, false] rfl rfl (by kernel_rfl) (fun _ _ _ h => h) (Or.inl ⟨by rfl, ?_⟩) ?_ ?_
   rotate_left
   ·intro w'
    go_simp
    with_reducible rfl
   rotate_left
   ·simp only [Act.put, sA, sZ, sS, i64_w, i32_w]
    rfl
   refine pure_ (i := 1) (N := some 56) (v := ?_) (a' := ?_) #[true, true, false, false, false, false, false, false, false, false, false, false, false] rfl rfl (by kernel_rfl) (fun _ _ _ h => h) (Or.inl ⟨by rfl, ?_⟩) ?_ ?_
   rotate_left
   ·intro w'
    go_simp
    with_reducible rfl
   rotate_left
   ·simp only [Act.put, sA, sZ, sS, i64_w, i32_w]
    rfl
   refine pure_ (i := 2) (N := some 57) (v := ?_) (a' := ?_) #[true, true, true, false, false, false, false, false, false, false, false, false, false] rfl rfl (by kernel_rfl) (fun _ _ _ h => h) (Or.inl ⟨by rfl, ?_⟩) ?_ ?_
   rotate_left
   ·intro w'
    go_simp
    with_reducible rfl
   rotate_left
   ·simp only [Act.put, sA, sZ, sS, i64_w, i32_w]
    rfl
   refine pure_ (i := 3) (N := some 58) (v := ?_) (a' := ?_) #[true, true, true, true, false, false, false, false, false, false, false, false, false] rfl rfl (by kernel_rfl) (fun _ _ _ h => h) (Or.inl ⟨by rfl, ?_⟩) ?_ ?_
   rotate_left
   ·intro w'
    go_simp
    with_reducible rfl
   rotate_left
   ·simp only [Act.put, sA, sZ, sS, i64_w, i32_w]
    rfl
   refine pure_ (i := 5) (N := some 60) (v := ?_) (a' := ?_) #[true, true, true, true, false, true, false, false, false, false, false, false, false] rfl rfl (by kernel_rfl) (fun _ _ _ h => h) (Or.inl ⟨by rfl, ?_⟩) ?_ ?_
   rotate_left
   ·intro w'
    go_simp
    with_reducible rfl
   rotate_left
   ·simp only [Act.put, sA, sZ, sS, i64_w, i32_w]
    rfl
   refine pure_ (i := 6) (N := some 61) (v := ?_) (a' := ?_) #[true, true, true, true, false, true, true, false, false, false, false, false, false] rfl rfl (by kernel_rfl) (fun _ _ _ h => h) (Or.inl ⟨by rfl, ?_⟩) ?_ ?_
   rotate_left
   ·intro w'
    go_simp
    with_reducible rfl
   rotate_left
   ·simp only [Act.put, sA, sZ, sS, i64_w, i32_w]
    rfl
   refine pure_ (i := 7) (N := some 62) (v := ?_) (a' := ?_) #[true, true, true, true, false, true, true, true, false, false, false, false, false] rfl rfl (by kernel_rfl) (fun _ _ _ h => h) (Or.inl ⟨by rfl, ?_⟩) ?_ ?_
   rotate_left
   ·intro w'
    go_simp
    with_reducible rfl
   rotate_left
   ·simp only [Act.put, sA, sZ, sS, i64_w, i32_w]
    rfl
   refine take_ (i := 4) (N := some 59) (v := ?_) (a' := ?_) #[true, true, true, true, true, true, true, true, false, false, false, false, false] rfl rfl (by kernel_rfl) (fun _ _ _ h => h) (Or.inl ⟨by rfl, ?_⟩) hHeld ?_ ?_
   rotate_left
   ·rintro w' ⟨s0, s1, s2, s3⟩
    go_simp
    with_reducible rfl
   rotate_left
   ·simp only [Act.put, sA, sZ, sS, i64_w, i32_w]
    rfl
   refine take_ (i := 8) (N := some 63) (v := ?_) (a' := ?_) #[true, true, true, true, true, true, true, true, true, false, false, false, false] rfl rfl (by kernel_rfl) (fun _ _ _ h => h) (Or.inl ⟨by rfl, ?_⟩) hHeld ?_ ?_
   rotate_left
   ·rintro w' ⟨s0, s1, s2, s3⟩
    go_simp
    with_reducible rfl
   rotate_left
   ·simp only [Act.put, sA, sZ, sS, i64_w, i32_w]
    rfl
   refine pure_ (i := 9) (N := some 64) (v := ?_) (a' := ?_) #[true, true, true, true, true, true, true, true, true, true, false, false, false] rfl rfl (by kernel_rfl) (fun _ _ _ h => h) (Or.inl ⟨by rfl, ?_⟩) ?_ ?_
   rotate_left
   ·intro w'
    go_simp
    with_reducible rfl
   rotate_left
   ·simp only [Act.put, sA, sZ, sS, i64_w, i32_w]
    rfl
   refine one_ (i := 10) (N := some 65) #[true, true, true, true, true, true, true, true, true, true, true, false, false] rfl rfl (by kernel_rfl) (by decide) (fun K hK => ?_)
   refine value_ (w1 := ?_) (v := ?_) (by rfl) rfl ?_ ?_
   rotate_left 2
   ·go_simp
    constructor
    ·rfl
    ·rfl
   refine hK.out _ _ ⟨blk_cell (blk_alloc ND1'.out _) 0, blk_cell (blk_alloc ND1'.out _) 1, blk_cell (blk_alloc ND2'.out _) 0, blk_cell (blk_alloc ND2'.out _) 1⟩ (fun hHeld => ?_)
   clear hK K
   refine norm_ (a' := ?_) ?_ ?_
   rotate_left
   ·show Act.put _ (some 65) _ = _
    simp only [Act.put, sA, sZ, sS, i64_w, i32_w]
    rfl
   refine one_ (i := 11) (N := some 66) #[true, true, true, true, true, true, true, true, true, true, true, true, false] rfl rfl (by kernel_rfl) (by decide) (fun K hK => ?_)
   refine Kd.R_append_step k85 (w0 := w2) w2.heap.size (by rfl) (.tmp 55) (.tmp 65) 81 85 (.agg #[(.int .i64 0), (.bool false), (.int .i64 0), (.bool false)]) 32 rfl Tryd.underlying81 info85 rfl (by decide) (by omega) u10 ((pairs (expand l0) (expand l1)).take i) (⟨(expand l0)[i], (expand l1)[i]⟩ : S85) [.int .i64 (expand l0)[i].f0, .bool (expand l0)[i].f1, .int .i64 (expand l1)[i].f0, .bool (expand l1)[i].f1] (fun _ => True) (fun _ => False) rfl rfl ?aP (fun _ hk => hk.elim) ?aF ?aO ?aB ?aS ?aL ?_
   (case aP => exact k85_mkM _ _ _ (⟨(expand l0)[i], (expand l1)[i]⟩ : S85))
   (case aB => exact HB1.out)
   (case aF => exact (fun _ _ => trivial))
   (case aO => exact HO1.out)
   (case aS => exact (below_size HB1.out))
   (case aL => rw [List.length_take]; omega)
   intro v1 w6 ho hb hg hat
   rw [← pairs_snoc _ _ i hi0 hi1] at ho
   have M1 := Aside0.mk (blk_grown ND1'.out hg (Kd.R_ne HO1.out ND1'.out (by decide)))
   have M2 := Aside0.mk (blk_grown ND2'.out hg (Kd.R_ne HO1.out ND2'.out (by decide)))
   have HO2 := Aside0.mk ho
   have HB2 := Aside0.mk hb
   clear HO1 HB1 ND1' ND2' ho hb hg hat
   refine hK.out _ _ ⟨blk_cell M1.out 0, blk_cell M1.out 1, blk_cell M2.out 0, blk_cell M2.out 1⟩ (fun hHeld => ?_)
   clear hK K
   refine norm_ (a' := ?_) ?_ ?_
   rotate_left
   ·show Act.put _ (some 66) _ = _
    simp only [Act.put, sA, sZ, sS, i64_w, i32_w]
    rfl
   refine pure_ (i := 12) (N := some 10) (v := ?_) (a' := ?_) #[true, true, true, true, true, true, true, true, true, true, true, true, true] rfl rfl (by kernel_rfl) (fun _ _ _ h => h) (Or.inl ⟨by rfl, ?_⟩) ?_ ?_
   rotate_left
   ·intro w'
    go_simp
    with_reducible rfl
   rotate_left
   ·simp only [Act.put, sA, sZ, sS, i64_w, i32_w]
    rfl
   refine done_ (by kernel_rfl) ?_
   have p2 : w6.cell? ⟨B1 i, 2, none⟩ = some (.pointer (some ⟨B1 (if i + 1 = n then 0 else i + 1), 0, none⟩)) := blk_cell M1.out 2
   have q2 : w6.cell? ⟨B2 i, 2, none⟩ = some (.pointer (some ⟨B2 (if i + 1 = n then 0 else i + 1), 0, none⟩)) := blk_cell M2.out 2
   clear hHeld
   generalize hj : (if i + 1 = n then 0 else i + 1) = j at p2 q2
   have HJ := Aside0.mk hj
   clear hj
   go_wp2_with fail
   go_quiet (fail)
   go_wp2_with fail
   go_roundg (n - (i + 1))
   case measure => have := HI.out; omega
   case rel => exact ⟨i + 1, by simp, by rw [HJ.out], by rw [HJ.out], ⟨by omega, rfl⟩, ⟨Kd.R_drewN HO2.out _⟩, ⟨pw_below_drewN HB2.out _⟩⟩
  ·have e : i = n := by have := HI.out; omega
   have eif : (if i = n then 0 else i) = 0 := if_pos e
   simp only [eif]
   clear eif
   have HE2 := Aside0.mk e
   clear e
   go_wp2
   go_ret2
   have e := HE2.out
   have hR := HO.out
   have hlen : (pairs (expand l0) (expand l1)).length = n := by
    unfold pairs
    rw [List.length_zipWith, HN0.out, HN1.out]
    omega
   rw [e, List.take_of_length_le (by omega)] at hR
   have hb2 := below_step HI1.out.below HI2.out.below
   exact ⟨u10, rfl, Kd.R_lower hR (below_size hb2), below_step hb2 HB.out⟩
set_option maxHeartbeats 4000000 in
set_option maxRecDepth 100000 in
theorem sounds_none (k : Nat) (A0 : Option Addr) (c0 : Nat) (l0 : List (S44)) (A1 : Option Addr) (c1 : Nat) (l1 : List (S44)) (w : World) (hr0 : Kd.C k44 w A0 l0.length l0) (hc0 : l0.length ≤ c0) (hr1 : Kd.C k44 w A1 l1.length l1) (hc1 : l1.length ≤ c1)
  (h0 : impl_PartValid.f k l0 = some true) (h1 : impl_PartValid.f k l1 = some true) (he : (expand l0).length = (expand l1).length) (hp : (expand l0).length = 0) :
  Calls Tryd.prog 68 #[.slice A0 l0.length c0, .slice A1 l1.length c1] w fun e w' => ∃ v0_ : Value, e = .returned (.tuple #[v0_, .bool true]) ∧ Kd.R k85 85 w' w.heap.size (fun _ => True) v0_ (pairs (expand l0) (expand l1)) ∧ Below w.heap.size w w' := by
 obtain ⟨hl0, hv0⟩ := valid_true h0
 obtain ⟨hl1, hv1⟩ := valid_true h1
 have HV0 := Aside0.mk (show ∀ v ∈ l0, 0 ≤ v.f1 ∧ v.f1 ≤ 3 from fun v hv' => ⟨by have := hv0 v hv'; omega, (hv0 v hv').2⟩)
 have HV1 := Aside0.mk (show ∀ v ∈ l1, 0 ≤ v.f1 ∧ v.f1 ≤ 3 from fun v hv' => ⟨by have := hv1 v hv'; omega, (hv1 v hv').2⟩)
 have HR0 := Aside0.mk hr0
 have HC0 := Aside0.mk hc0
 have HR1 := Aside0.mk hr1
 have HC1 := Aside0.mk hc1
 have H0 := Aside0.mk h0
 have H1 := Aside0.mk h1
 have HN0 := Aside0.mk hp
 have HN1 := Aside0.mk (he.symm.trans hp)
 clear hr0 hc0 hr1 hc1 h0 h1 hv0 hv1 hp he
 have hu79 := Tryd.underlying94
 have hu89 := Tryd.underlying160
 have hu48 := Tryd.underlying30
 have huP := Tryd.underlying85
 go_enter Tryd.func68, Tryd.ntmps68
 go_wp2_with fail
 refine (ringOf_yes k A0 c0 l0 _ HR0.out HC0.out H0.out HV0.out hl0).mono ?_
 rintro e w1 ⟨g1, rfl, B1, hI1⟩
 have HI1 := Aside0.mk hI1
 clear hI1
 go_wp2_with fail
 refine (ringOf_yes k A1 c1 l1 _ (Kd.C_below HR1.out HI1.out.below) HC1.out H1.out HV1.out hl1).mono ?_
 rintro e w2 ⟨g2, rfl, B2, hI2⟩
 have HI2 := Aside0.mk hI2
 clear hI2
 have hr1 := (HI1.out.mono HI2.out.below).ring
 have hr2 := HI2.out.ring
 rw [HN0.out] at hr1
 rw [HN1.out] at hr2
 simp only [rp, if_true] at hr1 hr2
 have a0 : w2.cell? ⟨g1, 0, none⟩ = some (.pointer none) := blk_cell hr1 0
 have a2 : w2.cell? ⟨g1, 2, none⟩ = some (.int .i64 0) := blk_cell hr1 2
 have b0 : w2.cell? ⟨g2, 0, none⟩ = some (.pointer none) := blk_cell hr2 0
 have b2 : w2.cell? ⟨g2, 2, none⟩ = some (.int .i64 0) := blk_cell hr2 2
 have HRG1 := Aside0.mk hr1
 have HRG2 := Aside0.mk hr2
 clear hr1 hr2
 go_wp2_with fail
 go_quiet (fail)
 have hz1 := blk_new (w2.drewN nq) (.cells #[] 85)
 have hw := blk_alloc (blk_drewN HRG1.out nq) (.cells #[] 85)
 have hw2 := blk_alloc (blk_drewN HRG2.out nq) (.cells #[] 85)
 have a0' : ((w2.drewN nq).alloc (.cells #[] 85)).cell? ⟨g1, 0, none⟩ = some (.pointer none) := blk_cell hw 0
 have a2' : ((w2.drewN nq).alloc (.cells #[] 85)).cell? ⟨g1, 2, none⟩ = some (.int .i64 0) := blk_cell hw 2
 have b0' : ((w2.drewN nq).alloc (.cells #[] 85)).cell? ⟨g2, 0, none⟩ = some (.pointer none) := blk_cell hw2 0
 have HZ1 := Aside0.mk hz1
 clear hw hw2 hz1
 go_wp2_with fail
 go_quiet (fail)
 go_wp2_with fail
 refine (wp_loop_rounds 1 ?_)
 rw [rounds_succ]
 go_wp2
 go_ret2
 have hb2 := below_step HI1.out.below HI2.out.below
 have e0 : pairs (expand l0) (expand l1) = [] := by
  have : (pairs (expand l0) (expand l1)).length = 0 := by
   unfold pairs
   rw [List.length_zipWith, HN0.out]
   omega
  exact List.length_eq_zero_iff.mp this
 rw [e0]
 exact ⟨_, rfl, R_empty0 _ _ _ trivial (blk_drewN HZ1.out _) (below_size hb2), by repeat (first | exact hb2 | apply pw_below_drewN | apply below_alloc)⟩
set_option maxHeartbeats 4000000 in
set_option maxRecDepth 100000 in
theorem sounds_ff (k : Nat) (A0 : Option Addr) (c0 : Nat) (l0 : List (S44)) (A1 : Option Addr) (c1 : Nat) (l1 : List (S44)) (w : World) (hr0 : Kd.C k44 w A0 l0.length l0) (hc0 : l0.length ≤ c0) (hr1 : Kd.C k44 w A1 l1.length l1) (hc1 : l1.length ≤ c1)
  (h0 : impl_PartValid.f k l0 = some false) (h1 : impl_PartValid.f k l1 = some false) :
  Calls Tryd.prog 68 #[.slice A0 l0.length c0, .slice A1 l1.length c1] w fun e w' => e = .returned (.tuple #[.slice none 0 0, .bool false]) ∧ Below w.heap.size w w' := by
 have HR0 := Aside0.mk hr0
 have HC0 := Aside0.mk hc0
 have HR1 := Aside0.mk hr1
 have HC1 := Aside0.mk hc1
 have H0 := Aside0.mk h0
 have H1 := Aside0.mk h1
 clear hr0 hc0 hr1 hc1 h0 h1
 have hu79 := Tryd.underlying94
 go_enter Tryd.func68, Tryd.ntmps68
 go_wp2_with fail
 refine (ringOf_no k A0 c0 l0 _ HR0.out HC0.out H0.out).mono ?_
 rintro e w1 ⟨rfl, hb1⟩
 have HB1 := Aside0.mk hb1
 clear hb1
 go_wp2_with fail
 refine (ringOf_no k A1 c1 l1 _ (Kd.C_below HR1.out HB1.out) HC1.out H1.out).mono ?_
 rintro e w2 ⟨rfl, hb2⟩
 have HB := Aside0.mk (below_step HB1.out hb2)
 clear hb2
 go_wp2_with fail
 go_quiet (fail)
 go_wp2
 go_ret2
 exact ⟨rfl, pw_below_drewN HB.out _⟩
set_option maxHeartbeats 4000000 in
set_option maxRecDepth 100000 in
theorem sounds_ft (k : Nat) (A0 : Option Addr) (c0 : Nat) (l0 : List (S44)) (A1 : Option Addr) (c1 : Nat) (l1 : List (S44)) (w : World) (hr0 : Kd.C k44 w A0 l0.length l0) (hc0 : l0.length ≤ c0) (hr1 : Kd.C k44 w A1 l1.length l1) (hc1 : l1.length ≤ c1)
  (h0 : impl_PartValid.f k l0 = some false) (h1 : impl_PartValid.f k l1 = some true) :
  Calls Tryd.prog 68 #[.slice A0 l0.length c0, .slice A1 l1.length c1] w fun e w' => e = .returned (.tuple #[.slice none 0 0, .bool false]) ∧ Below w.heap.size w w' := by
 obtain ⟨hl1, hv1⟩ := valid_true h1
 have HV1 := Aside0.mk (show ∀ v ∈ l1, 0 ≤ v.f1 ∧ v.f1 ≤ 3 from fun v hv' => ⟨by have := hv1 v hv'; omega, (hv1 v hv').2⟩)
 clear hv1
 have HR0 := Aside0.mk hr0
 have HC0 := Aside0.mk hc0
 have HR1 := Aside0.mk hr1
 have HC1 := Aside0.mk hc1
 have H0 := Aside0.mk h0
 have H1 := Aside0.mk h1
 clear hr0 hc0 hr1 hc1 h0 h1
 have hu79 := Tryd.underlying94
 go_enter Tryd.func68, Tryd.ntmps68
 go_wp2_with fail
 refine (ringOf_no k A0 c0 l0 _ HR0.out HC0.out H0.out).mono ?_
 rintro e w1 ⟨rfl, hb1⟩
 have HB1 := Aside0.mk hb1
 clear hb1
 go_wp2_with fail
 refine (ringOf_yes k A1 c1 l1 _ (Kd.C_below HR1.out HB1.out) HC1.out H1.out HV1.out hl1).mono ?_
 rintro e w2 ⟨g2, rfl, B2, hI2⟩
 have HB := Aside0.mk (below_step HB1.out hI2.below)
 clear hI2
 go_wp2_with fail
 go_quiet (fail)
 go_wp2
 go_ret2
 exact ⟨rfl, pw_below_drewN HB.out _⟩
set_option maxHeartbeats 4000000 in
set_option maxRecDepth 100000 in
theorem sounds_tf (k : Nat) (A0 : Option Addr) (c0 : Nat) (l0 : List (S44)) (A1 : Option Addr) (c1 : Nat) (l1 : List (S44)) (w : World) (hr0 : Kd.C k44 w A0 l0.length l0) (hc0 : l0.length ≤ c0) (hr1 : Kd.C k44 w A1 l1.length l1) (hc1 : l1.length ≤ c1)
  (h0 : impl_PartValid.f k l0 = some true) (h1 : impl_PartValid.f k l1 = some false) :
  Calls Tryd.prog 68 #[.slice A0 l0.length c0, .slice A1 l1.length c1] w fun e w' => e = .returned (.tuple #[.slice none 0 0, .bool false]) ∧ Below w.heap.size w w' := by
 obtain ⟨hl0, hv0⟩ := valid_true h0
 have HV0 := Aside0.mk (show ∀ v ∈ l0, 0 ≤ v.f1 ∧ v.f1 ≤ 3 from fun v hv' => ⟨by have := hv0 v hv'; omega, (hv0 v hv').2⟩)
 clear hv0
 have HR0 := Aside0.mk hr0
 have HC0 := Aside0.mk hc0
 have HR1 := Aside0.mk hr1
 have HC1 := Aside0.mk hc1
 have H0 := Aside0.mk h0
 have H1 := Aside0.mk h1
 clear hr0 hc0 hr1 hc1 h0 h1
 have hu79 := Tryd.underlying94
 go_enter Tryd.func68, Tryd.ntmps68
 go_wp2_with fail
 refine (ringOf_yes k A0 c0 l0 _ HR0.out HC0.out H0.out HV0.out hl0).mono ?_
 rintro e w1 ⟨g1, rfl, B1, hI1⟩
 have HI1 := Aside0.mk hI1
 clear hI1
 go_wp2_with fail
 refine (ringOf_no k A1 c1 l1 _ (Kd.C_below HR1.out HI1.out.below) HC1.out H1.out).mono ?_
 rintro e w2 ⟨rfl, hb2⟩
 have HB := Aside0.mk (below_step HI1.out.below hb2)
 clear hb2
 go_wp2_with fail
 go_quiet (fail)
 go_wp2
 go_ret2
 exact ⟨rfl, pw_below_drewN HB.out _⟩
set_option maxHeartbeats 4000000 in
set_option maxRecDepth 100000 in
theorem sounds_tt (k : Nat) (A0 : Option Addr) (c0 : Nat) (l0 : List (S44)) (A1 : Option Addr) (c1 : Nat) (l1 : List (S44)) (w : World) (hr0 : Kd.C k44 w A0 l0.length l0) (hc0 : l0.length ≤ c0) (hr1 : Kd.C k44 w A1 l1.length l1) (hc1 : l1.length ≤ c1)
  (h0 : impl_PartValid.f k l0 = some true) (h1 : impl_PartValid.f k l1 = some true) (he : ¬ (expand l0).length = (expand l1).length) :
  Calls Tryd.prog 68 #[.slice A0 l0.length c0, .slice A1 l1.length c1] w fun e w' => e = .returned (.tuple #[.slice none 0 0, .bool false]) ∧ Below w.heap.size w w' := by
 obtain ⟨hl0, hv0⟩ := valid_true h0
 have HV0 := Aside0.mk (show ∀ v ∈ l0, 0 ≤ v.f1 ∧ v.f1 ≤ 3 from fun v hv' => ⟨by have := hv0 v hv'; omega, (hv0 v hv').2⟩)
 clear hv0
 obtain ⟨hl1, hv1⟩ := valid_true h1
 have HV1 := Aside0.mk (show ∀ v ∈ l1, 0 ≤ v.f1 ∧ v.f1 ≤ 3 from fun v hv' => ⟨by have := hv1 v hv'; omega, (hv1 v hv').2⟩)
 clear hv1
 have HR0 := Aside0.mk hr0
 have HC0 := Aside0.mk hc0
 have HR1 := Aside0.mk hr1
 have HC1 := Aside0.mk hc1
 have H0 := Aside0.mk h0
 have H1 := Aside0.mk h1
 clear hr0 hc0 hr1 hc1 h0 h1
 have hu79 := Tryd.underlying94
 have hneq : (((expand l0).length : Int) != ((expand l1).length : Int)) = true := by
  rw [bne_iff_ne]
  omega
 have hneq2 : ((expand l0).length != (expand l1).length) = true := by
  rw [bne_iff_ne]
  exact he
 clear he
 go_enter Tryd.func68, Tryd.ntmps68
 go_wp2_with fail
 refine (ringOf_yes k A0 c0 l0 _ HR0.out HC0.out H0.out HV0.out hl0).mono ?_
 rintro e w1 ⟨g1, rfl, B1, hI1⟩
 have HI1 := Aside0.mk hI1
 clear hI1
 go_wp2_with fail
 refine (ringOf_yes k A1 c1 l1 _ (Kd.C_below HR1.out HI1.out.below) HC1.out H1.out HV1.out hl1).mono ?_
 rintro e w2 ⟨g2, rfl, B2, hI2⟩
 have a2 : w2.cell? ⟨g1, 2, none⟩ = some (.int .i64 ((expand l0).length : Int)) := blk_cell (HI1.out.mono hI2.below).ring 2
 have b2 : w2.cell? ⟨g2, 2, none⟩ = some (.int .i64 ((expand l1).length : Int)) := blk_cell hI2.ring 2
 have HB := Aside0.mk (below_step HI1.out.below hI2.below)
 clear hI2
 go_wp2_with fail
 go_quiet (fail)
 go_wp2
 go_ret2
 exact ⟨rfl, pw_below_drewN HB.out _⟩
theorem impl_soundsOf.calls (k : Nat) (A0 : Option Addr) (c0 : Nat) (l0 : List (S44)) (A1 : Option Addr) (c1 : Nat) (l1 : List (S44)) (r1 : List (S85)) (r2 : Bool) (w : World) (hr0 : Kd.C k44 w A0 l0.length l0) (hc0 : l0.length ≤ c0) (hr1 : Kd.C k44 w A1 l1.length l1) (hc1 : l1.length ≤ c1) (h : impl_soundsOf.f k l0 l1 = some (r1, r2)) :
  Calls Tryd.prog 68 #[.slice A0 l0.length c0, .slice A1 l1.length c1] w fun e w' => ∃ v0_ : Value, e = .returned (.tuple #[v0_, .bool r2]) ∧ Kd.R k85 85 w' w.heap.size (fun _ => True) v0_ r1 ∧ Below w.heap.size w w' := by
 obtain ⟨a, h0, h⟩ := Option.bind_eq_some_iff.mp h
 obtain ⟨b, h1, h⟩ := Option.bind_eq_some_iff.mp h
 have e1 := Option.some.inj h
 clear h
 cases a with
 | false =>
  rw [if_neg (by simp)] at e1
  obtain ⟨rfl, rfl⟩ := Prod.mk.inj e1
  cases b with
  | false => exact (sounds_ff k A0 c0 l0 A1 c1 l1 w hr0 hc0 hr1 hc1 h0 h1).mono fun e w' ⟨he, hb⟩ => ⟨_, he, Kd.R_nil _ _ _ _ _, hb⟩
  | true => exact (sounds_ft k A0 c0 l0 A1 c1 l1 w hr0 hc0 hr1 hc1 h0 h1).mono fun e w' ⟨he, hb⟩ => ⟨_, he, Kd.R_nil _ _ _ _ _, hb⟩
 | true =>
  cases b with
  | false =>
   rw [if_neg (by simp)] at e1
   obtain ⟨rfl, rfl⟩ := Prod.mk.inj e1
   exact (sounds_tf k A0 c0 l0 A1 c1 l1 w hr0 hc0 hr1 hc1 h0 h1).mono fun e w' ⟨he, hb⟩ => ⟨_, he, Kd.R_nil _ _ _ _ _, hb⟩
  | true =>
   by_cases he : (expand l0).length = (expand l1).length
   ·rw [if_pos ⟨rfl, rfl, he⟩] at e1
    obtain ⟨rfl, rfl⟩ := Prod.mk.inj e1
    by_cases hp : (expand l0).length = 0
    ·exact sounds_none k A0 c0 l0 A1 c1 l1 w hr0 hc0 hr1 hc1 h0 h1 he hp
    ·exact sounds_ok k A0 c0 l0 A1 c1 l1 w hr0 hc0 hr1 hc1 h0 h1 he (by omega)
   ·rw [if_neg (fun z => he z.2.2)] at e1
    obtain ⟨rfl, rfl⟩ := Prod.mk.inj e1
    exact (sounds_tt k A0 c0 l0 A1 c1 l1 w hr0 hc0 hr1 hc1 h0 h1 he).mono fun e w' ⟨he, hb⟩ => ⟨_, he, Kd.R_nil _ _ _ _ _, hb⟩


end Go.Proofs.YtcndojoghmblaaaDoor.GB
